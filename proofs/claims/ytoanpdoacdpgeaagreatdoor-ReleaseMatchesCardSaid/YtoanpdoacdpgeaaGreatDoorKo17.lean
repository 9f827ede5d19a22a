/-
  Lemmas and walks, put together: Rw R3.
-/
import Derived.Test.YtoanpdoacdpgeaaGreatDoorKo15
set_option linter.unusedSimpArgs false
set_option linter.unusedVariables false
set_option maxRecDepth 20000
namespace Go.SL
open Go
theorem s8: ∀ (l:List Int) {v:Int},(∀ c∈l,48≤c)→0≤v→0≤bD l v
 | [],_,_,h=>h
 |c::r,v,hl,h=>by
  rw [bD]
  refine s8 r (fun d hd=>hl d (Rq _ hd)) ?_
  have:=hl c QY
  omega
theorem lL {p:Int→Bool}: ∀ {l:List Int} {c:Int},c∈l.take (aD p l)→p c=true
 | [],_,h=>by cases h
 |d::r,c,h=>by
  rw [aD] at h
  split at h
  ·
   rename_i hd
   rw [Sl] at h
   rcases Rs.1 h with rfl|h
   ·
    exact hd
   ·
    exact lL h
  ·
   cases h
theorem C0 {l:List Int} {v:Int} {n:Nat} (h:kS l=some (v,n)):0≤v:=by
 unfold kS at h
 dsimp only at h
 split at h
 ·
  cases h
 ·
  split at h
  ·
   cases h
  ·
   cases h
   refine s8 _ (fun c hc=> ?_) (SQ _)
   rw [Ru,Ru] at hc
   rcases hc with (hc|hc)|hc
   ·
    have:=lL hc
    rw [fg] at this
    exact this.1
   ·
    have hp:bZ (l.drop (aD aG l))=0∨ ∃ r,l.drop (aD aG l)=46::r∧bZ (l.drop (aD aG l))=aD aG r:=by
     by_cases h0:bZ (l.drop (aD aG l))=0
     ·
      exact .inl h0
     ·
      exact .inr (nS h0)
    rcases hp with hp|⟨r,hr,hp⟩
    ·
     rw [hp] at hc;cases hc
    ·
     have hr' :l.drop (aD aG l+1)=r:=by rw [← TE,hr];rfl
     rw [hr',hp] at hc
     have:=lL hc
     rw [fg] at this
     exact this.1
   ·
    rw [List.eq_of_mem_replicate hc];decide
theorem zh (l:List Int): ∀ (ns:List (List Int)) {i c:Int} {n:Nat},0≤i→kA l ns i=some (c,n)→0≤c
 | [],_,_,_,_,h=>by cases h
 |s::r,i,c,n,hi,h=>by
  rw [kA] at h
  split at h
  ·
   cases h;exact hi
  ·
   exact zh l r (by omega) h
theorem Hz (l:List Int): ∀ (ns:List (List Int × Int)) {c:Int} {n:Nat},opL l ns=some (c,n)→ ∃ s∈ns,s.2=c
 | [],_,_,h=>by cases h
 |(s,k)::r,c,n,h=>by
  rw [opL] at h
  split at h
  ·
   cases h;exact ⟨_,QY,rfl⟩
  ·
   obtain ⟨x,hx,he⟩:=Hz l r h
   exact ⟨x,Rq _ hx,he⟩
theorem IV {l:List Int} {t:Tk} {n:Nat} (h:jD l=some (t,n)):0≤t.num:=by
 unfold jD at h
 split at h
 ·
  rename_i x hx
  cases h
  unfold kW at hx
  obtain ⟨⟨c,m⟩,hy,hz⟩:=Sn.1 hx
  cases hz
  exact zh l _ (by decide) hy
 ·
  unfold iI at h
  split at h
  ·
   rename_i hx
   cases h
   obtain ⟨s,hs,he⟩:=Hz l _ hx
   have: ∀ s∈fu,0≤s.2:=by decide
   exact he ▸ this s hs
  ·
   split at h
   ·
    cases h;simp
   ·
    split at h
    ·
     cases h;simp
    ·
     split at h
     ·
      cases h;simp
     ·
      cases h
theorem Ie {l:List Int} {t:Tk} {n:Nat} (h:gZ l=some (t,n)):0≤t.num:=by
 unfold gZ at h
 split at h
 ·
  cases h
 ·
  split at h
  ·
   cases h;simp
  ·
   split at h
   ·
    cases h;simp
   ·
    split at h
    ·
     cases h;simp
    ·
     split at h
     ·
      cases h
     ·
      split at h
      ·
       cases h;simp
      ·
       cases h;simp
theorem EX {l:List Int} {t:Tk} {n:Nat} (h:bB l=some (t,n)):0≤t.num:=by
 unfold bB at h
 split at h
 ·
  obtain ⟨⟨v,m⟩,hy,hx⟩:=Sn.1 h
  cases hx
  exact C0 hy
 ·
  split at h
  ·
   obtain ⟨x,_,hx⟩:=Sn.1 h
   cases hx;simp
  ·
   split at h
   ·
    exact Ie h
   ·
    exact IV h
theorem Ca {l:List Int}: ∀ (f i:Nat) (r:List Tk),bn bB l f i= .ok r→ ∀ t∈r,0≤t.num:=by
 intro f
 induction f with
 |zero=>intro i r h;cases h;exact fun _ h=>by cases h
 |succ f ih=>
  intro i r h
  simp only [bn] at h
  split at h
  ·
   cases h;exact fun _ h=>by cases h
  ·
   split at h
   ·
    exact ih _ _ h
   ·
    split at h
    ·
     cases h
    ·
     rename_i t n ht
     cases hr:bn bB l f (i+n) with
     |error e=>rw [hr] at h;cases h
     |ok r' =>
      rw [hr] at h
      cases h
      intro u hu
      rcases Rs.1 hu with rfl|hu
      ·
       have:=EX ht
       exact this
      ·
       exact ih _ _ hr u hu
theorem tP (l:List Int): ∀ t∈(bq bB l).1,0≤t.num:=by
 unfold bq
 split
 ·
  exact fun _ h=>by cases h
 ·
  split
  ·
   exact fun _ h=>by cases h
  ·
   split
   ·
    rename_i r hr
    exact Ca _ _ _ hr
   ·
    exact fun _ h=>by cases h
def Wf (p:PS):Prop:=(∀ t∈p.l,0≤t.num)∧ ∀ n∈p.out,wfN n
theorem Wf.skip {p:PS} (h:Wf p):Wf p.skip:=⟨fun t ht=>h.1 t (List.mem_of_mem_tail ht),h.2⟩
theorem Wf.put {p:PS} (h:Wf p) {n:Nd} (hn:wfN n):Wf (p.put n):=⟨h.1,fun m hm=>by
 rcases Ru.1 hm with hm|hm
 ·
  exact h.2 m hm
 ·
  rw [Rp.1 hm];exact hn⟩
theorem NQ {fin:Int} {l:List Tk} (h: ∀ t∈l,0≤t.num):0≤(hdT fin l).num:=by
 cases l with
 |nil=>exact SQ _
 |cons t r=>exact h t QY
theorem oL (k:Int) (r:Rct) (o:Int):wfN ⟨k,bI,r,o,0,0⟩:=⟨by simp [bI],SQ 0,by simp⟩
theorem OZ {t:Tk} (h:0≤t.num):wfN (mK t):=by
 unfold mK
 refine ⟨?_,SQ 0,by simp⟩
 simp only
 split
 ·
  simp only;omega
 ·
  split
  ·
   simp
  ·
   split
   ·
    simp only;omega
   ·
    simp only;omega
theorem uK (b:ByteArray):0≤(bg b).1∧(bg b).1≤255:=by
 have hb1:=jl dr b 0 (by omega)
 rw [ji] at hb1
 unfold bg
 split
 ·
  dsimp only;omega
 ·
  dsimp only;omega
theorem xe {fin:Int} {name:Tk} {fn:Int} {n m:Nat} {p p' :PS} (h:dg fin name fn n p=some (.ok (m,p'))) (hw:Wf p) (h0:0≤fn) (h1:fn≤255):Wf p' :=by
 unfold dg at h
 dsimp only at h
 split at h
 ·
  cases h
 ·
  split at h
  ·
   cases h
  ·
   split at h
   ·
    cases h
   ·
    cases h
    exact hw.skip.put ⟨by simp [bI],h0,h1⟩
theorem zU (fin:Int): ∀ (f:Nat) (j:Job) (p:PS) (n:Nat) (p' :PS),bz fin f j p=some (.ok (n,p'))→Wf p→Wf p'
 |0,_,_,_,_,h,_=>by cases h
 |f+1,j,p,n,p',h,hw=>by
  have ih:=zU fin f
  cases j with
  |level k=>
   rw [bz] at h
   split at h
   ·
    exact ih _ _ _ _ h hw
   ·
    obtain ⟨n1,p1,h1,h2⟩:=cC h
    exact ih _ _ _ _ h2 (ih _ _ _ _ h1 hw)
  |loop k=>
   rw [bz] at h
   try dsimp only at h
   split at h
   ·
    obtain ⟨n1,p1,h1,h2⟩:=cC h
    exact ih _ _ _ _ h2 ((ih _ _ _ _ h1 hw.skip).put (oL _ _ _))
   ·
    cases h;exact hw
  |sign=>
   rw [bz] at h
   try dsimp only at h
   split at h
   ·
    obtain ⟨n1,p1,h1,h2⟩:=cC h
    cases h2
    exact (ih _ _ _ _ h1 hw.skip).put (oL _ _ _)
   ·
    obtain ⟨n1,p1,h1,h2⟩:=cC h
    split at h2
    ·
     obtain ⟨n2,p2,h3,h4⟩:=cC h2
     cases h4
     exact (ih _ _ _ _ h3 (ih _ _ _ _ h1 hw).skip).put (oL _ _ _)
    ·
     cases h2
     exact ih _ _ _ _ h1 hw
  |pct=>
   rw [bz] at h
   obtain ⟨n1,p1,h1,h2⟩:=cC h
   exact ih _ _ _ _ h2 (ih _ _ _ _ h1 hw)
  |pctl=>
   rw [bz] at h
   try dsimp only at h
   split at h
   ·
    exact ih _ _ _ _ h (hw.skip.put (oL _ _ _))
   ·
    cases h;exact hw
  |prim=>
   rw [bz] at h
   try dsimp only at h
   split at h
   ·
    cases h
    exact hw.skip.put (OZ (NQ hw.1))
   ·
    split at h
    ·
     cases h
     exact hw.skip.put (oL _ _ _)
    ·
     split at h
     ·
      obtain ⟨n1,p1,h1,h2⟩:=cC h
      split at h2
      ·
       cases h2
      ·
       cases h2
       exact (ih _ _ _ _ h1 hw.skip).skip
     ·
      split at h
      ·
       split at h
       ·
        cases h
       ·
        have hb:=uK (hdT fin p.l).text
        split at h
        ·
         cases h
        ·
         split at h
         ·
          exact xe h hw.skip.skip hb.1 hb.2
         ·
          obtain ⟨n1,p1,h1,h2⟩:=cC h
          exact xe h2 (ih _ _ _ _ h1 hw.skip.skip) hb.1 hb.2
      ·
       cases h
  |args fn i=>
   rw [bz] at h
   try dsimp only at h
   have hgo: ∀ p0:PS,Wf p0→(if (hdT fin p0.l).kind=11 then bz fin f (.args fn (i+1)) p0.skip else some (.ok (i+1,p0)))=some (.ok (n,p'))→Wf p' :=by
    intro p0 hw0 h0
    split at h0
    ·
     exact ih _ _ _ _ h0 hw0.skip
    ·
     cases h0;exact hw0
   split at h
   ·
    obtain ⟨n1,p1,h1,h2⟩:=cC h
    exact hgo p1 (ih _ _ _ _ h1 hw) h2
   ·
    split at h
    ·
     cases h
    ·
     exact hgo _ (hw.skip.put (oL _ _ _)) h
end Go.SL
namespace Go.SL
open Go Go.Proofs Go.RowKit
section
variable {P:Program} {n:Fr} {w0:World} {Q:bP} {s:az} {H:List Blk} {ty:TypeId} {x y:Operand} {k:IntKind} {a b:Int} {t t' :TypeId}
theorem Qd (hx:ev s x=some (.int k a)) (hy:ev s y=some (.int k b)) (h:b≠0):VOp P w0 s H (.binOp .quo t x y t') ty (.int k (k.wrap (a.tdiv b))):=fun ρ w _ _ _ _ hρ _=>by
 simp [execOp,hρ x _ hx,hρ y _ hy,eqGuard,binOp,Op.intDiv,h]
theorem ni {c:Int} (hx:ev s x=some (.int k a)) (hy:ev s y=some (.int k b)) (h:b≠0) (hc:k.wrap (a.tdiv b)=c):VOp P w0 s H (.binOp .quo t x y t') ty (.int k c):=hc ▸ Qd hx hy h
theorem qL {c:Int} (hx:ev s x=some (.int k a)) (hy:ev s y=some (.int k b)) (h:b≠0) (hc:a.tmod b=c):VOp P w0 s H (.binOp .rem t x y t') ty (.int k c):=hc ▸ OE hx hy h
theorem gT {c:Int} (hx:ev s x=some (.int k a)) (hy:ev s y=some (.int k b)) (hc:k.wrap (a*b)=c):VOp P w0 s H (.binOp .mul t x y t') ty (.int k c):=hc ▸ EJ hx hy
end
attribute [local irreducible] W WL WQ WG WA WX WLI WR WT WC VOp RW thn blk bp scp aR ba bE aF FnIn FnP ceP
def fU (v:Int):List Value:= [.int .u64 (v / 18446744073709551616),.int .u64 (v % 18446744073709551616)]
theorem lD {v:Int} (h0:0≤v) (h:v<18446744073709551616):fU v= [.int .u64 0,.int .u64 v]:=by
 unfold fU
 rw [Int.ediv_eq_zero_of_lt h0 h,Int.emod_eq_of_lt h0 h]
theorem uT (x y:Int) (hx:0≤x) (hy:0≤y) (h:x+y<340282366920938463463374607431768211456) (w:World):aA Tryz.prog 236 [.agg (fU x).toArray,.agg (fU y).toArray] w (.agg (fU (x+y)).toArray):=by
 refine aq Tryz.func236 rfl Tryz.ntmps236 rfl ?_
 obtain ⟨xh,hxh⟩: ∃ z,x / 18446744073709551616=z:=⟨_,rfl⟩
 obtain ⟨xl,hxl⟩: ∃ z,x % 18446744073709551616=z:=⟨_,rfl⟩
 obtain ⟨yh,hyh⟩: ∃ z,y / 18446744073709551616=z:=⟨_,rfl⟩
 obtain ⟨yl,hyl⟩: ∃ z,y % 18446744073709551616=z:=⟨_,rfl⟩
 unfold fU
 rw [hxh,hxl,hyh,hyl]
 obtain ⟨l,hlw⟩: ∃ z,IntKind.u64.wrap (xl+yl)=z:=⟨_,rfl⟩
 obtain ⟨h1,hhw⟩: ∃ z,IntKind.u64.wrap (xh+yh)=z:=⟨_,rfl⟩
 have hl2:=hlw
 have hh2:=hhw
 rw [IntKind.wrap_u64] at hl2 hh2
 have h11:IntKind.u64.wrap (h1+1)=(h1+1) % 18446744073709551616:=IntKind.wrap_u64 _
 repeat' (first|(apply ak (d:=11);exact rfl;apply eG;exact rfl;exact rfl;exact hlw)|(apply ak (d:=16);exact rfl;apply eG;exact rfl;exact rfl;exact hhw)|(apply ak (d:=22);exact rfl;apply eG;exact rfl;exact rfl;exact h11)|refine sT ?_|refine sM fun _=> ?_|(refine sC ?_ ?_<;>intro hb<;>try omega)|fail)
 all_goals
  (refine eRC ?_)
  have e1:(x+y) % 18446744073709551616=l:=by omega
  rw [e1]
  congr 4
  omega
set_option maxHeartbeats 1000000 in
theorem E0 (u:Int) (h0:0≤u) (h1:u<18446744073709551616) (w:World):aA Tryz.prog 237 [.int .u64 u,.int .u64 10] w (.agg (fU (10*u)).toArray):=by
 refine aq Tryz.func237 rfl Tryz.ntmps237 rfl ?_
 obtain ⟨al,hal⟩: ∃ z,u % 4294967296=z:=⟨_,rfl⟩
 obtain ⟨ah,hah⟩: ∃ z,u / 4294967296=z:=⟨_,rfl⟩
 have b1:0≤al∧al<4294967296:=by omega
 have b2:0≤ah∧ah<4294967296:=by omega
 have t1:u.tmod 4294967296=al:=by rw [Int.tmod_eq_emod_of_nonneg h0];exact hal
 have t2:IntKind.u64.wrap (u.tdiv 4294967296)=ah:=by rw [Ui h0,hah,IntKind.wrap_u64];omega
 have t3:(10:Int).tmod 4294967296=10:=by decide
 have t4:IntKind.u64.wrap ((10:Int).tdiv 4294967296)=0:=by decide
 have m1:IntKind.u64.wrap (ah*0)=0:=by rw [Int.mul_zero];decide
 have m2:IntKind.u64.wrap (al*10)=al*10:=by rw [IntKind.wrap_u64];omega
 have m3:IntKind.u64.wrap (ah*10)=ah*10:=by rw [IntKind.wrap_u64];omega
 have q3:IntKind.u64.wrap ((ah*10).tdiv 4294967296)=ah*10 / 4294967296:=by rw [Ui (by omega),IntKind.wrap_u64];omega
 have r3:(ah*10).tmod 4294967296=ah*10 % 4294967296:=Int.tmod_eq_emod_of_nonneg (by omega)
 have m4:IntKind.u64.wrap (ah*10 % 4294967296*4294967296)=ah*10 % 4294967296*4294967296:=by rw [IntKind.wrap_u64];omega
 have m5:IntKind.u64.wrap (al*0)=0:=by rw [Int.mul_zero];decide
 have q5:IntKind.u64.wrap ((0:Int).tdiv 4294967296)=0:=by decide
 have r5:(0:Int).tmod 4294967296=0:=by decide
 have m6:IntKind.u64.wrap ((0:Int)*4294967296)=0:=by decide
 have e1:fU (al*10)= [.int .u64 0,.int .u64 (al*10)]:=lD (by omega) (by omega)
 have e2:fU (ah*10*4294967296)= [.int .u64 (ah*10 / 4294967296),.int .u64 (ah*10 % 4294967296*4294967296)]:=by
  have ea:ah*10*4294967296 / 18446744073709551616=ah*10 / 4294967296:=by omega
  have eb:ah*10*4294967296 % 18446744073709551616=ah*10 % 4294967296*4294967296:=by omega
  rw [fU,ea,eb]
 have e3:fU 0= [.int .u64 0,.int .u64 0]:=lD (by omega) (by omega)
 have p1:=fun w=>uT (al*10) (ah*10*4294967296) (by omega) (by omega) (by omega) w
 have p2:=fun w=>uT (al*10+ah*10*4294967296) 0 (by omega) (by omega) (by omega) w
 rw [e1,e2] at p1
 rw [e3,Up] at p2
 have e4:al*10+ah*10*4294967296=10*u:=by omega
 rw [e4] at p1 p2
 have hb: ∀ c:Int,(4294967296:Int)≠0:=fun _=>by decide
 repeat' (first|(apply ak (d:=11);exact rfl;apply qL;exact rfl;exact rfl;exact hb 0;exact t1)|(apply ak (d:=13);exact rfl;apply ni;exact rfl;exact rfl;exact hb 0;exact t2)|(apply ak (d:=15);exact rfl;apply qL;exact rfl;exact rfl;exact hb 0;exact t3)|(apply ak (d:=17);exact rfl;apply ni;exact rfl;exact rfl;exact hb 0;exact t4)|(apply ak (d:=20);exact rfl;apply gT;exact rfl;exact rfl;exact m1)|(apply ak (d:=23);exact rfl;apply gT;exact rfl;exact rfl;exact m2)|(apply ak (d:=28);exact rfl;apply gT;exact rfl;exact rfl;exact m3)|(apply ak (d:=29);exact rfl;apply ni;exact rfl;exact rfl;exact hb 0;exact q3)|(apply ak (d:=32);exact rfl;apply gT;exact rfl;exact rfl;exact m3)|(apply ak (d:=33);exact rfl;apply qL;exact rfl;exact rfl;exact hb 0;exact r3)|(apply ak (d:=34);exact rfl;apply gT;exact rfl;exact rfl;exact m4)|(apply ak (d:=40);exact rfl;apply gT;exact rfl;exact rfl;exact m5)|(apply ak (d:=41);exact rfl;apply ni;exact rfl;exact rfl;exact hb 0;exact q5)|(apply ak (d:=44);exact rfl;apply gT;exact rfl;exact rfl;exact m5)|(apply ak (d:=45);exact rfl;apply qL;exact rfl;exact rfl;exact hb 0;exact r5)|(apply ak (d:=46);exact rfl;apply gT;exact rfl;exact rfl;exact m6)|(apply aa (d:=36);exact rfl;exact rfl;(intro w' hm;exact p1 w'))|(apply aa (d:=48);exact rfl;exact rfl;(intro w' hm;exact p2 w'))|refine sT ?_|refine sM fun _=> ?_|(refine sC ?_ ?_<;>intro hb<;>try omega)|fail)
 (refine eRC ?_)
 rfl
theorem mC (v:Int) (neg:Bool) (h0:0≤v) (h1:v<340282366920938463463374607431768211456) (w:World):aA Tryz.prog 238 [.agg (fU v).toArray,.bool neg] w (.tuple #[.int .i64 (if cK<v then 0 else if neg then -v else v),.bool (decide (v≤cK))]):=by
 refine aq Tryz.func238 rfl Tryz.ntmps238 rfl ?_
 have hm:cK=9223372036854775807:=rfl
 by_cases hv:v≤cK
 ·
  rw [if_neg (by omega),decide_eq_true hv,lD h0 (by omega)]
  have hw:IntKind.i64.wrap v=v:=qH h0 hv
  cases neg
  ·
   repeat' (first|(apply ak;exact rfl;apply bU;exact rfl;exact hw)|refine sT ?_|refine sM fun _=> ?_|(refine sC ?_ ?_<;>intro hb<;>try omega)|fail)
   all_goals first|(exfalso;omega)|((refine rT2 ?_);rfl)
  ·
   repeat' (first|(apply ak;exact rfl;apply bU;exact rfl;exact hw)|(apply ak;exact rfl;apply OH;exact rfl;exact ⟨by omega,by omega⟩)|refine sT ?_|refine sM fun _=> ?_|(refine sC ?_ ?_<;>intro hb<;>try omega)|fail)
   all_goals first|(exfalso;omega)|((refine rT2 ?_);rfl)
 ·
  rw [if_pos (by omega),decide_eq_false hv]
  unfold fU
  obtain ⟨vh,hvh⟩: ∃ z,v / 18446744073709551616=z:=⟨_,rfl⟩
  obtain ⟨vl,hvl⟩: ∃ z,v % 18446744073709551616=z:=⟨_,rfl⟩
  rw [hvh,hvl]
  repeat' (first|refine sT ?_|refine sM fun _=> ?_|(refine sC ?_ ?_<;>intro hb<;>try omega)|fail)
  all_goals first|(exfalso;omega)|((refine rT2 ?_);rfl)
theorem rp (a:ByteArray) (ha:a.size≤1000000) (i0:Nat) (w:World):aA Tryz.prog 235 [.string a,.int .i64 (i0:Int)] w (.int .i64 ((i0+aD aG ((ap a).drop i0):Nat):Int)):=by
 refine aq Tryz.func235 rfl Tryz.ntmps235 rfl ?_
 have hl:=au a
 by_cases hbig:a.size≤i0
 ·
  rw [qW (by omega),Tj]
  repeat' (first|refine sT ?_|refine sS ?_|refine sT2 ?_|refine sM fun _=> ?_|(refine sC ?_ ?_<;>intro hb<;>try omega)|fail)
  refine aw [0] rfl (fun _:Unit=> [(1,.int .i64 (i0:Int))]) (fun _=> []) (fun _=>True) (fun _=>0) () trivial sB (.refl _) ?_
  rintro ⟨⟩ -
  repeat' (first|refine sT ?_|refine sS ?_|refine sT2 ?_|refine sM fun _=> ?_|(refine sC ?_ ?_<;>intro hb<;>try omega)|fail)
  all_goals first|(exfalso;omega)|((refine rT1 ?_);rfl)
 obtain ⟨X,hX⟩: ∃ X,i0+aD aG ((ap a).drop i0)=X:=⟨_,rfl⟩
 rw [hX]
 repeat' (first|refine sT ?_|refine sS ?_|refine sT2 ?_|refine sM fun _=> ?_|(refine sC ?_ ?_<;>intro hb<;>try omega)|fail)
 refine aw [0] rfl (fun i:Nat=> [(1,.int .i64 (i:Int))]) (fun _=> []) (fun i=>i≤a.size∧X=i+aD aG ((ap a).drop i)) (fun i=>a.size - i) i0 ⟨by omega,hX.symm⟩ sB (.refl _) ?_
 rintro i ⟨hi,hx⟩
 by_cases hlt:i<a.size
 ·
  rw [bk hlt,aD] at hx
  have hd:=fg (bat a i)
  repeat' (first|(apply ak;exact rfl;apply bf (j:=i);exact rfl;exact rfl;exact hlt)|refine sT ?_|refine sS ?_|refine sT2 ?_|refine sN ?_|refine sM fun _=> ?_|(refine sC ?_ ?_<;>intro hb<;>try omega)|fail)
  all_goals first
   |(refine ⟨i+1,⟨hlt,?_⟩,by omega,sB,sB,.nil _⟩;rw [hx,if_pos (hd.2 ⟨by assumption,by assumption⟩)];omega)
   |((refine rT1 ?_);rw [hx,if_neg (fun h=>by have:=hd.1 h;omega)];rfl)
 ·
  have e:i=a.size:=by omega
  subst e
  rw [qW (by omega),Tj] at hx
  repeat' (first|refine sT ?_|refine sS ?_|refine sT2 ?_|refine sM fun _=> ?_|(refine sC ?_ ?_<;>intro hb<;>try omega)|fail)
  all_goals first|(exfalso;omega)|((refine rT1 ?_);rw [hx])
end Go.SL
