/-
  Lemmas and walks, put together: Rw Lc R1 W31 W32 Tr Tr2.
-/
import Derived.Test.YthefeclkaaocnaaGreatDoorKf19
set_option linter.unusedSimpArgs false
set_option linter.unusedVariables false
set_option maxRecDepth 20000
namespace Go.SL
open Go
theorem uk: ∀ (l:List Int) {v:Int},(∀ c∈l,48≤c)→0≤v→0≤bQ l v
 | [],_,_,h=>h
 |c::r,v,hl,h=>by
  rw [bQ]
  refine uk r (fun d hd=>hl d (TM _ hd)) ?_
  have:=hl c TI
  omega
theorem mz {p:Int→Bool}: ∀ {l:List Int} {c:Int},c∈l.take (aG p l)→p c=true
 | [],_,h=>by cases h
 |d::r,c,h=>by
  rw [aG] at h
  split at h
  ·
   rename_i hd
   rw [UU] at h
   rcases TS.1 h with rfl|h
   ·
    exact hd
   ·
    exact mz h
  ·
   cases h
theorem EM {l:List Int} {v:Int} {n:Nat} (h:lJ l=some (v,n)):0≤v:=by
 unfold lJ at h
 dsimp only at h
 split at h
 ·
  cases h
 ·
  split at h
  ·
   cases h
  ·
   cases h
   refine uk _ (fun c hc=> ?_) (Vw _)
   rw [Ub,Ub] at hc
   rcases hc with (hc|hc)|hc
   ·
    have:=mz hc
    rw [fI] at this
    exact this.1
   ·
    have hp:cC (l.drop (aG aJ l))=0∨ ∃ r,l.drop (aG aJ l)=46::r∧cC (l.drop (aG aJ l))=aG aJ r:=by
     by_cases h0:cC (l.drop (aG aJ l))=0
     ·
      exact .inl h0
     ·
      exact .inr (o5 h0)
    rcases hp with hp|⟨r,hr,hp⟩
    ·
     rw [hp] at hc;cases hc
    ·
     have hr' :l.drop (aG aJ l+1)=r:=by rw [← V2,hr];rfl
     rw [hr',hp] at hc
     have:=mz hc
     rw [fI] at this
     exact this.1
   ·
    rw [List.eq_of_mem_replicate hc];decide
theorem AZ (l:List Int): ∀ (ns:List (List Int)) {i c:Int} {n:Nat},0≤i→lc l ns i=some (c,n)→0≤c
 | [],_,_,_,_,h=>by cases h
 |s::r,i,c,n,hi,h=>by
  rw [lc] at h
  split at h
  ·
   cases h;exact hi
  ·
   exact AZ l r (by omega) h
theorem JA (l:List Int): ∀ (ns:List (List Int × Int)) {c:Int} {n:Nat},opL l ns=some (c,n)→ ∃ s∈ns,s.2=c
 | [],_,_,h=>by cases h
 |(s,k)::r,c,n,h=>by
  rw [opL] at h
  split at h
  ·
   cases h;exact ⟨_,TI,rfl⟩
  ·
   obtain ⟨x,hx,he⟩:=JA l r h
   exact ⟨x,TM _ hx,he⟩
theorem Kx {l:List Int} {t:Tk} {n:Nat} (h:jY l=some (t,n)):0≤t.num:=by
 unfold jY at h
 split at h
 ·
  rename_i x hx
  cases h
  unfold lN at hx
  obtain ⟨⟨c,m⟩,hy,hz⟩:=UL.1 hx
  cases hz
  exact AZ l _ (by decide) hy
 ·
  unfold iZ at h
  split at h
  ·
   rename_i hx
   cases h
   obtain ⟨s,hs,he⟩:=JA l _ hx
   have: ∀ s∈fN,0≤s.2:=by decide
   exact he ▸ this s hs
  ·
   split at h
   ·
    cases h;simp
   ·
    split at h
    ·
     cases h;simp
    ·
     split at h
     ·
      cases h;simp
     ·
      cases h
theorem JZ {l:List Int} {t:Tk} {n:Nat} (h:iI l=some (t,n)):0≤t.num:=by
 unfold iI at h
 split at h
 ·
  cases h
 ·
  split at h
  ·
   cases h;simp
  ·
   split at h
   ·
    cases h;simp
   ·
    split at h
    ·
     cases h;simp
    ·
     split at h
     ·
      cases h
     ·
      split at h
      ·
       cases h;simp
      ·
       cases h;simp
theorem GG {l:List Int} {t:Tk} {n:Nat} (h:bO l=some (t,n)):0≤t.num:=by
 unfold bO at h
 split at h
 ·
  obtain ⟨⟨v,m⟩,hy,hx⟩:=UL.1 h
  cases hx
  exact EM hy
 ·
  split at h
  ·
   obtain ⟨x,_,hx⟩:=UL.1 h
   cases hx;simp
  ·
   split at h
   ·
    exact JZ h
   ·
    exact Kx h
theorem DI {l:List Int}: ∀ (f i:Nat) (r:List Tk),bA bO l f i= .ok r→ ∀ t∈r,0≤t.num:=by
 intro f
 induction f with
 |zero=>intro i r h;cases h;exact fun _ h=>by cases h
 |succ f ih=>
  intro i r h
  simp only [bA] at h
  split at h
  ·
   cases h;exact fun _ h=>by cases h
  ·
   split at h
   ·
    exact ih _ _ h
   ·
    split at h
    ·
     cases h
    ·
     rename_i t n ht
     cases hr:bA bO l f (i+n) with
     |error e=>rw [hr] at h;cases h
     |ok r' =>
      rw [hr] at h
      cases h
      intro u hu
      rcases TS.1 hu with rfl|hu
      ·
       have:=GG ht
       exact this
      ·
       exact ih _ _ hr u hu
theorem uZ (l:List Int): ∀ t∈(bH bO l).1,0≤t.num:=by
 unfold bH
 split
 ·
  exact fun _ h=>by cases h
 ·
  split
  ·
   exact fun _ h=>by cases h
  ·
   split
   ·
    rename_i r hr
    exact DI _ _ _ hr
   ·
    exact fun _ h=>by cases h
def Wf (p:PS):Prop:=(∀ t∈p.l,0≤t.num)∧ ∀ n∈p.out,wfN n
theorem Wf.skip {p:PS} (h:Wf p):Wf p.skip:=⟨fun t ht=>h.1 t (List.mem_of_mem_tail ht),h.2⟩
theorem Wf.put {p:PS} (h:Wf p) {n:Nd} (hn:wfN n):Wf (p.put n):=⟨h.1,fun m hm=>by
 rcases Ub.1 hm with hm|hm
 ·
  exact h.2 m hm
 ·
  rw [TX.1 hm];exact hn⟩
theorem PW {fin:Int} {l:List Tk} (h: ∀ t∈l,0≤t.num):0≤(hdT fin l).num:=by
 cases l with
 |nil=>exact Vw _
 |cons t r=>exact h t TI
theorem pX (k:Int) (r:Rct) (o:Int):wfN ⟨k,bV,r,o,0,0⟩:=⟨by simp [bV],Vw 0,by simp⟩
theorem QQ {t:Tk} (h:0≤t.num):wfN (nO t):=by
 unfold nO
 refine ⟨?_,Vw 0,by simp⟩
 simp only
 split
 ·
  simp only;omega
 ·
  split
  ·
   simp
  ·
   split
   ·
    simp only;omega
   ·
    simp only;omega
theorem wg (b:ByteArray):0≤(bk b).1∧(bk b).1≤255:=by
 have hb1:=jF dD b 0 (by omega)
 rw [jD] at hb1
 unfold bk
 split
 ·
  dsimp only;omega
 ·
  dsimp only;omega
theorem yI {fin:Int} {name:Tk} {fn:Int} {n m:Nat} {p p' :PS} (h:dx fin name fn n p=some (.ok (m,p'))) (hw:Wf p) (h0:0≤fn) (h1:fn≤255):Wf p' :=by
 unfold dx at h
 dsimp only at h
 split at h
 ·
  cases h
 ·
  split at h
  ·
   cases h
  ·
   split at h
   ·
    cases h
   ·
    cases h
    exact hw.skip.put ⟨by simp [bV],h0,h1⟩
theorem BP (fin:Int): ∀ (f:Nat) (j:Job) (p:PS) (n:Nat) (p' :PS),bL fin f j p=some (.ok (n,p'))→Wf p→Wf p'
 |0,_,_,_,_,h,_=>by cases h
 |f+1,j,p,n,p',h,hw=>by
  have ih:=BP fin f
  cases j with
  |level k=>
   rw [bL] at h
   split at h
   ·
    exact ih _ _ _ _ h hw
   ·
    obtain ⟨n1,p1,h1,h2⟩:=cN h
    exact ih _ _ _ _ h2 (ih _ _ _ _ h1 hw)
  |loop k=>
   rw [bL] at h
   try dsimp only at h
   split at h
   ·
    obtain ⟨n1,p1,h1,h2⟩:=cN h
    exact ih _ _ _ _ h2 ((ih _ _ _ _ h1 hw.skip).put (pX _ _ _))
   ·
    cases h;exact hw
  |sign=>
   rw [bL] at h
   try dsimp only at h
   split at h
   ·
    obtain ⟨n1,p1,h1,h2⟩:=cN h
    cases h2
    exact (ih _ _ _ _ h1 hw.skip).put (pX _ _ _)
   ·
    obtain ⟨n1,p1,h1,h2⟩:=cN h
    split at h2
    ·
     obtain ⟨n2,p2,h3,h4⟩:=cN h2
     cases h4
     exact (ih _ _ _ _ h3 (ih _ _ _ _ h1 hw).skip).put (pX _ _ _)
    ·
     cases h2
     exact ih _ _ _ _ h1 hw
  |pct=>
   rw [bL] at h
   obtain ⟨n1,p1,h1,h2⟩:=cN h
   exact ih _ _ _ _ h2 (ih _ _ _ _ h1 hw)
  |pctl=>
   rw [bL] at h
   try dsimp only at h
   split at h
   ·
    exact ih _ _ _ _ h (hw.skip.put (pX _ _ _))
   ·
    cases h;exact hw
  |prim=>
   rw [bL] at h
   try dsimp only at h
   split at h
   ·
    cases h
    exact hw.skip.put (QQ (PW hw.1))
   ·
    split at h
    ·
     cases h
     exact hw.skip.put (pX _ _ _)
    ·
     split at h
     ·
      obtain ⟨n1,p1,h1,h2⟩:=cN h
      split at h2
      ·
       cases h2
      ·
       cases h2
       exact (ih _ _ _ _ h1 hw.skip).skip
     ·
      split at h
      ·
       split at h
       ·
        cases h
       ·
        have hb:=wg (hdT fin p.l).text
        split at h
        ·
         cases h
        ·
         split at h
         ·
          exact yI h hw.skip.skip hb.1 hb.2
         ·
          obtain ⟨n1,p1,h1,h2⟩:=cN h
          exact yI h2 (ih _ _ _ _ h1 hw.skip.skip) hb.1 hb.2
      ·
       cases h
  |args fn i=>
   rw [bL] at h
   try dsimp only at h
   have hgo: ∀ p0:PS,Wf p0→(if (hdT fin p0.l).kind=11 then bL fin f (.args fn (i+1)) p0.skip else some (.ok (i+1,p0)))=some (.ok (n,p'))→Wf p' :=by
    intro p0 hw0 h0
    split at h0
    ·
     exact ih _ _ _ _ h0 hw0.skip
    ·
     cases h0;exact hw0
   split at h
   ·
    obtain ⟨n1,p1,h1,h2⟩:=cN h
    exact hgo p1 (ih _ _ _ _ h1 hw) h2
   ·
    split at h
    ·
     cases h
    ·
     exact hgo _ (hw.skip.put (pX _ _ _)) h
def yO (b:ByteArray):Vl:=
 if b=az then bV
 else if (ap b).headD 0=39 then ⟨3,0,mkB (ap b).tail⟩
 else if upB b=oL∨upB b=lZ then nk (decide (upB b=oL))
 else if (jb b).2=0∧(jb b).1<6 then gY (jb b).1
 else if (iB (ap b)).2=0 then x6 (iB (ap b)).1
 else if (iB (ap b)).2=3 then gY 3
 else ⟨3,0,b⟩
theorem LB {b:ByteArray} (hg:jT b=0):uM b=yO b:=by
 have hT:oL≠lZ:=by decide
 have h3:MC b=if upB b=oL then (nk true,true) else if upB b=lZ then (nk false,true) else (gY 2,false):=by
  have hv:ra ⟨3,0,b⟩=0:=by simp [ra,wY,hg]
  simp only [MC,jv,hv,if_true,Ck]
  split
  ·
   rfl
  ·
   split<;>rfl
 have h2:Pm b=if (ap b).headD 0=39 then (⟨3,0,mkB (ap b).tail⟩,true) else (⟨3,0,b⟩,false):=by
  have hq:ap xQ= [39]:=rfl
  have hs:xQ.size=1:=rfl
  simp only [Pm,lf,hq,hs]
  cases hi:ap b with
  |nil=>simp
  |cons c r=>
   simp only [UU,U7,List.cons.injEq,and_true,U5,List.tail_cons]
   by_cases hc:c=39
   ·
    have hsz:b.size=(c::r).length:=by rw [← hi,aw]
    have:sub b 1 b.size=mkB r:=by
     refine Nz ?_
     rw [fg,hi,hsz]
     simp
    simp only [hc,if_true,this]
   ·
    simp only [hc,if_false]
 have hgen: ∀ (p:Prop) [Decidable p] (x y z:Vl),(if (if p then (x,true) else (y,false)).2=true then (if p then (x,true) else (y,false)).1 else z)=if p then x else z:=by
  intro p _ x y z
  split<;>simp
 unfold uM xm fJ fJ fJ fJ fJ fJ yO
 have e1:(Po b).2=decide (b=az):=rfl
 rw [e1,h2,h3]
 by_cases c1:b=az
 ·
  simp [c1,Po]
 ·
  rw [if_neg (by simpa using c1),if_neg c1]
  by_cases c2:(ap b).headD 0=39
  ·
   simp only [c2,if_true]
  ·
   simp only [c2,if_false,Ur]
   by_cases c3:upB b=oL
   ·
    simp [c3]
   ·
    by_cases c4:upB b=lZ
    ·
     simp [c4,hT.symm]
    ·
     simp only [c3,c4,if_false,or_self,Ur]
     by_cases c5:(jb b).2=0∧(jb b).1<6
     ·
      have:(Gz b).2=true:=by simp only [Gz,c5.1,decide_true,VB,decide_eq_true_eq];omega
      rw [if_pos this,if_pos c5];rfl
     ·
      have:(Gz b).2=false:=by
       simp only [Gz,U3,decide_eq_false_iff_not]
       by_cases h:(jb b).2=0
       ·
        right;intro h';exact c5 ⟨h,by omega⟩
       ·
        left;exact h
      rw [if_neg (by simp [this]),if_neg c5]
      by_cases c6:(iB (ap b)).2=0
      ·
       simp [Kk,c6]
      ·
       by_cases c7:(iB (ap b)).2=3
       ·
        simp [Kk,c7]
       ·
        simp [Kk,c6,c7]
end Go.SL
namespace Go.SL
open Go Go.Proofs
attribute [local irreducible] W WL WQ WG WA WX WLI WR WT WC VOp RW thn blk bF scp ba aZ bC FnAt FnIn FnP ceP
section
variable {w0:World} {s:aB} {H:List Blk} {ty t' :TypeId} {x y:Operand}
theorem Kf {a b:Vl} {c:Bool} (h:decide (a=b)=c) (hx:ev s x=some (.agg (dV a).toArray)) (hy:ev s y=some (.agg (dV b).toArray)):VOp Tryz.prog w0 s H (.binOp .eql 172 x y t') ty (.bool c):=by
 have h1:=Gt (w0:=w0) (H:=H) (ty:=ty) (t' :=t') hx hy
 rwa [JO,h] at h1
theorem p8 {a b:Rct} {c:Bool} (h:decide (a=b)=c) (hx:ev s x=some (.agg (aN a).toArray)) (hy:ev s y=some (.agg (aN b).toArray)):VOp Tryz.prog w0 s H (.binOp .eql 33 x y t') ty (.bool c):=by
 have h1:=Ry (w0:=w0) (H:=H) (ty:=ty) (t' :=t') hx hy
 rwa [CH,h] at h1
theorem kA {a b:Rct} {c:Bool} (h:decide (a=b)=c) (hx:ev s x=some (.agg (aN a).toArray)) (hy:ev s y=some (.agg (aN b).toArray)):VOp Tryz.prog w0 s H (.binOp .neq 33 x y t') ty (.bool (!c)):=by
 have h1:=Rq (w0:=w0) (H:=H) (ty:=ty) (t' :=t') hx hy
 rwa [CH,h] at h1
end
theorem xH (a b:Rf) (w:World):aD Tryz.prog 158 [.agg (aC a).toArray,.agg (aC b).toArray] w (.bool (bn a b)):=by
 refine ax Tryz.func158 rfl Tryz.ntmps158 rfl ?_
 repeat' (first|refine sT ?_|refine sM fun _=> ?_|(refine sC ?_ ?_<;>intro hb<;>try omega)|fail)
 all_goals ((refine rT1 ?_);((try simp only [← Int.not_lt] at*);simp_all [bn, -Int.not_lt, -Int.not_le,← Int.not_lt]))
theorem jl (a:Rf) (w:World):aD Tryz.prog 338 [.agg (aC a).toArray] w (.agg (aN (fR a.col a.row)).toArray):=by
 refine ax Tryz.func338 rfl Tryz.ntmps338 rfl ?_
 repeat' (first|refine sT ?_|refine sM fun _=> ?_|(refine sC ?_ ?_<;>intro hb<;>try omega)|fail)
 all_goals ((refine eRC ?_);rfl)
theorem jG {a:ByteArray} {i:Nat} (h:a.size≤i):bat a i=0:=by
 rw [bat,Ui,UN (by rw [aw];exact h)];rfl
theorem oX (a:ByteArray) (ha:a.size≤1000000) (i:Nat) (w:World):aD Tryz.prog 317 [.string a,.int .i64 (i:Int)] w (.bool (aJ (bat a i))):=by
 refine ax Tryz.func317 rfl Tryz.ntmps317 rfl ?_
 have h0:=fun h:a.size≤i=>jG h
 generalize hc:bat a i=c at h0
 repeat' (first|(apply ak;exact rfl;apply bh (j:=i);exact rfl;exact rfl;omega)|(rw [hc])|refine sT ?_|refine sT2 ?_|refine sM fun _=> ?_|(refine sC ?_ ?_<;>intro hb<;>try omega)|fail)
 all_goals ((refine rT1 ?_);(try rw [h0 (by omega)]);simp_all [aJ];try omega)
theorem nA (a:ByteArray) (ha:a.size≤1000000) (i:Nat) (w:World):aD Tryz.prog 320 [.string a,.int .i64 (i:Int)] w (.bool (cy (bat a i))):=by
 refine ax Tryz.func320 rfl Tryz.ntmps320 rfl ?_
 have h0:=fun h:a.size≤i=>jG h
 generalize hc:bat a i=c at h0
 repeat' (first|(apply ak;exact rfl;apply bh (j:=i);exact rfl;exact rfl;omega)|(rw [hc])|refine sT ?_|refine sT2 ?_|refine sM fun _=> ?_|(refine sC ?_ ?_<;>intro hb<;>try omega)|fail)
 all_goals ((refine rT1 ?_);(try rw [h0 (by omega)]);simp_all [cy];try omega)
def ES (c:Int):Int:=if cy c then upC c - 64 else 0
theorem rr (c:Int) (h0:0≤c) (h1:c<256) (w:World):aD Tryz.prog 365 [.int .u8 c] w (.int .i64 (ES c)):=by
 refine ax Tryz.func365 rfl Tryz.ntmps365 rfl ?_
 repeat' (first|(apply ak (d:=10);exact rfl;apply d9 (c:=c - 65);exact rfl;exact rfl;exact wrap_u8 (by omega) (by omega))|(apply ak (d:=20);exact rfl;apply d9 (c:=c - 97);exact rfl;exact rfl;exact wrap_u8 (by omega) (by omega))|(apply ak (d:=11);exact rfl;apply bB (c:=c - 65);exact rfl;exact I64.wrap ⟨by omega,by omega⟩)|(apply ak (d:=21);exact rfl;apply bB (c:=c - 97);exact rfl;exact I64.wrap ⟨by omega,by omega⟩)|(apply ak (d:=12);exact rfl;apply mh;exact rfl;exact rfl;exact ⟨by omega,by omega⟩)|(apply ak (d:=22);exact rfl;apply mh;exact rfl;exact rfl;exact ⟨by omega,by omega⟩)|refine sT ?_|refine sM fun _=> ?_|(refine sC ?_ ?_<;>intro hb<;>try omega)|fail)
 all_goals
  (refine rT1 ?_)
  unfold ES upC
  first
   |(rw [if_pos ((iP c).2 (by omega)),if_pos (by omega)];congr 1;omega)
   |(rw [if_pos ((iP c).2 (by omega)),if_neg (by omega)];congr 1;omega)
   |(rw [if_neg (by rw [iP];omega)])
set_option maxHeartbeats 1000000 in
theorem lB (a:ByteArray) (ha:a.size≤1000000) (w:World):aD Tryz.prog 249 [.string a] w (.string (upB a)):=by
 refine ax Tryz.func249 rfl Tryz.ntmps249 rfl ?_
 repeat' (first|(apply mW;exact rfl;exact rfl;intro gb cap)|refine sT ?_|refine sM fun _=> ?_|(refine sC ?_ ?_<;>intro hb<;>try omega)|fail)
 refine ay [3] rfl (fun i:Nat=> [(4,.int .i64 (i:Int))]) (fun i=> [.byt gb 5 a.size cap ((((ap a).take i).map upC++(ap a).drop i).map (Value.int .u8))]) (fun i=>i≤a.size) (fun i=>a.size - i) 0 (by omega) sB ?_ ?_
 ·
  rw [qt];simp only [U7,UQ,TL,UZ];exact mS
 intro i hi
 have hl:=aw a
 by_cases hlt:i<a.size
 ·
  have hil:i<(ap a).length:=by omega
  have hok:=nS a (ap a)[i] (UA hil)
  have hget:((((ap a).take i).map upC++(ap a).drop i).map (Value.int .u8))[0+i*1]? =some (.int .u8 (ap a)[i]):=by
   rw [Uq,show 0+i*1=i by omega,Uj (by simp;omega)]
   simp [Vn (Nat.le_of_lt hil),UR]
  have hstep:97≤(ap a)[i]∧(ap a)[i]≤122→upC (ap a)[i]=(ap a)[i] - 32:=fun h=>by rw [upC,if_pos h]
  have hsame: ¬ (97≤(ap a)[i]∧(ap a)[i]≤122)→upC (ap a)[i]=(ap a)[i]:=fun h=>by rw [upC,if_neg h]
  have hupd:=xe upC (Value.int .u8) (ap a) i hil
  have hkeep: ∀ v,(((ap a).take i).map upC++(ap a).drop i).map (Value.int .u8)=v→upC (ap a)[i]=(ap a)[i]→v=(((ap a).take (i+1)).map upC++(ap a).drop (i+1)).map (Value.int .u8):=fun v hv hs=>by
   rw [← hupd,hs,← hv]
   rw [show 0+i*1=i by omega] at hget
   obtain ⟨h1,h2⟩:=TV.1 hget
   rw [← h2,List.set_getElem_self]
  generalize (ap a)[i]=c at hget hok hstep hsame hupd hkeep
  repeat' (first|(apply ak;exact rfl;apply aj;exact rfl;exact rfl;exact hlt)|(apply ak;exact rfl;apply kL;exact rfl;exact pK;exact hget)|(apply ak (d:=31);exact rfl;apply d9 (c:=c - 32);exact rfl;exact rfl;exact wrap_u8 (by omega) (by omega))|(apply mX;exact rfl;exact rfl;exact pK;exact rfl;(simp;omega))|refine sT ?_|refine sS ?_|refine sW ?_|refine sN ?_|refine sWN ?_|refine sM fun _=> ?_|(refine sC ?_ ?_<;>intro hb<;>try omega)|(refine sCW ?_ ?_<;>intro hb<;>try omega)|fail)
  ·
   rw [show 0+i*1=i by omega,← hstep ⟨by assumption,by assumption⟩,hupd]
   exact ⟨i+1,hlt,by omega,sB,sB,mS⟩
  ·
   exact ⟨i+1,hlt,by omega,sB,sB,(by rw [← hkeep _ rfl (hsame (by omega))];exact mS)⟩
  ·
   exact ⟨i+1,hlt,by omega,sB,sB,(by rw [← hkeep _ rfl (hsame (by omega))];exact mS)⟩
 ·
  have e2:i=a.size:=by omega
  subst e2
  rw [UE (by omega),Uk (by omega),TR]
  repeat' (first|(apply ak (d:=34);exact rfl;apply tS;exact rfl;exact pK;(rw [Uf];omega))|refine sT ?_|refine sS ?_|refine sM fun _=> ?_|(refine sC ?_ ?_<;>intro hb<;>try omega)|fail)
  (refine rT1 ?_)
  rfl
end Go.SL
namespace Go.SL
open Go Go.Proofs
attribute [local irreducible] W WL WQ WG WA VOp thn blk bF ba FnAt FnIn Sr
def aT:List Nd:= [k2,k3,j7,k6]
end Go.SL
namespace Go.SL
open Go
structure STree where
 ns:List Nd
 d:Nat
def STree.kind (S:STree):Int:=((S.ns.getLast?).map Nd.kind).getD 0
def Td (n:Nd) (i:Int) (k:Int):Bool:= !(decide (k=3) && !EO n i) && !(decide (n.kind=7) && jk n.fn && decide (k≠2) && decide (k≠3))
def tA (n:Nd):Int→List STree→Bool
 |_,[]=>true
 |i,S::r=>Td n i S.kind && tA n (i+1) r
def fO (st:List STree) (k:Nat):List STree:=st.drop (st.length - k)
def rN (top:List STree):Nat:=top.foldl (fun d S=>max d (S.d+1)) 1
def bo (st:List STree):List Nd:=st.flatMap STree.ns
def bP (n:Nd) (top:List STree):STree:=⟨bo top++ [n],rN top⟩
def gU (n:Nd) (st:List STree):Int ⊕ (List STree × List STree):=
 if bE n≠0 then .inl (bE n)
 else if (st.length:Int)<below n∨tA n 0 (fO st (below n).toNat)=false then .inl 4
 else if 32<rN (fO st (below n).toNat) then .inl 9
 else .inr (st.take (st.length - (below n).toNat),fO st (below n).toNat)
abbrev iV:=List (List STree × STree)
def fM:List Nd→List STree→iV→Int × List STree × iV
 | [],st,h=>(if st.length=1 then 0 else 4,st,h)
 |n::r,st,h=>match gU n st with
  | .inl e=>(e,st,h)
  | .inr (lo,top)=>fM r (lo++ [bP n top]) (h++ [(top,bP n top)])
theorem cD (a b:List STree):bo (a++b)=bo a++bo b:=Ua
theorem mP (S:STree):bo [S]=S.ns:=by simp [bo]
theorem gy (S:STree) (r:List STree):bo (S::r)=S.ns++bo r:=T9
theorem df (n:Nd) (top:List STree):(bP n top).ns.length=(bo top).length+1:=by simp [bP]
theorem HY (n:Nd) (top:List STree):(bP n top).kind=n.kind:=by simp [bP,STree.kind]
inductive Good:STree→Prop
 |mk (n:Nd) (top:List STree) (hg: ∀ S∈top,Good S) (hf:bE n=0) (hb:(top.length:Int)=Go.SL.below n) (hfit:tA n 0 top=true) (hd:rN top≤32):Good (bP n top)
theorem Good.pos {S:STree} (h:Good S):0<S.ns.length:=by
 cases h with
 |mk n top _ _ _ _ _=>rw [df];omega
def aM:Nat→List STree→List Nat
 |_,[]=> []
 |o,S::r=>(o+S.ns.length - 1)::aM (o+S.ns.length) r
def lo (i:Nat) (x:List STree × STree):Nat:=i+1 - x.2.ns.length
def dE (i:Nat) (x:List STree × STree):List Nat:=aM (lo i x) x.1
theorem mB (o:Nat) (l:List STree):(aM o l).length=l.length:=by
 induction l generalizing o with
 |nil=>rfl
 |cons S r ih=>simp [aM,ih]
theorem dN (o:Nat) (a b:List STree):aM o (a++b)=aM o a++aM (o+(bo a).length) b:=by
 induction a generalizing o with
 |nil=>simp [aM,bo]
 |cons S r ih=>simp [aM,ih,gy,UV]
theorem AG {o k:Nat} {l:List STree} (h:k∈aM o l): ∃ a S b,l=a++S::b∧k=o+(bo a).length+S.ns.length - 1:=by
 induction l generalizing o with
 |nil=>cases h
 |cons S r ih=>
  rcases TS.1 h with rfl|h
  ·
   exact ⟨[],S,r,rfl,by simp [bo]⟩
  ·
   obtain ⟨a,T,b,rfl,rfl⟩:=ih h
   exact ⟨S::a,T,b,rfl,by simp [gy,UV]⟩
theorem kQ {o k:Nat} {l:List STree} (hp: ∀ S∈l,0<S.ns.length) (h:k∈aM o l):o≤k∧k<o+(bo l).length:=by
 obtain ⟨a,S,b,rfl,rfl⟩:=AG h
 have:=hp S (by simp)
 simp only [cD,gy,TG]
 omega
structure Inv (dn:List Nd) (st:List STree) (h:iV):Prop where
 flat:bo st=dn
 good: ∀ S∈st,Good S
 len:h.length=dn.length
 node: ∀ i x,h[i]? =some x→ ∃ n,dn[i]? =some n∧x.2=bP n x.1∧(∀ T∈x.1,Good T)∧Good x.2∧x.2.ns.length≤i+1∧(dn.take (i+1)).drop (lo i x)=x.2.ns
 deep: ∀ x∈h,∃ S∈st,x.2.d≤S.d
 cut: ∀ a b,st=a++b→ ∀ j x,h[j]? =some x→(bo a).length≤j→(bo a).length≤lo j x
 lam: ∀ i j x y,h[i]? =some x→h[j]? =some y→j≤i→lo i x≤j→lo i x≤lo j y
 mid: ∀ i j x y,h[i]? =some x→h[j]? =some y→ ∀ k∈dE j y,k<i→i<j→k<lo i x
 up: ∀ k<h.length,k∈aM 0 st∨ ∃ j y,h[j]? =some y∧k∈dE j y
 apart: ∀ j y,h[j]? =some y→ ∀ k∈dE j y,k∉aM 0 st
 one: ∀ i j x y,h[i]? =some x→h[j]? =some y→ ∀ k,k∈dE i x→k∈dE j y→i=j
theorem Inv.nil:Inv [] [] []:={
 flat:=rfl
 good:=fun _ h=>by cases h
 len:=rfl
 node:=fun i x h=>by simp at h
 deep:=fun _ h=>by cases h
 cut:=fun a b _ j x h=>by simp at h
 lam:=fun i j x y h=>by simp at h
 mid:=fun i j x y h=>by simp at h
 up:=fun k h=>by simp at h
 apart:=fun j y h=>by simp at h
 one:=fun i j x y h=>by simp at h }
theorem Lz (top:List STree): ∀ S∈top,S.d+1≤rN top:=by
 have: ∀ (l:List STree) (d:Nat),d≤l.foldl (fun d S=>max d (S.d+1)) d∧ ∀ S∈l,S.d+1≤l.foldl (fun d S=>max d (S.d+1)) d:=by
  intro l
  induction l with
  |nil=>intro d;exact ⟨TQ _,fun _ h=>by cases h⟩
  |cons T r ih=>
   intro d
   obtain ⟨h1,h2⟩:=ih (max d (T.d+1))
   refine ⟨?_,fun S hS=> ?_⟩
   ·
    rw [UK];omega
   ·
    rw [UK]
    rcases TS.1 hS with rfl|hS
    ·
     omega
    ·
     exact h2 S hS
 exact (this top 1).2
theorem dQ {α:Type} {l:List α} {a x:α} {i:Nat} (h:(l++ [a])[i]? =some x):(i<l.length∧l[i]? =some x)∨(i=l.length∧x=a):=by
 rcases Nat.lt_trichotomy i l.length with h1|h1|h1
 ·
  rw [Uh h1] at h
  exact .inl ⟨h1,h⟩
 ·
  subst h1
  simp at h
  exact .inr ⟨rfl,h.symm⟩
 ·
  rw [UN (by simp;omega)] at h
  cases h
theorem Inv.step {dn:List Nd} {st:List STree} {h:iV} (hI:Inv dn st h) {n:Nd} {l top:List STree} (hs:gU n st= .inr (l,top)):
  Inv (dn++ [n]) (l++ [bP n top]) (h++ [(top,bP n top)])∧st=l++top:=by
 unfold gU at hs
 split at hs
 ·
  cases hs
 rename_i hf
 split at hs
 ·
  cases hs
 rename_i hb
 split at hs
 ·
  cases hs
 rename_i hd
 simp only [Sum.inr.injEq,Prod.mk.injEq] at hs
 obtain ⟨rfl,rfl⟩:=hs
 have hst:st.take (st.length - (below n).toNat)++fO st (below n).toNat=st:=UF _ _
 have hlk:(fO st (below n).toNat).length=min st.length (below n).toNat:=by simp [fO];omega
 generalize st.take (st.length - (below n).toNat)=l at hst ⊢
 generalize fO st (below n).toNat=top at hst hb hd hlk ⊢
 subst hst
 have hb1:(0:Int)≤below n∧tA n 0 top=true∧below n≤((l++top).length:Int):=by
  refine ⟨?_,?_,?_⟩
  ·
   have hk:fD n=true:=by
    cases hk:fD n
    ·
     exfalso
     apply hf
     intro h0
     simp [bE,hk] at h0
    ·
     rfl
   unfold below
   by_cases h7:n.kind=7
   ·
    simp [fD,h7] at hk
    simp [h7];exact hk
   ·
    (repeat' split)<;>omega
  ·
   cases hh:tA n 0 top
   ·
    exact absurd (Or.inr hh) hb
   ·
    rfl
  ·
   omega
 obtain ⟨hb0,hfit,hble⟩:=hb1
 have hbl:(top.length:Int)=below n:=by omega
 have hgt: ∀ S∈top,Good S:=fun S hS=>hI.good S (UJ _ hS)
 have hgl: ∀ S∈l,Good S:=fun S hS=>hI.good S (Uv _ hS)
 have hG:Good (bP n top):= .mk n top hgt (by omega) hbl hfit (by omega)
 have hflat:bo l++bo top=dn:=by rw [← cD];exact hI.flat
 have hlen:h.length=(bo l).length+(bo top).length:=by rw [hI.len,← hflat,TG]
 have hlo:lo h.length (top,bP n top)=(bo l).length:=by simp only [lo,df];omega
 have hkids:dE h.length (top,bP n top)=aM (0+(bo l).length) top:=by rw [dE,hlo,Uc]
 have hroots:aM 0 (l++top)=aM 0 l++dE h.length (top,bP n top):=by rw [dN,hkids]
 have hroots' :aM 0 (l++ [bP n top])=aM 0 l++ [h.length]:=by
  rw [dN]
  simp only [aM,df]
  congr 2
  omega
 have hposl: ∀ S∈l,0<S.ns.length:=fun S hS=>(hgl S hS).pos
 have hpost: ∀ S∈top,0<S.ns.length:=fun S hS=>(hgt S hS).pos
 have hkb: ∀ k∈dE h.length (top,bP n top),(bo l).length≤k∧k<h.length:=fun k hk=>by
  rw [hkids] at hk
  have:=kQ hpost hk
  omega
 have hkj: ∀ j y,h[j]? =some y→ ∀ k∈dE j y,k<j:=fun j y hy k hk=>by
  obtain ⟨m,_,e2,e3,_,e5,_⟩:=hI.node j y hy
  have h1:=kQ (fun T hT=>(e3 T hT).pos) hk
  have h2:y.2.ns.length=(bo y.1).length+1:=by rw [e2,df]
  simp only [lo] at h1
  omega
 refine ⟨⟨?_,?_,?_,?_,?_,?_,?_,?_,?_,?_,?_⟩,rfl⟩
 ·
  rw [cD,mP]
  show bo l++(bo top++ [n])=dn++ [n]
  rw [← TY,hflat]
 ·
  intro S hS
  rcases Ub.1 hS with hS|hS
  ·
   exact hgl S hS
  ·
   rw [TX.1 hS];exact hG
 ·
  simp [hI.len]
 ·
  intro i x hx
  rcases dQ hx with ⟨hi,hx⟩|⟨rfl,rfl⟩
  ·
   obtain ⟨m,e1,e2,e3,e4,e5,e6⟩:=hI.node i x hx
   refine ⟨m,?_,e2,e3,e4,e5,?_⟩
   ·
    rw [Uh (by rw [← hI.len];exact hi)];exact e1
   ·
    rw [VE (by rw [← hI.len];exact hi)];exact e6
  ·
   refine ⟨n,by rw [hI.len];simp,rfl,hgt,hG,by simp only [df];omega,?_⟩
   rw [hlo,hI.len,UE (by simp),← hflat,TY,List.drop_left]
   rfl
 ·
  intro x hx
  rcases Ub.1 hx with hx|hx
  ·
   obtain ⟨S,hS,hd1⟩:=hI.deep x hx
   rcases Ub.1 hS with hS|hS
   ·
    exact ⟨S,Uv _ hS,hd1⟩
   ·
    refine ⟨bP n top,UJ _ (TX.2 rfl),?_⟩
    have:=Lz top S hS
    simp only [bP];omega
  ·
   rw [TX.1 hx]
   exact ⟨bP n top,UJ _ (TX.2 rfl),TQ _⟩
 ·
  intro a b hab j x hx hj
  -- the cut lies in l,or behind all
  rcases List.append_eq_append_iff.1 hab with ⟨c,hc1,hc2⟩|⟨c,hc1,hc2⟩
  ·
   -- a=l++c,[node]=c++b
   cases c with
   |nil=>
    rw [TR] at hc1
    subst hc1
    rcases dQ hx with ⟨hi,hx⟩|⟨rfl,rfl⟩
    ·
     exact hI.cut a top rfl j x hx hj
    ·
     rw [hlo];exact TQ _
   |cons T c' =>
    have hT:T=bP n top∧c' ++b= []:=by
     simp only [TK,List.cons.injEq] at hc2
     exact ⟨hc2.1.symm,hc2.2.symm⟩
    obtain ⟨rfl,hcb⟩:=hT
    have hc' :c' = []:=(List.append_eq_nil_iff.1 hcb).1
    subst hc'
    exfalso
    have hj' :j<h.length+1:=by
     have:=(TV.1 hx).1
     simpa using this
    rw [hc1,cD,mP,TG,df] at hj
    omega
  ·
   -- l=a++c
   subst hc1
   rcases dQ hx with ⟨hi,hx⟩|⟨rfl,rfl⟩
   ·
    exact hI.cut a (c++top) (by simp) j x hx hj
   ·
    rw [hlo,cD,TG];omega
 ·
  intro i j x y hx hy hji hle
  rcases dQ hx with ⟨hi,hx⟩|⟨rfl,rfl⟩
  ·
   rcases dQ hy with ⟨hj,hy⟩|⟨rfl,rfl⟩
   ·
    exact hI.lam i j x y hx hy hji hle
   ·
    omega
  ·
   rcases dQ hy with ⟨hj,hy⟩|⟨rfl,rfl⟩
   ·
    rw [hlo] at hle ⊢
    exact hI.cut l top rfl j y hy hle
   ·
    exact TQ _
 ·
  intro i j x y hx hy k hk hki hij
  rcases dQ hy with ⟨hj,hy⟩|⟨rfl,rfl⟩
  ·
   rcases dQ hx with ⟨hi,hx⟩|⟨rfl,rfl⟩
   ·
    exact hI.mid i j x y hx hy k hk hki hij
   ·
    omega
  ·
   rcases dQ hx with ⟨hi,hx'⟩|⟨rfl,rfl⟩
   ·
    rw [hkids] at hk
    obtain ⟨a,S,b,hab,rfl⟩:=AG hk
    have hS:=hpost S (by simp [hab])
    have:=hI.cut (l++a++ [S]) b (by simp [hab]) i x hx'
    simp only [cD,mP,TG] at this
    omega
   ·
    omega
 ·
  intro k hk
  rw [TG,TH] at hk
  by_cases hkh:k=h.length
  ·
   left;rw [hroots',hkh];simp
  ·
   rcases hI.up k (by omega) with h1|⟨j,y,h1,h2⟩
   ·
    rw [hroots] at h1
    rcases Ub.1 h1 with h1|h1
    ·
     left;rw [hroots'];exact Uv _ h1
    ·
     right
     exact ⟨h.length,(top,bP n top),by simp,h1⟩
   ·
    right
    refine ⟨j,y,?_,h2⟩
    rw [Uh (TV.1 h1).1];exact h1
 ·
  intro j y hy k hk
  rw [hroots']
  intro hm
  rcases dQ hy with ⟨hj,hy⟩|⟨rfl,rfl⟩
  ·
   rcases Ub.1 hm with hm|hm
   ·
    exact hI.apart j y hy k hk (by rw [hroots];exact Uv _ hm)
   ·
    have h1:=TX.1 hm
    have h2:=hkj j y hy k hk
    omega
  ·
   have h1:=hkb k hk
   rcases Ub.1 hm with hm|hm
   ·
    have:=kQ hposl hm
    omega
   ·
    have:=TX.1 hm
    omega
 ·
  intro i j x y hx hy k hkx hky
  rcases dQ hx with ⟨hi,hx⟩|⟨rfl,rfl⟩
  ·
   rcases dQ hy with ⟨hj,hy⟩|⟨rfl,rfl⟩
   ·
    exact hI.one i j x y hx hy k hkx hky
   ·
    exfalso
    exact hI.apart i x hx k hkx (by rw [hroots];exact UJ _ hky)
  ·
   rcases dQ hy with ⟨hj,hy⟩|⟨rfl,rfl⟩
   ·
    exfalso
    exact hI.apart j y hy k hky (by rw [hroots];exact UJ _ hkx)
   ·
    rfl
theorem zH: ∀ (r dn:List Nd) (st:List STree) (h:iV) (st' :List STree) (h' :iV),Inv dn st h→fM r st h=(0,st',h')→Inv (dn++r) st' h' ∧st'.length=1
 | [],dn,st,h,st',h',hI,hw=>by
  simp only [fM,Prod.mk.injEq] at hw
  obtain ⟨h1,rfl,rfl⟩:=hw
  refine ⟨by simpa using hI,?_⟩
  split at h1
  ·
   assumption
  ·
   cases h1
 |n::r,dn,st,h,st',h',hI,hw=>by
  rw [fM] at hw
  cases hs:gU n st with
  |inl e=>
   rw [hs] at hw
   simp only [Prod.mk.injEq] at hw
   obtain ⟨rfl,_⟩:=hw
   exfalso
   unfold gU at hs
   split at hs
   ·
    injection hs with hs
    exact absurd hs (by assumption)
   ·
    split at hs
    ·
     cases hs
    ·
     split at hs<;>cases hs
  |inr x=>
   obtain ⟨l,top⟩:=x
   rw [hs] at hw
   have:=zH r _ _ _ _ _ (hI.step hs).1 hw
   simpa using this
theorem J9 {L:List Nd} {st:List STree} {h:iV} (hw:fM L [] []=(0,st,h)): ∃ S,st= [S]∧S.ns=L∧Good S∧Inv L [S] h:=by
 obtain ⟨hI,h1⟩:=zH L [] [] [] st h Inv.nil hw
 match st,h1 with
 | [S],_=>
  rw [TL] at hI
  exact ⟨S,rfl,by rw [← hI.flat,mP],hI.good S (by simp),hI⟩
def bN:Nat→List STree→List Pt
 |_,[]=> []
 |o,S::r=>⟨o+S.ns.length - 1,S.d,decide (S.kind=3)⟩::bN (o+S.ns.length) r
theorem kS (o:Nat) (l:List STree):(bN o l).length=l.length:=by
 induction l generalizing o with
 |nil=>rfl
 |cons S r ih=>simp [bN,ih]
theorem xR (o:Nat) (a b:List STree):bN o (a++b)=bN o a++bN (o+(bo a).length) b:=by
 induction a generalizing o with
 |nil=>simp [bN,bo]
 |cons S r ih=>simp [bN,ih,gy,UV]
theorem B6 (o:Nat) (l:List STree) (m:Nat):(bN o l).drop m=bN (o+(bo (l.take m)).length) (l.drop m):=by
 induction l generalizing o m with
 |nil=>simp [bN]
 |cons S r ih=>cases m with
  |zero=>simp [bo]
  |succ m=>simp [bN,ih,gy,UV]
theorem BZ (o:Nat) (l:List STree) (m:Nat):(bN o l).take m=bN o (l.take m):=by
 induction l generalizing o m with
 |nil=>simp [bN]
 |cons S r ih=>cases m with
  |zero=>simp [bN]
  |succ m=>simp [bN,ih]
theorem zm (o:Nat) (l:List STree):(bN o l).map Pt.root=aM o l:=by
 induction l generalizing o with
 |nil=>rfl
 |cons S r ih=>simp [bN,aM,ih]
theorem zn (o:Nat) (l:List STree):cE (bN o l)=rN l:=by
 have: ∀ (l:List STree) (o d:Nat),(bN o l).foldl (fun d p=>max d (p.depth+1)) d=l.foldl (fun d S=>max d (S.d+1)) d:=by
  intro l
  induction l with
  |nil=>intro o d;rfl
  |cons S r ih=>intro o d;rw [bN,UK,UK,ih]
 exact this l o 1
theorem EX {L:List Nd} {o:Nat} {a b:List STree} {S:STree} (hS:0<S.ns.length) (hL:(L.drop o).take (bo (a++S::b)).length=bo (a++S::b)):jq L (o+(bo a).length+S.ns.length - 1)=S.kind:=by
 have h1:(bo (a++S::b))[(bo a).length+(S.ns.length - 1)]? =S.ns[S.ns.length - 1]? :=by
  rw [cD,Uj (by omega),WI,gy,Uh (by omega)]
 rw [← hL,List.getElem?_take] at h1
 rw [if_pos (by rw [cD,gy];simp;omega),UR] at h1
 rw [jq,STree.kind,Ve,← h1]
 congr 3
 omega
theorem Fq {L:List Nd} (n:Nd) {o:Nat}: ∀ (b a:List STree) (i:Int),(∀ S∈b,0<S.ns.length)→(L.drop o).take (bo (a++b)).length=bo (a++b)→eC L n i (bN (o+(bo a).length) b)=tA n i b
 | [],a,i,_,_=>rfl
 |S::r,a,i,hp,hL=>by
  have h1:=EX (hp S TI) hL
  have h2:=Fq n r (a++ [S]) (i+1) (fun T hT=>hp T (TM _ hT)) (by simpa using hL)
  rw [cD,mP,TG,← UV] at h2
  rw [bN,eC,tA,h2]
  congr 1
  simp only [uJ,Td,h1]
def kK (h:iV):List mU:=h.zipIdx.map fun x=>(dE x.2 x.1,x.1.2.d)
theorem y9 (h:iV) (x:List STree × STree):kK (h++ [x])=kK h++ [(dE h.length x,x.2.d)]:=by
 simp [kK,List.zipIdx_append]
theorem Dr {L:List Nd}: ∀ (r dn:List Nd) (st:List STree) (h:iV),dn++r=L→Inv dn st h→fH L r dn.length (bN 0 st) (kK h)=((fM r st h).1,kK (fM r st h).2.2)
 | [],dn,st,h,hL,hI=>by simp [fH,fM,kS]
 |n::r,dn,st,h,hL,hI=>by
  have hlast: ∀ k,bD (bN 0 st) k=bN (bo (st.take (st.length - k))).length (fO st k):=fun k=>by
   unfold bD fO
   rw [kS,B6,Uc]
  have hfits: ∀ k,eC L n 0 (bD (bN 0 st) k)=tA n 0 (fO st k):=fun k=>by
   rw [hlast]
   have:=Fq (L:=L) n (o:=0) (fO st k) (st.take (st.length - k)) 0 (fun S hS=>(hI.good S (VF hS)).pos) (by
    rw [show st.take (st.length - k)++fO st k=st from UF _ _,hI.flat,UZ,← hL,V1])
   rwa [Uc] at this
  have hdep: ∀ k,cE (bD (bN 0 st) k)=rN (fO st k):=fun k=>by rw [hlast,zn]
  rw [fH,fM]
  have hs:jI L n dn.length (bN 0 st)=match gU n st with
   | .inl e=> .inl e
   | .inr (l,top)=> .inr (bN 0 (l++ [bP n top]),dE h.length (top,bP n top),(bP n top).d):=by
   unfold jI gU
   rw [kS,hfits,hdep]
   by_cases c1:bE n≠0
   ·
    rw [if_pos c1,if_pos c1]
   rw [if_neg c1,if_neg c1]
   by_cases c2:(st.length:Int)<below n∨tA n 0 (fO st (below n).toNat)=false
   ·
    rw [if_pos c2,if_pos c2]
   rw [if_neg c2,if_neg c2]
   by_cases c3:32<rN (fO st (below n).toNat)
   ·
    rw [if_pos c3,if_pos c3]
   rw [if_neg c3,if_neg c3]
   have hfl:bo (st.take (st.length - (below n).toNat))++bo (fO st (below n).toNat)=dn:=by
    rw [← cD,show st.take (st.length - (below n).toNat)++fO st (below n).toNat=st from UF _ _]
    exact hI.flat
   have hlen:dn.length=(bo (st.take (st.length - (below n).toNat))).length+(bo (fO st (below n).toNat)).length:=by rw [← hfl,TG]
   have e1:=BZ 0 st (st.length - (below n).toNat)
   have e2:(bD (bN 0 st) (below n).toNat).map Pt.root=dE h.length (fO st (below n).toNat,bP n (fO st (below n).toNat)):=by
    rw [hlast,zm,dE]
    congr 1
    simp only [lo,df,hI.len]
    omega
   dsimp only
   rw [e1,e2,xR]
   simp only [bN,df,HY]
   congr 4
   have e3:0+(bo (st.take (st.length - (below n).toNat))).length+((bo (fO st (below n).toNat)).length+1) - 1=dn.length:=by omega
   rw [e3]
   rfl
  rw [hs]
  cases hsf:gU n st with
  |inl e=>rfl
  |inr x=>
   obtain ⟨l,top⟩:=x
   dsimp only
   have h1:=Dr r (dn++ [n]) (l++ [bP n top]) (h++ [(top,bP n top)]) (by simpa using hL) (hI.step hsf).1
   rw [y9,TG,TH] at h1
   exact h1
theorem Dq (L:List Nd):fH L L 0 [] []=((fM L [] []).1,kK (fM L [] []).2.2):=by
 have:=Dr (L:=L) L [] [] [] rfl Inv.nil
 exact this
theorem pZ (P:List STree→iV→Prop) (hs: ∀ dn n st h l top,Inv dn st h→P st h→gU n st= .inr (l,top)→P (l++ [bP n top]) (h++ [(top,bP n top)])):
  ∀ (r dn:List Nd) (st:List STree) (h:iV) (st' :List STree) (h' :iV),Inv dn st h→P st h→fM r st h=(0,st',h')→P st' h'
 | [],dn,st,h,st',h',hI,hP,hw=>by
  simp only [fM,Prod.mk.injEq] at hw
  obtain ⟨_,rfl,rfl⟩:=hw
  exact hP
 |n::r,dn,st,h,st',h',hI,hP,hw=>by
  rw [fM] at hw
  cases hsf:gU n st with
  |inl e=>
   rw [hsf] at hw
   simp only [Prod.mk.injEq] at hw
   obtain ⟨rfl,_⟩:=hw
   exfalso
   unfold gU at hsf
   split at hsf
   ·
    injection hsf with hs
    exact absurd hs (by assumption)
   ·
    split at hsf
    ·
     cases hsf
    ·
     split at hsf<;>cases hsf
  |inr x=>
   obtain ⟨l,top⟩:=x
   rw [hsf] at hw
   exact pZ P hs r _ _ _ _ _ (hI.step hsf).1 (hs _ _ _ _ _ _ hI hP hsf) hw
structure RootOk (st:List STree) (h:iV):Prop where
 root: ∀ a S b,st=a++S::b→ ∃ top,h[(bo a).length+S.ns.length - 1]? =some (top,S)
 kid: ∀ j y,h[j]? =some y→ ∀ a S b,y.1=a++S::b→ ∃ top,h[lo j y+(bo a).length+S.ns.length - 1]? =some (top,S)
theorem yg {α:Type} {l:List α} {a x:α} {i:Nat} (h:l[i]? =some x):(l++ [a])[i]? =some x:=by
 rw [Uh (TV.1 h).1];exact h
theorem Inv.facts {dn:List Nd} {st:List STree} {h:iV} (hI:Inv dn st h) {n:Nd} {l top:List STree} (hs:gU n st= .inr (l,top)):
  st=l++top∧(bo l).length+(bo top).length=h.length∧lo h.length (top,bP n top)=(bo l).length∧(∀ S∈l,0<S.ns.length)∧(∀ S∈top,0<S.ns.length):=by
 obtain ⟨hI',rfl⟩:=hI.step hs
 have h1:(bo l).length+(bo top).length=h.length:=by rw [hI.len,← hI.flat,cD,TG]
 refine ⟨rfl,h1,by simp only [lo,df];omega,fun S hS=>(hI.good S (Uv _ hS)).pos,fun S hS=>(hI.good S (UJ _ hS)).pos⟩
theorem Ee {dn:List Nd} {n:Nd} {st:List STree} {h:iV} {l top:List STree} (hI:Inv dn st h) (hP:RootOk st h) (hs:gU n st= .inr (l,top)):RootOk (l++ [bP n top]) (h++ [(top,bP n top)]):=by
 obtain ⟨rfl,hlen,hlo,hl,ht⟩:=hI.facts hs
 refine ⟨fun a S b hab=> ?_,fun j y hy a S b hab=> ?_⟩
 ·
  rcases List.append_eq_append_iff.1 hab with ⟨c,hc1,hc2⟩|⟨c,hc1,hc2⟩
  ·
   cases c with
   |nil=>
    simp only [TL,List.cons.injEq] at hc2
    obtain ⟨rfl,_⟩:=hc2
    rw [TR] at hc1
    subst hc1
    refine ⟨top,?_⟩
    rw [df,show (bo a).length+((bo top).length+1) - 1=h.length by omega]
    simp
   |cons T c' =>
    exfalso
    have:=congrArg List.length hc2
    simp at this
  ·
   subst hc1
   cases c with
   |nil=>
    simp only [TL,List.cons.injEq] at hc2
    obtain ⟨rfl,_⟩:=hc2
    refine ⟨top,?_⟩
    rw [TR] at hlen
    rw [df,show (bo a).length+((bo top).length+1) - 1=h.length by omega]
    simp
   |cons T c' =>
    simp only [TK,List.cons.injEq] at hc2
    obtain ⟨rfl,_⟩:=hc2
    obtain ⟨t,h1⟩:=hP.root a S (c' ++top) (by simp)
    exact ⟨t,yg h1⟩
 ·
  rcases dQ hy with ⟨hj,hy⟩|⟨rfl,rfl⟩
  ·
   obtain ⟨t,h1⟩:=hP.kid j y hy a S b hab
   exact ⟨t,yg h1⟩
  ·
   dsimp only at hab
   subst hab
   obtain ⟨t,h1⟩:=hP.root (l++a) S b (by simp)
   refine ⟨t,yg ?_⟩
   rw [hlo]
   rw [cD,TG] at h1
   exact h1
def gM (o:List Int) (ks:List Nat) (v:Int):List Int:=ks.foldl (fun o k=>o.set k v) o
theorem qI (o:List Int) (ks:List Nat) (v:Int):(gM o ks v).length=o.length:=by
 unfold gM
 induction ks generalizing o with
 |nil=>rfl
 |cons k r ih=>rw [UK,ih,V9]
theorem rp (o:List Int) (ks:List Nat) (v:Int) (k:Nat) (hk:k<o.length):(gM o ks v)[k]? =if k∈ks then some v else o[k]? :=by
 unfold gM
 induction ks generalizing o with
 |nil=>simp
 |cons j r ih=>
  rw [UK,ih (o.set j v) (by simpa using hk),List.getElem?_set]
  by_cases h1:k∈r
  ·
   simp [h1]
  ·
   by_cases h2:j=k
   ·
    subst h2;simp [hk]
   ·
    simp [h1,h2]
    exact fun e=>absurd e.symm h2
def Jv (o:List Int) (x:(List STree × STree) × Nat):List Int:=gM (o++ [-1]) (dE x.2 x.1) (x.2:Int)
def kT (h:iV):List Int:=h.zipIdx.foldl Jv []
theorem mE (h:iV) (x:List STree × STree):kT (h++ [x])=gM (kT h++ [-1]) (dE h.length x) (h.length:Int):=by
 simp [kT,List.zipIdx_append,Jv]
structure ParOk (st:List STree) (h:iV):Prop where
 len:(kT h).length=h.length
 kid: ∀ j y,h[j]? =some y→ ∀ k∈dE j y,(kT h)[k]? =some (j:Int)
 root: ∀ k∈aM 0 st,(kT h)[k]? =some (-1)
theorem xU {dn:List Nd} {n:Nd} {st:List STree} {h:iV} {l top:List STree} (hI:Inv dn st h) (hP:ParOk st h) (hs:gU n st= .inr (l,top)):ParOk (l++ [bP n top]) (h++ [(top,bP n top)]):=by
 have hI' :=(hI.step hs).1
 obtain ⟨rfl,hlen,hlo,hl,ht⟩:=hI.facts hs
 have hL:(kT h++ [-1]).length=h.length+1:=by simp [hP.len]
 have hkn: ∀ k∈dE h.length (top,bP n top),(bo l).length≤k∧k<h.length:=fun k hk=>by
  rw [dE,hlo] at hk
  have:=kQ ht hk
  omega
 have hkr: ∀ k,k∈dE h.length (top,bP n top)↔k∈aM (0+(bo l).length) top:=fun k=>by rw [dE,hlo,Uc]
 refine ⟨by rw [mE,qI,hL];simp,fun j y hy k hk=> ?_,fun k hk=> ?_⟩
 ·
  have hkj:k<(h++ [(top,bP n top)]).length:=by
   obtain ⟨m,_,e2,e3,_,e5,_⟩:=hI'.node j y hy
   have h1:=kQ (fun T hT=>(e3 T hT).pos) hk
   have h2:y.2.ns.length=(bo y.1).length+1:=by rw [e2,df]
   have h3:=(TV.1 hy).1
   simp only [lo] at h1
   omega
  rw [mE,rp _ _ _ _ (by rw [hL];simpa using hkj)]
  rcases dQ hy with ⟨hj,hy'⟩|⟨rfl,rfl⟩
  ·
   rw [if_neg]
   ·
    have h1:=hP.kid j y hy' k hk
    rw [Uh (TV.1 h1).1]
    exact h1
   ·
    intro hm
    have:=hI'.one j h.length y (top,bP n top) hy (by simp) k hk hm
    omega
  ·
   rw [if_pos hk]
 ·
  rw [dN] at hk
  rcases Ub.1 hk with hk|hk
  ·
   have h1:=kQ hl hk
   rw [mE,rp _ _ _ _ (by rw [hL];omega),if_neg]
   ·
    have h2:=hP.root k (by rw [dN];exact Uv _ hk)
    rw [Uh (TV.1 h2).1]
    exact h2
   ·
    intro hm
    have:=hkn k hm
    omega
  ·
   simp only [aM,df,TX] at hk
   have hkh:k=h.length:=by omega
   subst hkh
   rw [mE,rp _ _ _ _ (by rw [hL];omega),if_neg]
   ·
    rw [Uj (by rw [hP.len];exact TQ _),hP.len]
    simp
   ·
    intro hm
    have:=hkn _ hm
    omega
structure Whole (L:List Nd) (S:STree) (h:iV):Prop where
 walk:fM L [] []=(0,[S],h)
 ns:S.ns=L
 good:Good S
 inv:Inv L [S] h
 rootOk:RootOk [S] h
 parOk:ParOk [S] h
 pos:0<L.length
 last: ∃ top,h[L.length - 1]? =some (top,S)
theorem Mo {L:List Nd} {st:List STree} {h:iV} (hw:fM L [] []=(0,st,h)): ∃ S,st= [S]∧Whole L S h:=by
 obtain ⟨S,rfl,h1,h2,h3⟩:=J9 hw
 have h4:=pZ RootOk (fun dn n st h l top=>Ee) L [] [] [] _ _ Inv.nil ⟨fun a S b hab=>(by simp at hab),fun j y hy=>(by simp at hy)⟩ hw
 have h5:=pZ ParOk (fun dn n st h l top=>xU) L [] [] [] _ _ Inv.nil ⟨rfl,fun j y hy=>(by simp at hy),fun k hk=>(by simp [aM] at hk)⟩ hw
 refine ⟨S,rfl,hw,h1,h2,h3,h4,h5,by rw [← h1];exact h2.pos,?_⟩
 obtain ⟨top,h6⟩:=h4.root [] S [] rfl
 rw [h1] at h6
 simp only [bo,Up,U2,Uc] at h6
 exact ⟨top,h6⟩
theorem FI {L:List Nd} (h:dI L=0):L.length≤256∧ ∃ S H,Whole L S H∧S.kind≠3∧jV L false=(0,kK H):=by
 have hsm:L.length≤256∧0<L.length∧(fH L L 0 [] []).1=0∧jq L (L.length - 1)≠3∧jV L false=(0,(fH L L 0 [] []).2):=by
  unfold dI at h
  unfold jV at h ⊢
  split at h
  ·
   cases h
  rename_i h1
  split at h
  ·
   cases h
  rename_i h2
  split at h
  ·
   rename_i h3
   exact absurd h h3
  rename_i h3
  split at h
  ·
   cases h
  rename_i h4
  rw [if_neg h1,if_neg h2,if_neg h3,if_neg h4]
  exact ⟨by omega,by omega,by omega,fun e=>h4 ⟨rfl,e⟩,rfl⟩
 obtain ⟨h1,h2,h3,h4,h5⟩:=hsm
 rw [Dq] at h3 h5
 dsimp only at h3 h5
 have hw:fM L [] []=(0,(fM L [] []).2.1,(fM L [] []).2.2):=by rw [← h3]
 obtain ⟨S,e,hW⟩:=Mo hw
 refine ⟨h1,S,_,hW,?_,h5⟩
 rw [STree.kind,hW.ns,Ve]
 exact h4
end Go.SL
