/-
  Lemmas and walks, put together: Rw Lc R1 W31 W32 Tr Tr2 W18 W19 W20 W21 W22 Tr5 W36 W37 R2 R3.
-/
import Derived.Laws.Bits64
import Derived.Test.YthefeclkaaocnaaGreatDoorKj17
set_option linter.unusedSimpArgs false
set_option linter.unusedVariables false
set_option maxRecDepth 20000
namespace Go.SL
open Go
theorem qN: ∀ (l:List Int) {v:Int},(∀ c∈l,48≤c)→0≤v→0≤bk l v
 | [],_,_,h=>h
 |c::r,v,hl,h=>by
  rw [bk]
  refine qN r (fun d hd=>hl d (NQ _ hd)) ?_
  have:=hl c NI
  omega
theorem lj {p:Int→Bool}: ∀ {l:List Int} {c:Int},c∈l.take (aB p l)→p c=true
 | [],_,h=>by cases h
 |d::r,c,h=>by
  rw [aB] at h
  split at h
  ·
   rename_i hd
   rw [OI] at h
   rcases NS.1 h with rfl|h
   ·
    exact hd
   ·
    exact lj h
  ·
   cases h
theorem z6 {l:List Int} {v:Int} {n:Nat} (h:kq l=some (v,n)):0≤v:=by
 unfold kq at h
 dsimp only at h
 split at h
 ·
  cases h
 ·
  split at h
  ·
   cases h
  ·
   cases h
   refine qN _ (fun c hc=> ?_) (OW _)
   rw [Ol,Ol] at hc
   rcases hc with (hc|hc)|hc
   ·
    have:=lj hc
    rw [eD] at this
    exact this.1
   ·
    have hp:bS (l.drop (aB aC l))=0∨ ∃ r,l.drop (aB aC l)=46::r∧bS (l.drop (aB aC l))=aB aC r:=by
     by_cases h0:bS (l.drop (aB aC l))=0
     ·
      exact .inl h0
     ·
      exact .inr (m9 h0)
    rcases hp with hp|⟨r,hr,hp⟩
    ·
     rw [hp] at hc;cases hc
    ·
     have hr' :l.drop (aB aC l+1)=r:=by rw [← P4,hr];rfl
     rw [hr',hp] at hc
     have:=lj hc
     rw [eD] at this
     exact this.1
   ·
    rw [List.eq_of_mem_replicate hc];decide
theorem wX (l:List Int): ∀ (ns:List (List Int)) {i c:Int} {n:Nat},0≤i→jV l ns i=some (c,n)→0≤c
 | [],_,_,_,_,h=>by cases h
 |s::r,i,c,n,hi,h=>by
  rw [jV] at h
  split at h
  ·
   cases h;exact hi
  ·
   exact wX l r (by omega) h
theorem EH (l:List Int): ∀ (ns:List (List Int × Int)) {c:Int} {n:Nat},opL l ns=some (c,n)→ ∃ s∈ns,s.2=c
 | [],_,_,h=>by cases h
 |(s,k)::r,c,n,h=>by
  rw [opL] at h
  split at h
  ·
   cases h;exact ⟨_,NI,rfl⟩
  ·
   obtain ⟨x,hx,he⟩:=EH l r h
   exact ⟨x,NQ _ hx,he⟩
theorem Fx {l:List Int} {t:Tk} {n:Nat} (h:jn l=some (t,n)):0≤t.num:=by
 unfold jn at h
 split at h
 ·
  rename_i x hx
  cases h
  unfold ku at hx
  obtain ⟨⟨c,m⟩,hy,hz⟩:=OK.1 hx
  cases hz
  exact wX l _ (by decide) hy
 ·
  unfold gX at h
  split at h
  ·
   rename_i hx
   cases h
   obtain ⟨s,hs,he⟩:=EH l _ hx
   have: ∀ s∈eP,0≤s.2:=by decide
   exact he ▸ this s hs
  ·
   split at h
   ·
    cases h;simp
   ·
    split at h
    ·
     cases h;simp
    ·
     split at h
     ·
      cases h;simp
     ·
      cases h
theorem E3 {l:List Int} {t:Tk} {n:Nat} (h:gK l=some (t,n)):0≤t.num:=by
 unfold gK at h
 split at h
 ·
  cases h
 ·
  split at h
  ·
   cases h;simp
  ·
   split at h
   ·
    cases h;simp
   ·
    split at h
    ·
     cases h;simp
    ·
     split at h
     ·
      cases h
     ·
      split at h
      ·
       cases h;simp
      ·
       cases h;simp
theorem Cj {l:List Int} {t:Tk} {n:Nat} (h:bC l=some (t,n)):0≤t.num:=by
 unfold bC at h
 split at h
 ·
  obtain ⟨⟨v,m⟩,hy,hx⟩:=OK.1 h
  cases hx
  exact z6 hy
 ·
  split at h
  ·
   obtain ⟨x,_,hx⟩:=OK.1 h
   cases hx;simp
  ·
   split at h
   ·
    exact E3 h
   ·
    exact Fx h
theorem zj {l:List Int}: ∀ (f i:Nat) (r:List Tk),ba bC l f i= .ok r→ ∀ t∈r,0≤t.num:=by
 intro f
 induction f with
 |zero=>intro i r h;cases h;exact fun _ h=>by cases h
 |succ f ih=>
  intro i r h
  simp only [ba] at h
  split at h
  ·
   cases h;exact fun _ h=>by cases h
  ·
   split at h
   ·
    exact ih _ _ h
   ·
    split at h
    ·
     cases h
    ·
     rename_i t n ht
     cases hr:ba bC l f (i+n) with
     |error e=>rw [hr] at h;cases h
     |ok r' =>
      rw [hr] at h
      cases h
      intro u hu
      rcases NS.1 hu with rfl|hu
      ·
       have:=Cj ht
       exact this
      ·
       exact ih _ _ hr u hu
theorem zi (l:List Int): ∀ t∈(bL bC l).1,0≤t.num:=by
 unfold bL
 split
 ·
  exact fun _ h=>by cases h
 ·
  split
  ·
   exact fun _ h=>by cases h
  ·
   split
   ·
    rename_i r hr
    exact zj _ _ _ hr
   ·
    exact fun _ h=>by cases h
def Wf (p:PS):Prop:=(∀ t∈p.l,0≤t.num)∧ ∀ n∈p.out,wfN n
theorem Wf.skip {p:PS} (h:Wf p):Wf p.skip:=⟨fun t ht=>h.1 t (List.mem_of_mem_tail ht),h.2⟩
theorem Wf.put {p:PS} (h:Wf p) {n:Nd} (hn:wfN n):Wf (p.put n):=⟨h.1,fun m hm=>by
 rcases Ol.1 hm with hm|hm
 ·
  exact h.2 m hm
 ·
  rw [Ov.1 hm];exact hn⟩
theorem KS {fin:Int} {l:List Tk} (h: ∀ t∈l,0≤t.num):0≤(hdT fin l).num:=by
 cases l with
 |nil=>exact OW _
 |cons t r=>exact h t NI
theorem nS (k:Int) (r:Rct) (o:Int):wfN ⟨k,bK,r,o,0,0⟩:=⟨by simp [bK],OW 0,by simp⟩
theorem LM {t:Tk} (h:0≤t.num):wfN (l6 t):=by
 unfold l6
 refine ⟨?_,OW 0,by simp⟩
 simp only
 split
 ·
  simp only;omega
 ·
  split
  ·
   simp
  ·
   split
   ·
    simp only;omega
   ·
    simp only;omega
theorem rY (b:ByteArray):0≤(aX b).1∧(aX b).1≤255:=by
 have hb1:=iS cZ b 0 (by omega)
 rw [iQ] at hb1
 unfold aX
 split
 ·
  dsimp only;omega
 ·
  dsimp only;omega
theorem uU {fin:Int} {name:Tk} {fn:Int} {n m:Nat} {p p' :PS} (h:dC fin name fn n p=some (.ok (m,p'))) (hw:Wf p) (h0:0≤fn) (h1:fn≤255):Wf p' :=by
 unfold dC at h
 dsimp only at h
 split at h
 ·
  cases h
 ·
  split at h
  ·
   cases h
  ·
   split at h
   ·
    cases h
   ·
    cases h
    exact hw.skip.put ⟨by simp [bK],h0,h1⟩
theorem Ez (fin:Int): ∀ (f:Nat) (j:Job) (p:PS) (n:Nat) (p' :PS),bE fin f j p=some (.ok (n,p'))→Wf p→Wf p'
 |0,_,_,_,_,h,_=>by cases h
 |f+1,j,p,n,p',h,hw=>by
  have ih:=Ez fin f
  cases j with
  |level k=>
   rw [bE] at h
   split at h
   ·
    exact ih _ _ _ _ h hw
   ·
    obtain ⟨n1,p1,h1,h2⟩:=cf h
    exact ih _ _ _ _ h2 (ih _ _ _ _ h1 hw)
  |loop k=>
   rw [bE] at h
   try dsimp only at h
   split at h
   ·
    obtain ⟨n1,p1,h1,h2⟩:=cf h
    exact ih _ _ _ _ h2 ((ih _ _ _ _ h1 hw.skip).put (nS _ _ _))
   ·
    cases h;exact hw
  |sign=>
   rw [bE] at h
   try dsimp only at h
   split at h
   ·
    obtain ⟨n1,p1,h1,h2⟩:=cf h
    cases h2
    exact (ih _ _ _ _ h1 hw.skip).put (nS _ _ _)
   ·
    obtain ⟨n1,p1,h1,h2⟩:=cf h
    split at h2
    ·
     obtain ⟨n2,p2,h3,h4⟩:=cf h2
     cases h4
     exact (ih _ _ _ _ h3 (ih _ _ _ _ h1 hw).skip).put (nS _ _ _)
    ·
     cases h2
     exact ih _ _ _ _ h1 hw
  |pct=>
   rw [bE] at h
   obtain ⟨n1,p1,h1,h2⟩:=cf h
   exact ih _ _ _ _ h2 (ih _ _ _ _ h1 hw)
  |pctl=>
   rw [bE] at h
   try dsimp only at h
   split at h
   ·
    exact ih _ _ _ _ h (hw.skip.put (nS _ _ _))
   ·
    cases h;exact hw
  |prim=>
   rw [bE] at h
   try dsimp only at h
   split at h
   ·
    cases h
    exact hw.skip.put (LM (KS hw.1))
   ·
    split at h
    ·
     cases h
     exact hw.skip.put (nS _ _ _)
    ·
     split at h
     ·
      obtain ⟨n1,p1,h1,h2⟩:=cf h
      split at h2
      ·
       cases h2
      ·
       cases h2
       exact (ih _ _ _ _ h1 hw.skip).skip
     ·
      split at h
      ·
       split at h
       ·
        cases h
       ·
        have hb:=rY (hdT fin p.l).text
        split at h
        ·
         cases h
        ·
         split at h
         ·
          exact uU h hw.skip.skip hb.1 hb.2
         ·
          obtain ⟨n1,p1,h1,h2⟩:=cf h
          exact uU h2 (ih _ _ _ _ h1 hw.skip.skip) hb.1 hb.2
      ·
       cases h
  |args fn i=>
   rw [bE] at h
   try dsimp only at h
   have hgo: ∀ p0:PS,Wf p0→(if (hdT fin p0.l).kind=11 then bE fin f (.args fn (i+1)) p0.skip else some (.ok (i+1,p0)))=some (.ok (n,p'))→Wf p' :=by
    intro p0 hw0 h0
    split at h0
    ·
     exact ih _ _ _ _ h0 hw0.skip
    ·
     cases h0;exact hw0
   split at h
   ·
    obtain ⟨n1,p1,h1,h2⟩:=cf h
    exact hgo p1 (ih _ _ _ _ h1 hw) h2
   ·
    split at h
    ·
     cases h
    ·
     exact hgo _ (hw.skip.put (nS _ _ _)) h
def u4 (b:ByteArray):Vl:=
 if b=au then bK
 else if (ap b).headD 0=39 then ⟨3,0,mkB (ap b).tail⟩
 else if upB b=mO∨upB b=kS then lR (decide (upB b=mO))
 else if (gZ b).2=0∧(gZ b).1<6 then fW (gZ b).1
 else if (gC (ap b)).2=0 then uA (gC (ap b)).1
 else if (gC (ap b)).2=3 then fW 3
 else ⟨3,0,b⟩
theorem Gb {b:ByteArray} (hg:gT b=0):qU b=u4 b:=by
 have hT:mO≠kS:=by decide
 have h3:HF b=if upB b=mO then (lR true,true) else if upB b=kS then (lR false,true) else (fW 2,false):=by
  have hv:oZ ⟨3,0,b⟩=0:=by simp [oZ,tA,hg]
  simp only [HF,iE,hv,if_true,x9]
  split
  ·
   rfl
  ·
   split<;>rfl
 have h2:Ki b=if (ap b).headD 0=39 then (⟨3,0,mkB (ap b).tail⟩,true) else (⟨3,0,b⟩,false):=by
  have hq:ap uh= [39]:=rfl
  have hs:uh.size=1:=rfl
  simp only [Ki,qj,hq,hs]
  cases hi:ap b with
  |nil=>simp
  |cons c r=>
   simp only [OI,Pj,List.cons.injEq,and_true,O3,List.tail_cons]
   by_cases hc:c=39
   ·
    have hsz:b.size=(c::r).length:=by rw [← hi,av]
    have:sub b 1 b.size=mkB r:=by
     refine IK ?_
     rw [dW,hi,hsz]
     simp
    simp only [hc,if_true,this]
   ·
    simp only [hc,if_false]
 have hgen: ∀ (p:Prop) [Decidable p] (x y z:Vl),(if (if p then (x,true) else (y,false)).2=true then (if p then (x,true) else (y,false)).1 else z)=if p then x else z:=by
  intro p _ x y z
  split<;>simp
 unfold qU tO eG eG eG eG eG eG u4
 have e1:(Kk b).2=decide (b=au):=rfl
 rw [e1,h2,h3]
 by_cases c1:b=au
 ·
  simp [c1,Kk]
 ·
  rw [if_neg (by simpa using c1),if_neg c1]
  by_cases c2:(ap b).headD 0=39
  ·
   simp only [c2,if_true]
  ·
   simp only [c2,if_false,OT]
   by_cases c3:upB b=mO
   ·
    simp [c3]
   ·
    by_cases c4:upB b=kS
    ·
     simp [c4,hT.symm]
    ·
     simp only [c3,c4,if_false,or_self,OT]
     by_cases c5:(gZ b).2=0∧(gZ b).1<6
     ·
      have:(Ce b).2=true:=by simp only [Ce,c5.1,decide_true,O8,decide_eq_true_eq];omega
      rw [if_pos this,if_pos c5];rfl
     ·
      have:(Ce b).2=false:=by
       simp only [Ce,OQ,decide_eq_false_iff_not]
       by_cases h:(gZ b).2=0
       ·
        right;intro h';exact c5 ⟨h,by omega⟩
       ·
        left;exact h
      rw [if_neg (by simp [this]),if_neg c5]
      by_cases c6:(gC (ap b)).2=0
      ·
       simp [Fm,c6]
      ·
       by_cases c7:(gC (ap b)).2=3
       ·
        simp [Fm,c7]
       ·
        simp [Fm,c6,c7]
end Go.SL
namespace Go.SL
open Go Go.Proofs
attribute [local irreducible] W WL WQ WG WA WX WLI WR WT WC VOp RW thn blk bG scp bg bi bT aQ FnIn FnP ceP
section
variable {w0:World} {s:az} {H:List Blk} {ty t' :TypeId} {x y:Operand}
theorem Fh {a b:Vl} {c:Bool} (h:decide (a=b)=c) (hx:ev s x=some (.agg (dx a).toArray)) (hy:ev s y=some (.agg (dx b).toArray)):VOp Tryz.prog w0 s H (.binOp .eql 172 x y t') ty (.bool c):=by
 have h1:=B6 (w0:=w0) (H:=H) (ty:=ty) (t' :=t') hx hy
 rwa [EO,h] at h1
theorem Fj {a b:Rct} {c:Bool} (h:decide (a=b)=c) (hx:ev s x=some (.agg (bQ a).toArray)) (hy:ev s y=some (.agg (bQ b).toArray)):VOp Tryz.prog w0 s H (.binOp .eql 33 x y t') ty (.bool c):=by
 have h1:=LW (w0:=w0) (H:=H) (ty:=ty) (t' :=t') hx hy
 rwa [EP,h] at h1
theorem nV {a b:Rct} {c:Bool} (h:decide (a=b)=c) (hx:ev s x=some (.agg (bQ a).toArray)) (hy:ev s y=some (.agg (bQ b).toArray)):VOp Tryz.prog w0 s H (.binOp .neq 33 x y t') ty (.bool (!c)):=by
 have h1:=LR (w0:=w0) (H:=H) (ty:=ty) (t' :=t') hx hy
 rwa [EP,h] at h1
theorem wn {a b:Rf} {c:Bool} (h:decide (a=b)=c) (hx:ev s x=some (.agg (cu a).toArray)) (hy:ev s y=some (.agg (cu b).toArray)):VOp Tryz.prog w0 s H (.binOp .eql 51 x y t') ty (.bool c):=by
 have h1:=HA (w0:=w0) (H:=H) (ty:=ty) (t' :=t') hx hy
 rwa [ES,h] at h1
end
theorem CD (a b:Rf) (w:World):ax Tryz.prog 158 [.agg (cu a).toArray,.agg (cu b).toArray] w (.bool (bP a b)):=by
 refine aq Tryz.func158 rfl Tryz.ntmps158 rfl ?_
 repeat' (first|refine sT ?_|refine sM fun _=> ?_|(refine sC ?_ ?_<;>intro hb<;>try omega)|fail)
 all_goals ((refine rT1 ?_);((try simp only [← Int.not_lt] at*);simp_all [bP, -Int.not_lt, -Int.not_le,← Int.not_lt]))
theorem iw (a:Rf) (w:World):ax Tryz.prog 338 [.agg (cu a).toArray] w (.agg (bQ (KF a.col a.row)).toArray):=by
 refine aq Tryz.func338 rfl Tryz.ntmps338 rfl ?_
 repeat' (first|refine sT ?_|refine sM fun _=> ?_|(refine sC ?_ ?_<;>intro hb<;>try omega)|fail)
 all_goals ((refine eRC ?_);rfl)
theorem iU {a:ByteArray} {i:Nat} (h:a.size≤i):bat a i=0:=by
 rw [bat,NX,O1 (by rw [av];exact h)];rfl
theorem mX (a:ByteArray) (ha:a.size≤1000000) (i:Nat) (w:World):ax Tryz.prog 317 [.string a,.int .i64 (i:Int)] w (.bool (aC (bat a i))):=by
 refine aq Tryz.func317 rfl Tryz.ntmps317 rfl ?_
 have h0:=fun h:a.size≤i=>iU h
 generalize hc:bat a i=c at h0
 repeat' (first|(apply ak;exact rfl;apply aV (j:=i);exact rfl;exact rfl;omega)|(rw [hc])|refine sT ?_|refine sT2 ?_|refine sM fun _=> ?_|(refine sC ?_ ?_<;>intro hb<;>try omega)|fail)
 all_goals ((refine rT1 ?_);(try rw [h0 (by omega)]);simp_all [aC];try omega)
theorem lX (a:ByteArray) (ha:a.size≤1000000) (i:Nat) (w:World):ax Tryz.prog 320 [.string a,.int .i64 (i:Int)] w (.bool (bN (bat a i))):=by
 refine aq Tryz.func320 rfl Tryz.ntmps320 rfl ?_
 have h0:=fun h:a.size≤i=>iU h
 generalize hc:bat a i=c at h0
 repeat' (first|(apply ak;exact rfl;apply aV (j:=i);exact rfl;exact rfl;omega)|(rw [hc])|refine sT ?_|refine sT2 ?_|refine sM fun _=> ?_|(refine sC ?_ ?_<;>intro hb<;>try omega)|fail)
 all_goals ((refine rT1 ?_);(try rw [h0 (by omega)]);simp_all [bN];try omega)
def Ac (c:Int):Int:=if bN c then upC c - 64 else 0
theorem o8 (c:Int) (h0:0≤c) (h1:c<256) (w:World):ax Tryz.prog 365 [.int .u8 c] w (.int .i64 (Ac c)):=by
 refine aq Tryz.func365 rfl Tryz.ntmps365 rfl ?_
 repeat' (first|(apply ak (d:=10);exact rfl;apply dG (c:=c - 65);exact rfl;exact rfl;exact eM (by omega) (by omega))|(apply ak (d:=20);exact rfl;apply dG (c:=c - 97);exact rfl;exact rfl;exact eM (by omega) (by omega))|(apply ak (d:=11);exact rfl;apply bI (c:=c - 65);exact rfl;exact I64.wrap ⟨by omega,by omega⟩)|(apply ak (d:=21);exact rfl;apply bI (c:=c - 97);exact rfl;exact I64.wrap ⟨by omega,by omega⟩)|(apply ak (d:=12);exact rfl;apply dw;exact rfl;exact rfl;exact ⟨by omega,by omega⟩)|(apply ak (d:=22);exact rfl;apply dw;exact rfl;exact rfl;exact ⟨by omega,by omega⟩)|refine sT ?_|refine sM fun _=> ?_|(refine sC ?_ ?_<;>intro hb<;>try omega)|fail)
 all_goals
  (refine rT1 ?_)
  unfold Ac upC
  first
   |(rw [if_pos ((gS c).2 (by omega)),if_pos (by omega)];congr 1;omega)
   |(rw [if_pos ((gS c).2 (by omega)),if_neg (by omega)];congr 1;omega)
   |(rw [if_neg (by rw [gS];omega)])
set_option maxHeartbeats 1000000 in
theorem j8 (a:ByteArray) (ha:a.size≤1000000) (w:World):ax Tryz.prog 249 [.string a] w (.string (upB a)):=by
 refine aq Tryz.func249 rfl Tryz.ntmps249 rfl ?_
 repeat' (first|(apply lK;exact rfl;exact rfl;intro gb cap)|refine sT ?_|refine sM fun _=> ?_|(refine sC ?_ ?_<;>intro hb<;>try omega)|fail)
 refine ay [3] rfl (fun i:Nat=> [(4,.int .i64 (i:Int))]) (fun i=> [.byt gb 5 a.size cap ((((ap a).take i).map upC++(ap a).drop i).map (Value.int .u8))]) (fun i=>i≤a.size) (fun i=>a.size - i) 0 (by omega) sB ?_ ?_
 ·
  rw [oo];simp only [Pj,Pe,NH,O4];exact mS
 intro i hi
 have hl:=av a
 by_cases hlt:i<a.size
 ·
  have hil:i<(ap a).length:=by omega
  have hok:=l8 a (ap a)[i] (OD hil)
  have hget:((((ap a).take i).map upC++(ap a).drop i).map (Value.int .u8))[0+i*1]? =some (.int .u8 (ap a)[i]):=by
   rw [OU,show 0+i*1=i by omega,OC (by simp;omega)]
   simp [Ps (Nat.le_of_lt hil),O6]
  have hstep:97≤(ap a)[i]∧(ap a)[i]≤122→upC (ap a)[i]=(ap a)[i] - 32:=fun h=>by rw [upC,if_pos h]
  have hsame: ¬ (97≤(ap a)[i]∧(ap a)[i]≤122)→upC (ap a)[i]=(ap a)[i]:=fun h=>by rw [upC,if_neg h]
  have hupd:=tL upC (Value.int .u8) (ap a) i hil
  have hkeep: ∀ v,(((ap a).take i).map upC++(ap a).drop i).map (Value.int .u8)=v→upC (ap a)[i]=(ap a)[i]→v=(((ap a).take (i+1)).map upC++(ap a).drop (i+1)).map (Value.int .u8):=fun v hv hs=>by
   rw [← hupd,hs,← hv]
   rw [show 0+i*1=i by omega] at hget
   obtain ⟨h1,h2⟩:=NV.1 hget
   rw [← h2,List.set_getElem_self]
  generalize (ap a)[i]=c at hget hok hstep hsame hupd hkeep
  repeat' (first|(apply ak;exact rfl;apply aj;exact rfl;exact rfl;exact hlt)|(apply ak;exact rfl;apply jM;exact rfl;exact pK;exact hget)|(apply ak (d:=31);exact rfl;apply dG (c:=c - 32);exact rfl;exact rfl;exact eM (by omega) (by omega))|(apply lL;exact rfl;exact rfl;exact pK;exact rfl;(simp;omega))|refine sT ?_|refine sS ?_|refine sW ?_|refine sN ?_|refine sWN ?_|refine sM fun _=> ?_|(refine sC ?_ ?_<;>intro hb<;>try omega)|(refine sCW ?_ ?_<;>intro hb<;>try omega)|fail)
  ·
   rw [show 0+i*1=i by omega,← hstep ⟨by assumption,by assumption⟩,hupd]
   exact ⟨i+1,hlt,by omega,sB,sB,mS⟩
  ·
   exact ⟨i+1,hlt,by omega,sB,sB,(by rw [← hkeep _ rfl (hsame (by omega))];exact mS)⟩
  ·
   exact ⟨i+1,hlt,by omega,sB,sB,(by rw [← hkeep _ rfl (hsame (by omega))];exact mS)⟩
 ·
  have e2:i=a.size:=by omega
  subst e2
  rw [N9 (by omega),N0 (by omega),NM]
  repeat' (first|(apply ak (d:=34);exact rfl;apply qF;exact rfl;exact pK;(rw [OV];omega))|refine sT ?_|refine sS ?_|refine sM fun _=> ?_|(refine sC ?_ ?_<;>intro hb<;>try omega)|fail)
  (refine rT1 ?_)
  rfl
end Go.SL
namespace Go.SL
open Go Go.Proofs
attribute [local irreducible] W WL WQ WG WA VOp thn blk bG bg aQ FnIn Nv
def aT:List Nd:= [k2,k3,j7,k6]
end Go.SL
namespace Go.SL
open Go
structure STree where
 ns:List Nd
 d:Nat
def STree.kind (S:STree):Int:=((S.ns.getLast?).map Nd.kind).getD 0
def Nz (n:Nd) (i:Int) (k:Int):Bool:= !(decide (k=3) && !z7 n i) && !(decide (n.kind=7) && iq n.fn && decide (k≠2) && decide (k≠3))
def Jd (n:Nd):Int→List STree→Bool
 |_,[]=>true
 |i,S::r=>Nz n i S.kind && Jd n (i+1) r
def IV (st:List STree) (k:Nat):List STree:=st.drop (st.length - k)
def Dt (top:List STree):Nat:=top.foldl (fun d S=>max d (S.d+1)) 1
def wR (st:List STree):List Nd:=st.flatMap STree.ns
def EJ (n:Nd) (top:List STree):STree:=⟨wR top++ [n],Dt top⟩
def M3 (n:Nd) (st:List STree):Int ⊕ (List STree × List STree):=
 if cV n≠0 then .inl (cV n)
 else if (st.length:Int)<below n∨Jd n 0 (IV st (below n).toNat)=false then .inl 4
 else if 32<Dt (IV st (below n).toNat) then .inl 9
 else .inr (st.take (st.length - (below n).toNat),IV st (below n).toNat)
abbrev DG:=List (List STree × STree)
def Lz:List Nd→List STree→DG→Int × List STree × DG
 | [],st,h=>(if st.length=1 then 0 else 4,st,h)
 |n::r,st,h=>match M3 n st with
  | .inl e=>(e,st,h)
  | .inr (lo,top)=>Lz r (lo++ [EJ n top]) (h++ [(top,EJ n top)])
inductive Good:STree→Prop
 |mk (n:Nd) (top:List STree) (hg: ∀ S∈top,Good S) (hf:cV n=0) (hb:(top.length:Int)=Go.SL.below n) (hfit:Jd n 0 top=true) (hd:Dt top≤32):Good (EJ n top)
def lm:Nat→List STree→List Nat
 |_,[]=> []
 |o,S::r=>(o+S.ns.length - 1)::lm (o+S.ns.length) r
def lo (i:Nat) (x:List STree × STree):Nat:=i+1 - x.2.ns.length
def uF (i:Nat) (x:List STree × STree):List Nat:=lm (lo i x) x.1
structure Inv (dn:List Nd) (st:List STree) (h:DG):Prop where
 pq:wR st=dn
 good: ∀ S∈st,Good S
 len:h.length=dn.length
 node: ∀ i x,h[i]? =some x→ ∃ n,dn[i]? =some n∧x.2=EJ n x.1∧(∀ T∈x.1,Good T)∧Good x.2∧x.2.ns.length≤i+1∧(dn.take (i+1)).drop (lo i x)=x.2.ns
 deep: ∀ x∈h,∃ S∈st,x.2.d≤S.d
 cut: ∀ a b,st=a++b→ ∀ j x,h[j]? =some x→(wR a).length≤j→(wR a).length≤lo j x
 lam: ∀ i j x y,h[i]? =some x→h[j]? =some y→j≤i→lo i x≤j→lo i x≤lo j y
 mid: ∀ i j x y,h[i]? =some x→h[j]? =some y→ ∀ k∈uF j y,k<i→i<j→k<lo i x
 up: ∀ k<h.length,k∈lm 0 st∨ ∃ j y,h[j]? =some y∧k∈uF j y
 apart: ∀ j y,h[j]? =some y→ ∀ k∈uF j y,k∉lm 0 st
 one: ∀ i j x y,h[i]? =some x→h[j]? =some y→ ∀ k,k∈uF i x→k∈uF j y→i=j
structure RootOk (st:List STree) (h:DG):Prop where
 root: ∀ a S b,st=a++S::b→ ∃ top,h[(wR a).length+S.ns.length - 1]? =some (top,S)
 kid: ∀ j y,h[j]? =some y→ ∀ a S b,y.1=a++S::b→ ∃ top,h[lo j y+(wR a).length+S.ns.length - 1]? =some (top,S)
def L7 (o:List Int) (ks:List Nat) (v:Int):List Int:=ks.foldl (fun o k=>o.set k v) o
def Ky (o:List Int) (x:(List STree × STree) × Nat):List Int:=L7 (o++ [-1]) (uF x.2 x.1) (x.2:Int)
def Mc (h:DG):List Int:=h.zipIdx.foldl Ky []
structure ParOk (st:List STree) (h:DG):Prop where
 len:(Mc h).length=h.length
 kid: ∀ j y,h[j]? =some y→ ∀ k∈uF j y,(Mc h)[k]? =some (j:Int)
 root: ∀ k∈lm 0 st,(Mc h)[k]? =some (-1)
structure Whole (L:List Nd) (S:STree) (h:DG):Prop where
 walk:Lz L [] []=(0,[S],h)
 ns:S.ns=L
 good:Good S
 inv:Inv L [S] h
 rootOk:RootOk [S] h
 parOk:ParOk [S] h
 pos:0<L.length
 last: ∃ top,h[L.length - 1]? =some (top,S)
end Go.SL
namespace Go.SL
open Go Go.Proofs
attribute [local irreducible] W WL WQ WG WA VOp thn blk bG bg aQ FnIn
theorem wt {L:List Nd} {n:Nd} {i:Nat} {st:List Pt} {e:Int} (h:mA L n i st= .inl e):e≠0:=by
 unfold mA at h
 split at h
 ·
  injection h with h;subst h;assumption
 ·
  split at h
  ·
   injection h with h;omega
  ·
   split at h
   ·
    injection h with h;omega
   ·
    cases h
theorem rq {L:List Nd} {n:Nd} {i:Nat} {st st' :List Pt} {ks:List Nat} {d:Nat} (h:mA L n i st= .inr (st',ks,d)): ∃ a,(∀ p∈a,p∈st)∧a.length≤st.length∧st' =a++ [⟨i,d,decide (n.kind=3)⟩]∧d≤32:=by
 unfold mA at h
 split at h
 ·
  cases h
 ·
  split at h
  ·
   cases h
  ·
   split at h
   ·
    cases h
   ·
    simp only [Sum.inr.injEq,Prod.mk.injEq] at h
    obtain ⟨rfl,rfl,rfl⟩:=h
    exact ⟨_,fun p hp=>OO hp,by simp,rfl,by omega⟩
theorem zh {L:List Nd} {i:Nat} (hi:i<L.length) {st st' :List Pt} {ks:List Nat} {d:Nat} (ho:TopsOk L i st) (h:mA L L[i] i st= .inr (st',ks,d)):TopsOk L (i+1) st' :=by
 obtain ⟨a,h1,h2,rfl,h3⟩:=rq h
 refine ⟨fun p hp=> ?_,by have:=ho.small;simp;omega⟩
 rcases Ol.1 hp with hp|hp
 ·
  obtain ⟨q1,q2,q3⟩:=ho.ok p (h1 p hp)
  exact ⟨by omega,q2,q3⟩
 ·
  rw [Ov.1 hp]
  exact ⟨PQ i,h3,by rw [iB hi]⟩
def cJ (L:List Nd):List Nd→Nat→List Pt→List Pt × Int
 | [],_,st=>(st,0)
 |n::r,i,st=>match mA L n i st with
  | .inl e=>([],e)
  | .inr x=>cJ L r (i+1) x.1
def Af (st:List Pt):Nat:=(st.getLast?.map Pt.depth).getD 0
theorem uG (L:List Nd): ∀ (r:List Nd) (i:Nat) (st:List Pt) (vs:List nO),EM vs=Af st→
  (iV L r i st vs).1=(if (cJ L r i st).2≠0 then (cJ L r i st).2 else if (cJ L r i st).1.length=1 then 0 else 4)∧((cJ L r i st).2=0→EM (iV L r i st vs).2=Af (cJ L r i st).1)
 | [],i,st,vs,h=>by
  refine ⟨?_,fun _=>h⟩
  by_cases h1:st.length=1<;>simp [iV,cJ,h1]
 |n::r,i,st,vs,h=>by
  rw [iV,cJ]
  cases hs:mA L n i st with
  |inl e=>have:=wt hs;simp [this]
  |inr x=>
   obtain ⟨st',ks,d⟩:=x
   obtain ⟨a,_,_,rfl,_⟩:=rq hs
   dsimp only
   exact uG L r (i+1) _ _ (by simp [EM,Af])
theorem zG (L:List Nd):nI L=(if 256<L.length then (0,5) else if (cJ L L 0 []).2≠0 then (0,(cJ L L 0 []).2) else if (cJ L L 0 []).1.length≠1∨kQ L (L.length - 1)=3 then (0,4) else (((Af (cJ L L 0 []).1:Nat):Int),0):Int × Int):=by
 obtain ⟨h1,h2⟩:=uG L L 0 [] [] rfl
 have h0:L.length=0→(cJ L L 0 []).2=0∧(cJ L L 0 []).1.length=0:=fun c=>by
  have:L= []:=Oo c
  subst this
  simp [cJ]
 unfold nI kV nJ
 generalize iV L L 0 [] []=wk at h1 h2
 generalize cJ L L 0 []=j at h0 h1 h2
 generalize kQ L (L.length - 1)=k
 obtain ⟨w1,w2⟩:=wk
 obtain ⟨j1,j2⟩:=j
 dsimp only at h0 h1 h2 ⊢
 by_cases c1:256<L.length
 ·
  simp [c1]
 by_cases c2:L.length=0
 ·
  obtain ⟨a1,a2⟩:=h0 c2
  simp only [if_neg c1,if_pos c2]
  simp [a1,a2]
 simp only [if_neg c1,if_neg c2]
 clear c1 c2 h0
 by_cases c3:j2=0
 ·
  have h2' :=h2 c3
  by_cases c4:j1.length=1
  ·
   by_cases c5:k=3<;>simp_all
  ·
   simp_all
 ·
  simp_all
theorem I0 (L:List Nd) (hlen:L.length≤256) (hwf: ∀ n∈L,wfN n) (tv:Value) (w:World) (ht:Reads w tv L.length (L.flatMap cj)):
  aQ Tryz.prog 302 [tv] w fun v H=> ∃ A cap,v= .tuple #[sl A (cJ L L 0 []).1.length cap,.int .i64 (cJ L L 0 []).2]∧H= [.own A 387 2 (cJ L L 0 []).1.length cap ((cJ L L 0 []).1.flatMap pu)]:=by
 have ht' :=ht
 obtain ⟨At,ct,rfl,ht1,ht2,ht3⟩:=ht
 refine aq Tryz.func302 rfl Tryz.ntmps302 rfl ?_
 refine aP 387 2 ?_
 refine aP 387 2 ?_
 generalize hR:cJ L L 0 []=R
 repeat' (first|refine sT ?_|refine sM fun _=> ?_|(refine sC ?_ ?_<;>intro hb<;>try omega)|fail)
 refine ay [0] rfl (fun x:Nat × List Pt × Option Nat × Nat=> [(4,sl x.2.2.1 x.2.1.length x.2.2.2),(5,.int .i64 (x.1:Int))]) (fun x=> [.own x.2.2.1 387 2 x.2.1.length x.2.2.2 (x.2.1.flatMap pu),.own none 387 2 0 0 []]) (fun x=>x.1≤L.length∧TopsOk L x.1 x.2.1∧R=cJ L (L.drop x.1) x.1 x.2.1) (fun x=>L.length - x.1) (0,[],none,0) ⟨by omega,⟨fun p hp=>by simp at hp,NY _⟩,hR.symm⟩ sB mS ?_
 rintro ⟨i,st,A,cap⟩ ⟨hi,hok,hrec⟩
 dsimp only at hi hok hrec ⊢
 by_cases hlt:i<L.length
 ·
  rw [NL hlt,cJ] at hrec
  have hnode:=fun (w' :World) (H:List Blk) (hm:Mem w w' H) (hr:Reads w' (sl A st.length cap) st.length (st.flatMap pu))=>CB L i hlt hlen (hwf _ (OD hlt)) st hok _ _ w' (ht'.of_w0 hm) hr
  have hto:=fun {st' ks d}=>zh (st' :=st') (ks:=ks) (d:=d) hlt hok
  unfold uu at hnode
  generalize hs:mA L L[i] i st=s at hrec hnode hto
  cases s with
  |inl e=>
   have he:=wt hs
   dsimp only at hrec hnode
   subst hrec
   repeat' (first|(apply aG;exact rfl;exact rfl;(intro w' hm;exact hnode w' _ hm (Reads.of_own hm pK));(rintro v H' ⟨A',cap',rfl,rfl⟩))|refine sT ?_|refine sM fun _=> ?_|(refine sC ?_ ?_<;>intro hb<;>try omega)|fail)
   ·
    exact jh (.inl rfl) Tryz.results302 rfl rfl (H' := [.own none 387 2 0 0 []]) mS ⟨none,0,rfl,rfl⟩
  |inr x=>
   obtain ⟨st',ks,d⟩:=x
   dsimp only at hrec hnode
   repeat' (first|(apply aG;exact rfl;exact rfl;(intro w' hm;exact hnode w' _ hm (Reads.of_own hm pK));(rintro v H' ⟨A',cap',rfl,rfl⟩))|refine sT ?_|refine sN ?_|refine sM fun _=> ?_|(refine sC ?_ ?_<;>intro hb<;>try omega)|fail)
   refine ⟨(i+1,st',A',cap'),?_,(by first|omega|(dsimp only;omega)),sB,sB,mS⟩
   exact ⟨hlt,hto rfl,hrec⟩
 ·
  have e:i=L.length:=by omega
  subst e
  rw [NW,cJ] at hrec
  subst hrec
  repeat' (first|refine sT ?_|refine sM fun _=> ?_|(refine sC ?_ ?_<;>intro hb<;>try omega)|fail)
  exact jh (.inl rfl) Tryz.results302 rfl rfl (H' := [.own A 387 2 st.length cap (st.flatMap pu)]) mS ⟨A,cap,rfl,rfl⟩
theorem F2 {st:List Pt} (h:st.length=1): ∃ p,st= [p]∧Af st=p.depth:=by
 match st,h with
 | [p],_=>exact ⟨p,rfl,rfl⟩
theorem zH (L:List Nd) (hwf: ∀ n∈L,wfN n) (tv:Value) (w:World) (ht:Reads w tv L.length (L.flatMap cj)):ax Tryz.prog 259 [tv] w (.tuple #[.int .i64 (nI L).1,.int .i64 (nI L).2]):=by
 have ht' :=ht
 obtain ⟨At,ct,rfl,ht1,ht2,ht3⟩:=ht
 refine aq Tryz.func259 rfl Tryz.ntmps259 rfl ?_
 have hd:=zG L
 generalize hde:nI L=de at hd
 by_cases h256:256<L.length
 ·
  rw [if_pos h256] at hd
  subst hd
  repeat' (first|refine sT ?_|refine sM fun _=> ?_|(refine sC ?_ ?_<;>intro hb<;>try omega)|fail)
  (refine rT2 ?_)
  rfl
 have hj:=fun (w' :World) (H:List Blk) (hm:Mem w w' H)=>I0 L (by omega) hwf _ w' (ht'.of_w0 hm)
 rw [if_neg h256] at hd
 have h0:L.length=0→(cJ L L 0 []).1.length=0:=fun c=>by
  have:L= []:=Oo c
  subst this
  simp [cJ]
 generalize cJ L L 0 []=j at hj hd h0
 obtain ⟨st,e⟩:=j
 dsimp only at hj hd h0
 by_cases he:e=0
 ·
  rw [if_neg (by simp [he])] at hd
  by_cases hl:st.length=1
  ·
   obtain ⟨p,rfl,hp⟩:=F2 hl
   obtain ⟨gt,ot,rfl,hrt⟩:=ht3 (by omega)
   have hrl:=hrt.elem fX (L.length - 1) (by omega)
   have hk:kQ L (L.length - 1)=(L[L.length - 1]'(by omega)).kind:=iB _
   rw [hk,hp] at hd
   generalize (L[L.length - 1]'(by omega))=nl at hrl hd
   subst he
   repeat' (first|(apply aG;exact rfl;exact rfl;(intro w' hm;exact hj w' _ hm);(rintro v H' ⟨A',cap',rfl,rfl⟩))|refine sT ?_|refine sN ?_|refine sO ?_|refine sM fun _=> ?_|(refine sC ?_ ?_<;>intro hb<;>try omega)|fail)
   ·
    rw [if_pos (.inr hb)] at hd
    subst hd
    (refine rT2 ?_)
    rfl
   ·
    rw [if_neg (by simp;omega)] at hd
    subst hd
    refine DU .hd (by simp) fun ga hA=> ?_
    subst hA
    repeat' (first|(apply ak;exact rfl;apply aj (j:=0);exact rfl;exact rfl;exact Nat.one_pos)|(apply ak;exact rfl;apply bF;exact rfl;exact pK;exact rfl)|refine sT ?_|refine sM fun _=> ?_|(refine sC ?_ ?_<;>intro hb<;>try omega)|fail)
    (refine rT2 ?_)
    rfl
  ·
   rw [if_pos (.inl hl)] at hd
   subst hd he
   repeat' (first|(apply aG;exact rfl;exact rfl;(intro w' hm;exact hj w' _ hm);(rintro v H' ⟨A',cap',rfl,rfl⟩))|refine sT ?_|refine sN ?_|refine sO ?_|refine sM fun _=> ?_|(refine sC ?_ ?_<;>intro hb<;>try omega)|fail)
   (refine rT2 ?_)
   rfl
 ·
  rw [if_pos he] at hd
  subst hd
  repeat' (first|(apply aG;exact rfl;exact rfl;(intro w' hm;exact hj w' _ hm);(rintro v H' ⟨A',cap',rfl,rfl⟩))|refine sT ?_|refine sM fun _=> ?_|(refine sC ?_ ?_<;>intro hb<;>try omega)|fail)
  (refine rT2 ?_)
  rfl
end Go.SL
namespace Go.SL
open Go Go.Proofs
attribute [local irreducible] W WL WQ WG WA WX WLI WR WT WC VOp RW thn blk bG scp bg bi bT aQ FnIn FnP ceP
theorem zA (b:Bool) (w:World):ax Tryz.prog 250 [.bool b] w (.agg (dx (lR b)).toArray):=by
 refine aq Tryz.func250 rfl Tryz.ntmps250 rfl ?_
 repeat' (first|refine sT ?_|refine sM fun _=> ?_|(refine sC ?_ ?_<;>intro hb<;>try omega)|fail)
 all_goals ((refine eRC ?_);simp_all [lR,dx,au])
theorem o9 (c:Int) (w:World):ax Tryz.prog 252 [.int .i64 c] w (.agg (dx (fW c)).toArray):=by
 refine aq Tryz.func252 rfl Tryz.ntmps252 rfl ?_
 repeat' (first|refine sT ?_|refine sM fun _=> ?_|(refine sC ?_ ?_<;>intro hb<;>try omega)|fail)
 all_goals ((refine eRC ?_);simp only [fW];(first|rw [if_pos (by omega)]|rw [if_neg (by omega)]);rfl)
theorem CC (n:Int) (h: -9223372036854775808≤n) (w:World):ax Tryz.prog 254 [.int .i64 n] w (.agg (dx (uA n)).toArray):=by
 refine aq Tryz.func254 rfl Tryz.ntmps254 rfl ?_
 have hf: ∀ w,ax Tryz.prog 252 [.int .i64 3] w (.agg #[.int .u8 4,.int .i64 3,.string au]):=fun w=>o9 3 w
 repeat' (first|(apply aa;exact rfl;exact rfl;(intro w hm;exact hf w))|refine sT ?_|refine sM fun _=> ?_|(refine sC ?_ ?_<;>intro hb<;>try omega)|fail)
 ·
  (refine eRC ?_)
  rw [uA,if_pos (by omega)];rfl
 ·
  (refine eRC ?_)
  rw [uA,if_neg (by omega)];rfl
def KZ (c:Int):ByteArray:=if 1≤c∧c≤7 then cB.getD c.toNat au else au
theorem wD (c:Int) (w:World):ax Tryz.prog 294 [.int .i64 c] w (.string (KZ c)):=by
 refine aq Tryz.func294 rfl Tryz.ntmps294 rfl ?_
 repeat' (first|refine sT ?_|refine sS ?_|refine sM fun _=> ?_|(refine sC ?_ ?_<;>intro hb<;>try omega)|fail)
 all_goals first
  |((refine rT1 ?_);subst_vars;rfl)
  |((refine rT1 ?_);rw [KZ,if_neg (by omega)];rfl)
theorem CG (a:ByteArray) (ha:a.size≤1000000) (w:World):ax Tryz.prog 251 [.string a] w (.tuple #[.int .i64 (gZ a).1,.int .i64 (gZ a).2]):=by
  refine aq Tryz.func251 rfl Tryz.ntmps251 rfl ?_
  have hU:=fun w=>j8 a ha w
  unfold gZ
  generalize upB a=u at hU
  obtain ⟨X,hX⟩: ∃ X,i9 u (cB.drop 1) 1=X:=⟨_,rfl⟩
  rw [hX]
  repeat' (first|refine sT ?_|refine sS ?_|refine sM fun _=> ?_|(refine sC ?_ ?_<;>intro hb<;>try omega)|fail)
  refine ay [0,2,3] rfl (fun i:Nat=> [(4,.int .i64 ((i:Int)+1))]) (fun _=> []) (fun i=>i≤7∧X=i9 u (cB.drop (i+1)) ((i:Int)+1)) (fun i=>7 - i) 0 ⟨by omega,hX.symm⟩ sB (.refl _) ?_
  rintro i ⟨hi,hc⟩
  by_cases hlt:i<7
  · rw [ra (by omega),i9] at hc
    have hN: ∀ w,ax Tryz.prog 294 [.int .i64 ((i:Int)+1)] w (.string (cB.getD (i+1) au)):=fun w=>by
      have:=wD ((i:Int)+1) w
      rw [KZ,if_pos (by omega)] at this
      exact this
    generalize cB.getD (i+1) au=x at hN hc
    repeat' (first|(apply aa (f:=294);exact rfl;exact rfl;(intro w' hm;exact hN w'))|(apply aa;exact rfl;exact rfl;(intro w hm;exact hU w))|refine sT ?_|refine sS ?_|refine sJ ?_|refine sM fun _=> ?_|(refine sC ?_ ?_<;>intro hb<;>try omega)|fail)
    all_goals first
      |(refine jh eIO rfl rfl rfl (.nil _) ?_;rw [hc,if_pos (by assumption)];done)
      | (refine ⟨i + 1, ⟨by omega, ?_⟩, by omega, ?_, ?_, .nil _⟩
         · rw [hc,if_neg (by assumption)];rfl
         · exact sB
         · exact sB)
  · have e:i=7:=by omega
    subst e
    repeat' (first|refine sT ?_|refine sS ?_|refine sM fun _=> ?_|(refine sC ?_ ?_<;>intro hb<;>try omega)|fail)
    all_goals (refine jh eIO rfl rfl rfl (.nil _) ?_;rw [hc];rfl)
theorem Cz (c:Int) (h1:1≤c) (h2:c≤5) (w:World):ax Tryz.prog 339 [.agg (dx ⟨4,c,au⟩).toArray] w (.string (cB.getD c.toNat au)):=by
 refine aq Tryz.func339 rfl Tryz.ntmps339 rfl ?_
 have he:decide ((⟨4,c,au⟩:Vl)=fW 7)=false:=by rw [← EO];simp [eqV,fW];omega
 have hv:oZ ⟨4,c,au⟩=0:=by
  have h6:decide (c≤6)=true:=decide_eq_true (by omega)
  simp [oZ,tA,h1,h6]
 have hc:=fun w=>wC ⟨4,c,au⟩ (by dsimp only;omega) w
 rw [hv] at hc
 have hN:=fun w=>wD c w
 rw [show KZ c=cB.getD c.toNat au from if_pos ⟨h1,by omega⟩] at hN
 repeat' (first|(apply (bZ (id:=1) [1] []);kernel_rfl;kernel_rfl;kernel_rfl)|(apply aa;exact rfl;exact rfl;(intro w hm;exact o9 7 w))|(apply cC;(iterate 3 exact rfl);apply Fh (a:=⟨4,c,au⟩) (b:=fW 7) he;exact rfl;exact rfl)|(apply aa;exact rfl;exact rfl;(intro w hm;exact hc w))|(apply aa;exact rfl;exact rfl;(intro w hm;exact hN w))|refine sT ?_|refine sW ?_|refine sM fun _=> ?_|(refine sC ?_ ?_<;>intro hb<;>try omega)|(refine sCW ?_ ?_<;>intro hb<;>try omega)|fail)
 all_goals ((refine rT1 ?_);rfl)
end Go.SL
namespace Go.SL
open Go Go.Proofs Go.RowKit
section
variable {P:Program} {n:Fr} {w0:World} {Q:bO} {s:az} {H:List Blk} {ty:TypeId} {x y:Operand} {k:IntKind} {a b:Int} {t t' :TypeId}
theorem MN (hx:ev s x=some (.int k a)) (hy:ev s y=some (.int k b)) (h:b≠0):VOp P w0 s H (.binOp .quo t x y t') ty (.int k (k.wrap (a.tdiv b))):=fun ρ w _ _ _ _ hρ _=>by
 simp [execOp,hρ x _ hx,hρ y _ hy,eqGuard,binOp,Op.intDiv,h]
theorem mI {c:Int} (hx:ev s x=some (.int k a)) (hy:ev s y=some (.int k b)) (h:b≠0) (hc:k.wrap (a.tdiv b)=c):VOp P w0 s H (.binOp .quo t x y t') ty (.int k c):=hc ▸ MN hx hy h
theorem mH {c:Int} (hx:ev s x=some (.int k a)) (hy:ev s y=some (.int k b)) (h:b≠0) (hc:a.tmod b=c):VOp P w0 s H (.binOp .rem t x y t') ty (.int k c):=hc ▸ MM hx hy h
theorem gG {c:Int} (hx:ev s x=some (.int k a)) (hy:ev s y=some (.int k b)) (hc:k.wrap (a*b)=c):VOp P w0 s H (.binOp .mul t x y t') ty (.int k c):=hc ▸ BW hx hy
end
attribute [local irreducible] W WL WQ WG WA WX WLI WR WT WC VOp RW thn blk bG scp bg bi bT aQ FnIn FnP ceP
def fB (v:Int):List Value:= [.int .u64 (v / 18446744073709551616),.int .u64 (v % 18446744073709551616)]
theorem lf {v:Int} (h0:0≤v) (h:v<18446744073709551616):fB v= [.int .u64 0,.int .u64 v]:=by
 unfold fB
 rw [Int.ediv_eq_zero_of_lt h0 h,Int.emod_eq_of_lt h0 h]
theorem sA (x y:Int) (hx:0≤x) (hy:0≤y) (h:x+y<340282366920938463463374607431768211456) (w:World):ax Tryz.prog 296 [.agg (fB x).toArray,.agg (fB y).toArray] w (.agg (fB (x+y)).toArray):=by
 refine aq Tryz.func296 rfl Tryz.ntmps296 rfl ?_
 obtain ⟨xh,hxh⟩: ∃ z,x / 18446744073709551616=z:=⟨_,rfl⟩
 obtain ⟨xl,hxl⟩: ∃ z,x % 18446744073709551616=z:=⟨_,rfl⟩
 obtain ⟨yh,hyh⟩: ∃ z,y / 18446744073709551616=z:=⟨_,rfl⟩
 obtain ⟨yl,hyl⟩: ∃ z,y % 18446744073709551616=z:=⟨_,rfl⟩
 unfold fB
 rw [hxh,hxl,hyh,hyl]
 obtain ⟨l,hlw⟩: ∃ z,IntKind.u64.wrap (xl+yl)=z:=⟨_,rfl⟩
 obtain ⟨h1,hhw⟩: ∃ z,IntKind.u64.wrap (xh+yh)=z:=⟨_,rfl⟩
 have hl2:=hlw
 have hh2:=hhw
 rw [IntKind.wrap_u64] at hl2 hh2
 have h11:IntKind.u64.wrap (h1+1)=(h1+1) % 18446744073709551616:=IntKind.wrap_u64 _
 repeat' (first|(apply ak (d:=11);exact rfl;apply dR;exact rfl;exact rfl;exact hlw)|(apply ak (d:=16);exact rfl;apply dR;exact rfl;exact rfl;exact hhw)|(apply ak (d:=22);exact rfl;apply dR;exact rfl;exact rfl;exact h11)|refine sT ?_|refine sM fun _=> ?_|(refine sC ?_ ?_<;>intro hb<;>try omega)|fail)
 all_goals
  (refine eRC ?_)
  have e1:(x+y) % 18446744073709551616=l:=by omega
  rw [e1]
  congr 4
  omega
set_option maxHeartbeats 1000000 in
theorem Cn (u:Int) (h0:0≤u) (h1:u<18446744073709551616) (w:World):ax Tryz.prog 297 [.int .u64 u,.int .u64 10] w (.agg (fB (10*u)).toArray):=by
 refine aq Tryz.func297 rfl Tryz.ntmps297 rfl ?_
 obtain ⟨al,hal⟩: ∃ z,u % 4294967296=z:=⟨_,rfl⟩
 obtain ⟨ah,hah⟩: ∃ z,u / 4294967296=z:=⟨_,rfl⟩
 have b1:0≤al∧al<4294967296:=by omega
 have b2:0≤ah∧ah<4294967296:=by omega
 have t1:u.tmod 4294967296=al:=by rw [Qn h0];exact hal
 have t2:IntKind.u64.wrap (u.tdiv 4294967296)=ah:=by rw [Qo h0,hah,IntKind.wrap_u64];omega
 have t3:(10:Int).tmod 4294967296=10:=by decide
 have t4:IntKind.u64.wrap ((10:Int).tdiv 4294967296)=0:=by decide
 have m1:IntKind.u64.wrap (ah*0)=0:=by rw [Int.mul_zero];decide
 have m2:IntKind.u64.wrap (al*10)=al*10:=by rw [IntKind.wrap_u64];omega
 have m3:IntKind.u64.wrap (ah*10)=ah*10:=by rw [IntKind.wrap_u64];omega
 have q3:IntKind.u64.wrap ((ah*10).tdiv 4294967296)=ah*10 / 4294967296:=by rw [Qo (by omega),IntKind.wrap_u64];omega
 have r3:(ah*10).tmod 4294967296=ah*10 % 4294967296:=Qn (by omega)
 have m4:IntKind.u64.wrap (ah*10 % 4294967296*4294967296)=ah*10 % 4294967296*4294967296:=by rw [IntKind.wrap_u64];omega
 have m5:IntKind.u64.wrap (al*0)=0:=by rw [Int.mul_zero];decide
 have q5:IntKind.u64.wrap ((0:Int).tdiv 4294967296)=0:=by decide
 have r5:(0:Int).tmod 4294967296=0:=by decide
 have m6:IntKind.u64.wrap ((0:Int)*4294967296)=0:=by decide
 have e1:fB (al*10)= [.int .u64 0,.int .u64 (al*10)]:=lf (by omega) (by omega)
 have e2:fB (ah*10*4294967296)= [.int .u64 (ah*10 / 4294967296),.int .u64 (ah*10 % 4294967296*4294967296)]:=by
  have ea:ah*10*4294967296 / 18446744073709551616=ah*10 / 4294967296:=by omega
  have eb:ah*10*4294967296 % 18446744073709551616=ah*10 % 4294967296*4294967296:=by omega
  rw [fB,ea,eb]
 have e3:fB 0= [.int .u64 0,.int .u64 0]:=lf (by omega) (by omega)
 have p1:=fun w=>sA (al*10) (ah*10*4294967296) (by omega) (by omega) (by omega) w
 have p2:=fun w=>sA (al*10+ah*10*4294967296) 0 (by omega) (by omega) (by omega) w
 rw [e1,e2] at p1
 rw [e3,Int.add_zero] at p2
 have e4:al*10+ah*10*4294967296=10*u:=by omega
 rw [e4] at p1 p2
 have hb: ∀ c:Int,(4294967296:Int)≠0:=fun _=>by decide
 repeat' (first|(apply ak (d:=11);exact rfl;apply mH;exact rfl;exact rfl;exact hb 0;exact t1)|(apply ak (d:=13);exact rfl;apply mI;exact rfl;exact rfl;exact hb 0;exact t2)|(apply ak (d:=15);exact rfl;apply mH;exact rfl;exact rfl;exact hb 0;exact t3)|(apply ak (d:=17);exact rfl;apply mI;exact rfl;exact rfl;exact hb 0;exact t4)|(apply ak (d:=20);exact rfl;apply gG;exact rfl;exact rfl;exact m1)|(apply ak (d:=23);exact rfl;apply gG;exact rfl;exact rfl;exact m2)|(apply ak (d:=28);exact rfl;apply gG;exact rfl;exact rfl;exact m3)|(apply ak (d:=29);exact rfl;apply mI;exact rfl;exact rfl;exact hb 0;exact q3)|(apply ak (d:=32);exact rfl;apply gG;exact rfl;exact rfl;exact m3)|(apply ak (d:=33);exact rfl;apply mH;exact rfl;exact rfl;exact hb 0;exact r3)|(apply ak (d:=34);exact rfl;apply gG;exact rfl;exact rfl;exact m4)|(apply ak (d:=40);exact rfl;apply gG;exact rfl;exact rfl;exact m5)|(apply ak (d:=41);exact rfl;apply mI;exact rfl;exact rfl;exact hb 0;exact q5)|(apply ak (d:=44);exact rfl;apply gG;exact rfl;exact rfl;exact m5)|(apply ak (d:=45);exact rfl;apply mH;exact rfl;exact rfl;exact hb 0;exact r5)|(apply ak (d:=46);exact rfl;apply gG;exact rfl;exact rfl;exact m6)|(apply aa (d:=36);exact rfl;exact rfl;(intro w' hm;exact p1 w'))|(apply aa (d:=48);exact rfl;exact rfl;(intro w' hm;exact p2 w'))|refine sT ?_|refine sM fun _=> ?_|(refine sC ?_ ?_<;>intro hb<;>try omega)|fail)
 (refine eRC ?_)
 rfl
theorem lV (v:Int) (neg:Bool) (h0:0≤v) (h1:v<340282366920938463463374607431768211456) (w:World):ax Tryz.prog 298 [.agg (fB v).toArray,.bool neg] w (.tuple #[.int .i64 (if cF<v then 0 else if neg then -v else v),.bool (decide (v≤cF))]):=by
 refine aq Tryz.func298 rfl Tryz.ntmps298 rfl ?_
 have hm:cF=9223372036854775807:=rfl
 by_cases hv:v≤cF
 ·
  rw [if_neg (by omega),decide_eq_true hv,lf h0 (by omega)]
  have hw:IntKind.i64.wrap v=v:=pz h0 hv
  cases neg
  ·
   repeat' (first|(apply ak;exact rfl;apply bI;exact rfl;exact hw)|refine sT ?_|refine sM fun _=> ?_|(refine sC ?_ ?_<;>intro hb<;>try omega)|fail)
   all_goals first|(exfalso;omega)|((refine rT2 ?_);rfl)
  ·
   repeat' (first|(apply ak;exact rfl;apply bI;exact rfl;exact hw)|(apply ak;exact rfl;apply LA;exact rfl;exact ⟨by omega,by omega⟩)|refine sT ?_|refine sM fun _=> ?_|(refine sC ?_ ?_<;>intro hb<;>try omega)|fail)
   all_goals first|(exfalso;omega)|((refine rT2 ?_);rfl)
 ·
  rw [if_pos (by omega),decide_eq_false hv]
  unfold fB
  obtain ⟨vh,hvh⟩: ∃ z,v / 18446744073709551616=z:=⟨_,rfl⟩
  obtain ⟨vl,hvl⟩: ∃ z,v % 18446744073709551616=z:=⟨_,rfl⟩
  rw [hvh,hvl]
  repeat' (first|refine sT ?_|refine sM fun _=> ?_|(refine sC ?_ ?_<;>intro hb<;>try omega)|fail)
  all_goals first|(exfalso;omega)|((refine rT2 ?_);rfl)
theorem pW (a:ByteArray) (ha:a.size≤1000000) (i0:Nat) (w:World):ax Tryz.prog 295 [.string a,.int .i64 (i0:Int)] w (.int .i64 ((i0+aB aC ((ap a).drop i0):Nat):Int)):=by
 refine aq Tryz.func295 rfl Tryz.ntmps295 rfl ?_
 have hl:=av a
 by_cases hbig:a.size≤i0
 ·
  rw [pS (by omega),PB]
  repeat' (first|refine sT ?_|refine sS ?_|refine sT2 ?_|refine sM fun _=> ?_|(refine sC ?_ ?_<;>intro hb<;>try omega)|fail)
  refine ay [0] rfl (fun _:Unit=> [(1,.int .i64 (i0:Int))]) (fun _=> []) (fun _=>True) (fun _=>0) () trivial sB (.refl _) ?_
  rintro ⟨⟩ -
  repeat' (first|refine sT ?_|refine sS ?_|refine sT2 ?_|refine sM fun _=> ?_|(refine sC ?_ ?_<;>intro hb<;>try omega)|fail)
  all_goals first|(exfalso;omega)|((refine rT1 ?_);rfl)
 obtain ⟨X,hX⟩: ∃ X,i0+aB aC ((ap a).drop i0)=X:=⟨_,rfl⟩
 rw [hX]
 repeat' (first|refine sT ?_|refine sS ?_|refine sT2 ?_|refine sM fun _=> ?_|(refine sC ?_ ?_<;>intro hb<;>try omega)|fail)
 refine ay [0] rfl (fun i:Nat=> [(1,.int .i64 (i:Int))]) (fun _=> []) (fun i=>i≤a.size∧X=i+aB aC ((ap a).drop i)) (fun i=>a.size - i) i0 ⟨by omega,hX.symm⟩ sB (.refl _) ?_
 rintro i ⟨hi,hx⟩
 by_cases hlt:i<a.size
 ·
  rw [aZ hlt,aB] at hx
  have hd:=eD (bat a i)
  repeat' (first|(apply ak;exact rfl;apply aV (j:=i);exact rfl;exact rfl;exact hlt)|refine sT ?_|refine sS ?_|refine sT2 ?_|refine sN ?_|refine sM fun _=> ?_|(refine sC ?_ ?_<;>intro hb<;>try omega)|fail)
  all_goals first
   |(refine ⟨i+1,⟨hlt,?_⟩,by omega,sB,sB,.nil _⟩;rw [hx,if_pos (hd.2 ⟨by assumption,by assumption⟩)];omega)
   |((refine rT1 ?_);rw [hx,if_neg (fun h=>by have:=hd.1 h;omega)];rfl)
 ·
  have e:i=a.size:=by omega
  subst e
  rw [pS (by omega),PB] at hx
  repeat' (first|refine sT ?_|refine sS ?_|refine sT2 ?_|refine sM fun _=> ?_|(refine sC ?_ ?_<;>intro hb<;>try omega)|fail)
  all_goals first|(exfalso;omega)|((refine rT1 ?_);rw [hx])
end Go.SL
