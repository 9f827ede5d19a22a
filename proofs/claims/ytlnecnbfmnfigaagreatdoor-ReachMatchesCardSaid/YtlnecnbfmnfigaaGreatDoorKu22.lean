/-
  Lemmas and walks, put together: Rw Lc R1 W31 W32 Tr Tr2.
-/
import Derived.Test.YtlnecnbfmnfigaaGreatDoorKu21
set_option linter.unusedSimpArgs false
set_option linter.unusedVariables false
set_option maxRecDepth 20000
namespace Go.SL
open Go
theorem rR: ∀ (l:List Int) {v:Int},(∀ c∈l,48≤c)→0≤v→0≤bJ l v
 | [],_,_,h=>h
 |c::r,v,hl,h=>by
  rw [bJ]
  refine rR r (fun d hd=>hl d (O9 _ hd)) ?_
  have:=hl c O7
  omega
theorem lS {p:Int→Bool}: ∀ {l:List Int} {c:Int},c∈l.take (aI p l)→p c=true
 | [],_,h=>by cases h
 |d::r,c,h=>by
  rw [aI] at h
  split at h
  ·
   rename_i hd
   rw [Qp] at h
   rcases PF.1 h with rfl|h
   ·
    exact hd
   ·
    exact lS h
  ·
   cases h
theorem Ck {l:List Int} {v:Int} {n:Nat} (h:lj l=some (v,n)):0≤v:=by
 unfold lj at h
 dsimp only at h
 split at h
 ·
  cases h
 ·
  split at h
  ·
   cases h
  ·
   cases h
   refine rR _ (fun c hc=> ?_) (QZ _)
   rw [Pz,Pz] at hc
   rcases hc with (hc|hc)|hc
   ·
    have:=lS hc
    rw [eU] at this
    exact this.1
   ·
    have hp:cv (l.drop (aI aJ l))=0∨ ∃ r,l.drop (aI aJ l)=46::r∧cv (l.drop (aI aJ l))=aI aJ r:=by
     by_cases h0:cv (l.drop (aI aJ l))=0
     ·
      exact .inl h0
     ·
      exact .inr (nR h0)
    rcases hp with hp|⟨r,hr,hp⟩
    ·
     rw [hp] at hc;cases hc
    ·
     have hr' :l.drop (aI aJ l+1)=r:=by rw [← RU,hr];rfl
     rw [hr',hp] at hc
     have:=lS hc
     rw [eU] at this
     exact this.1
   ·
    rw [List.eq_of_mem_replicate hc];decide
theorem yD (l:List Int): ∀ (ns:List (List Int)) {i c:Int} {n:Nat},0≤i→kN l ns i=some (c,n)→0≤c
 | [],_,_,_,_,h=>by cases h
 |s::r,i,c,n,hi,h=>by
  rw [kN] at h
  split at h
  ·
   cases h;exact hi
  ·
   exact yD l r (by omega) h
theorem F3 (l:List Int): ∀ (ns:List (List Int × Int)) {c:Int} {n:Nat},opL l ns=some (c,n)→ ∃ s∈ns,s.2=c
 | [],_,_,h=>by cases h
 |(s,k)::r,c,n,h=>by
  rw [opL] at h
  split at h
  ·
   cases h;exact ⟨_,O7,rfl⟩
  ·
   obtain ⟨x,hx,he⟩:=F3 l r h
   exact ⟨x,O9 _ hx,he⟩
theorem He {l:List Int} {t:Tk} {n:Nat} (h:jK l=some (t,n)):0≤t.num:=by
 unfold jK at h
 split at h
 ·
  rename_i x hx
  cases h
  unfold lr at hx
  obtain ⟨⟨c,m⟩,hy,hz⟩:=P7.1 hx
  cases hz
  exact yD l _ (by decide) hy
 ·
  unfold iK at h
  split at h
  ·
   rename_i hx
   cases h
   obtain ⟨s,hs,he⟩:=F3 l _ hx
   have: ∀ s∈fk,0≤s.2:=by decide
   exact he ▸ this s hs
  ·
   split at h
   ·
    cases h;simp
   ·
    split at h
    ·
     cases h;simp
    ·
     split at h
     ·
      cases h;simp
     ·
      cases h
theorem Gx {l:List Int} {t:Tk} {n:Nat} (h:ib l=some (t,n)):0≤t.num:=by
 unfold ib at h
 split at h
 ·
  cases h
 ·
  split at h
  ·
   cases h;simp
  ·
   split at h
   ·
    cases h;simp
   ·
    split at h
    ·
     cases h;simp
    ·
     split at h
     ·
      cases h
     ·
      split at h
      ·
       cases h;simp
      ·
       cases h;simp
theorem DU {l:List Int} {t:Tk} {n:Nat} (h:bH l=some (t,n)):0≤t.num:=by
 unfold bH at h
 split at h
 ·
  obtain ⟨⟨v,m⟩,hy,hx⟩:=P7.1 h
  cases hx
  exact Ck hy
 ·
  split at h
  ·
   obtain ⟨x,_,hx⟩:=P7.1 h
   cases hx;simp
  ·
   split at h
   ·
    exact Gx h
   ·
    exact He h
theorem Bp {l:List Int}: ∀ (f i:Nat) (r:List Tk),bo bH l f i= .ok r→ ∀ t∈r,0≤t.num:=by
 intro f
 induction f with
 |zero=>intro i r h;cases h;exact fun _ h=>by cases h
 |succ f ih=>
  intro i r h
  simp only [bo] at h
  split at h
  ·
   cases h;exact fun _ h=>by cases h
  ·
   split at h
   ·
    exact ih _ _ h
   ·
    split at h
    ·
     cases h
    ·
     rename_i t n ht
     cases hr:bo bH l f (i+n) with
     |error e=>rw [hr] at h;cases h
     |ok r' =>
      rw [hr] at h
      cases h
      intro u hu
      rcases PF.1 hu with rfl|hu
      ·
       have:=DU ht
       exact this
      ·
       exact ih _ _ hr u hu
theorem sA (l:List Int): ∀ t∈(bw bH l).1,0≤t.num:=by
 unfold bw
 split
 ·
  exact fun _ h=>by cases h
 ·
  split
  ·
   exact fun _ h=>by cases h
  ·
   split
   ·
    rename_i r hr
    exact Bp _ _ _ hr
   ·
    exact fun _ h=>by cases h
def Wf (p:PS):Prop:=(∀ t∈p.l,0≤t.num)∧ ∀ n∈p.out,wfN n
theorem Wf.skip {p:PS} (h:Wf p):Wf p.skip:=⟨fun t ht=>h.1 t (List.mem_of_mem_tail ht),h.2⟩
theorem Wf.put {p:PS} (h:Wf p) {n:Nd} (hn:wfN n):Wf (p.put n):=⟨h.1,fun m hm=>by
 rcases Pz.1 hm with hm|hm
 ·
  exact h.2 m hm
 ·
  rw [Pv.1 hm];exact hn⟩
theorem LZ {fin:Int} {l:List Tk} (h: ∀ t∈l,0≤t.num):0≤(hdT fin l).num:=by
 cases l with
 |nil=>exact QZ _
 |cons t r=>exact h t O7
theorem oz (k:Int) (r:Rct) (o:Int):wfN ⟨k,bR,r,o,0,0⟩:=⟨by simp [bR],QZ 0,by simp⟩
theorem M0 {t:Tk} (h:0≤t.num):wfN (mP t):=by
 unfold mP
 refine ⟨?_,QZ 0,by simp⟩
 simp only
 split
 ·
  simp only;omega
 ·
  split
  ·
   simp
  ·
   split
   ·
    simp only;omega
   ·
    simp only;omega
theorem tP (b:ByteArray):0≤(bf b).1∧(bf b).1≤255:=by
 have hb1:=jp du b 0 (by omega)
 rw [jn] at hb1
 unfold bf
 split
 ·
  dsimp only;omega
 ·
  dsimp only;omega
theorem wH {fin:Int} {name:Tk} {fn:Int} {n m:Nat} {p p' :PS} (h:dl fin name fn n p=some (.ok (m,p'))) (hw:Wf p) (h0:0≤fn) (h1:fn≤255):Wf p' :=by
 unfold dl at h
 dsimp only at h
 split at h
 ·
  cases h
 ·
  split at h
  ·
   cases h
  ·
   split at h
   ·
    cases h
   ·
    cases h
    exact hw.skip.put ⟨by simp [bR],h0,h1⟩
theorem zx (fin:Int): ∀ (f:Nat) (j:Job) (p:PS) (n:Nat) (p' :PS),bD fin f j p=some (.ok (n,p'))→Wf p→Wf p'
 |0,_,_,_,_,h,_=>by cases h
 |f+1,j,p,n,p',h,hw=>by
  have ih:=zx fin f
  cases j with
  |level k=>
   rw [bD] at h
   split at h
   ·
    exact ih _ _ _ _ h hw
   ·
    obtain ⟨n1,p1,h1,h2⟩:=cJ h
    exact ih _ _ _ _ h2 (ih _ _ _ _ h1 hw)
  |loop k=>
   rw [bD] at h
   try dsimp only at h
   split at h
   ·
    obtain ⟨n1,p1,h1,h2⟩:=cJ h
    exact ih _ _ _ _ h2 ((ih _ _ _ _ h1 hw.skip).put (oz _ _ _))
   ·
    cases h;exact hw
  |sign=>
   rw [bD] at h
   try dsimp only at h
   split at h
   ·
    obtain ⟨n1,p1,h1,h2⟩:=cJ h
    cases h2
    exact (ih _ _ _ _ h1 hw.skip).put (oz _ _ _)
   ·
    obtain ⟨n1,p1,h1,h2⟩:=cJ h
    split at h2
    ·
     obtain ⟨n2,p2,h3,h4⟩:=cJ h2
     cases h4
     exact (ih _ _ _ _ h3 (ih _ _ _ _ h1 hw).skip).put (oz _ _ _)
    ·
     cases h2
     exact ih _ _ _ _ h1 hw
  |pct=>
   rw [bD] at h
   obtain ⟨n1,p1,h1,h2⟩:=cJ h
   exact ih _ _ _ _ h2 (ih _ _ _ _ h1 hw)
  |pctl=>
   rw [bD] at h
   try dsimp only at h
   split at h
   ·
    exact ih _ _ _ _ h (hw.skip.put (oz _ _ _))
   ·
    cases h;exact hw
  |prim=>
   rw [bD] at h
   try dsimp only at h
   split at h
   ·
    cases h
    exact hw.skip.put (M0 (LZ hw.1))
   ·
    split at h
    ·
     cases h
     exact hw.skip.put (oz _ _ _)
    ·
     split at h
     ·
      obtain ⟨n1,p1,h1,h2⟩:=cJ h
      split at h2
      ·
       cases h2
      ·
       cases h2
       exact (ih _ _ _ _ h1 hw.skip).skip
     ·
      split at h
      ·
       split at h
       ·
        cases h
       ·
        have hb:=tP (hdT fin p.l).text
        split at h
        ·
         cases h
        ·
         split at h
         ·
          exact wH h hw.skip.skip hb.1 hb.2
         ·
          obtain ⟨n1,p1,h1,h2⟩:=cJ h
          exact wH h2 (ih _ _ _ _ h1 hw.skip.skip) hb.1 hb.2
      ·
       cases h
  |args fn i=>
   rw [bD] at h
   try dsimp only at h
   have hgo: ∀ p0:PS,Wf p0→(if (hdT fin p0.l).kind=11 then bD fin f (.args fn (i+1)) p0.skip else some (.ok (i+1,p0)))=some (.ok (n,p'))→Wf p' :=by
    intro p0 hw0 h0
    split at h0
    ·
     exact ih _ _ _ _ h0 hw0.skip
    ·
     cases h0;exact hw0
   split at h
   ·
    obtain ⟨n1,p1,h1,h2⟩:=cJ h
    exact hgo p1 (ih _ _ _ _ h1 hw) h2
   ·
    split at h
    ·
     cases h
    ·
     exact hgo _ (hw.skip.put (oz _ _ _)) h
def wM (b:ByteArray):Vl:=
 if b=ay then bR
 else if (ap b).headD 0=39 then ⟨3,0,mkB (ap b).tail⟩
 else if upB b=nB∨upB b=lH then mE (decide (upB b=nB))
 else if (iN b).2=0∧(iN b).1<6 then gF (iN b).1
 else if (gR (ap b)).2=0 then vX (gR (ap b)).1
 else if (gR (ap b)).2=3 then gF 3
 else ⟨3,0,b⟩
theorem Im {b:ByteArray} (hg:jF b=0):sj b=wM b:=by
 have hT:nB≠lH:=by decide
 have h3:Jj b=if upB b=nB then (mE true,true) else if upB b=lH then (mE false,true) else (gF 2,false):=by
  have hv:pH ⟨3,0,b⟩=0:=by simp [pH,uE,hg]
  simp only [Jj,jc,hv,if_true,zM]
  split
  ·
   rfl
  ·
   split<;>rfl
 have h2:Lw b=if (ap b).headD 0=39 then (⟨3,0,mkB (ap b).tail⟩,true) else (⟨3,0,b⟩,false):=by
  have hq:ap vB= [39]:=rfl
  have hs:vB.size=1:=rfl
  simp only [Lw,kP,hq,hs]
  cases hi:ap b with
  |nil=>simp
  |cons c r=>
   simp only [Qp,Qj,List.cons.injEq,and_true,Qx,List.tail_cons]
   by_cases hc:c=39
   ·
    have hsz:b.size=(c::r).length:=by rw [← hi,au]
    have:sub b 1 b.size=mkB r:=by
     refine JY ?_
     rw [eF,hi,hsz]
     simp
    simp only [hc,if_true,this]
   ·
    simp only [hc,if_false]
 have hgen: ∀ (p:Prop) [Decidable p] (x y z:Vl),(if (if p then (x,true) else (y,false)).2=true then (if p then (x,true) else (y,false)).1 else z)=if p then x else z:=by
  intro p _ x y z
  split<;>simp
 unfold sj uS eW eW eW eW eW eW wM
 have e1:(Lz b).2=decide (b=ay):=rfl
 rw [e1,h2,h3]
 by_cases c1:b=ay
 ·
  simp [c1,Lz]
 ·
  rw [if_neg (by simpa using c1),if_neg c1]
  by_cases c2:(ap b).headD 0=39
  ·
   simp only [c2,if_true]
  ·
   simp only [c2,if_false,PH]
   by_cases c3:upB b=nB
   ·
    simp [c3]
   ·
    by_cases c4:upB b=lH
    ·
     simp [c4,hT.symm]
    ·
     simp only [c3,c4,if_false,or_self,PH]
     by_cases c5:(iN b).2=0∧(iN b).1<6
     ·
      have:(DR b).2=true:=by simp only [DR,c5.1,decide_true,PZ,decide_eq_true_eq];omega
      rw [if_pos this,if_pos c5];rfl
     ·
      have:(DR b).2=false:=by
       simp only [DR,QF,decide_eq_false_iff_not]
       by_cases h:(iN b).2=0
       ·
        right;intro h';exact c5 ⟨h,by omega⟩
       ·
        left;exact h
      rw [if_neg (by simp [this]),if_neg c5]
      by_cases c6:(gR (ap b)).2=0
      ·
       simp [GW,c6]
      ·
       by_cases c7:(gR (ap b)).2=3
       ·
        simp [GW,c7]
       ·
        simp [GW,c6,c7]
end Go.SL
namespace Go.SL
open Go Go.Proofs
attribute [local irreducible] W WL WQ WG WA WX WLI WR WT WC VOp RW thn blk bZ scp bA bV ck FnAt FnIn FnP ceP
section
variable {w0:World} {s:aB} {H:List Blk} {ty t' :TypeId} {x y:Operand}
theorem GM {a b:Vl} {c:Bool} (h:decide (a=b)=c) (hx:ev s x=some (.agg (dN a).toArray)) (hy:ev s y=some (.agg (dN b).toArray)):VOp Tryz.prog w0 s H (.binOp .eql 155 x y t') ty (.bool c):=by
 have h1:=DJ (w0:=w0) (H:=H) (ty:=ty) (t' :=t') hx hy
 rwa [Gb,h] at h1
theorem oD {a b:Rct} {c:Bool} (h:decide (a=b)=c) (hx:ev s x=some (.agg (aH a).toArray)) (hy:ev s y=some (.agg (aH b).toArray)):VOp Tryz.prog w0 s H (.binOp .eql 53 x y t') ty (.bool c):=by
 have h1:=Nj (w0:=w0) (H:=H) (ty:=ty) (t' :=t') hx hy
 rwa [z2,h] at h1
theorem xK {a b:Rct} {c:Bool} (h:decide (a=b)=c) (hx:ev s x=some (.agg (aH a).toArray)) (hy:ev s y=some (.agg (aH b).toArray)):VOp Tryz.prog w0 s H (.binOp .neq 53 x y t') ty (.bool (!c)):=by
 have h1:=I9 (w0:=w0) (H:=H) (ty:=ty) (t' :=t') hx hy
 rwa [z2,h] at h1
theorem GN {a b:Rf} {c:Bool} (h:decide (a=b)=c) (hx:ev s x=some (.agg (aw a).toArray)) (hy:ev s y=some (.agg (aw b).toArray)):VOp Tryz.prog w0 s H (.binOp .eql 24 x y t') ty (.bool c):=by
 have h1:=Jd (w0:=w0) (H:=H) (ty:=ty) (t' :=t') hx hy
 rwa [oP,h] at h1
end
theorem vk (a b:Rf) (w:World):aF Tryz.prog 116 [.agg (aw a).toArray,.agg (aw b).toArray] w (.bool (bp a b)):=by
 refine aA Tryz.func116 rfl Tryz.ntmps116 rfl ?_
 repeat' (first|refine sT ?_|refine sM fun _=> ?_|(refine sC ?_ ?_<;>intro hb<;>try omega)|fail)
 all_goals ((refine rT1 ?_);((try simp only [← Int.not_lt] at*);simp_all [bp, -Int.not_lt, -Int.not_le,← Int.not_lt]))
theorem dE (a:Rf) (w:World):aF Tryz.prog 71 [.agg (aw a).toArray] w (.agg (aH (bB a.col a.row)).toArray):=by
 refine aA Tryz.func71 rfl Tryz.ntmps71 rfl ?_
 repeat' (first|refine sT ?_|refine sM fun _=> ?_|(refine sC ?_ ?_<;>intro hb<;>try omega)|fail)
 all_goals ((refine eRC ?_);rfl)
theorem jq {a:ByteArray} {i:Nat} (h:a.size≤i):bat a i=0:=by
 rw [bat,PE,P5 (by rw [au];exact h)];rfl
theorem nM (a:ByteArray) (ha:a.size≤1000000) (i:Nat) (w:World):aF Tryz.prog 296 [.string a,.int .i64 (i:Int)] w (.bool (aJ (bat a i))):=by
 refine aA Tryz.func296 rfl Tryz.ntmps296 rfl ?_
 have h0:=fun h:a.size≤i=>jq h
 generalize hc:bat a i=c at h0
 repeat' (first|(apply aj;exact rfl;apply ba (j:=i);exact rfl;exact rfl;omega)|(rw [hc])|refine sT ?_|refine sT2 ?_|refine sM fun _=> ?_|(refine sC ?_ ?_<;>intro hb<;>try omega)|fail)
 all_goals ((refine rT1 ?_);(try rw [h0 (by omega)]);simp_all [aJ];try omega)
theorem mJ (a:ByteArray) (ha:a.size≤1000000) (i:Nat) (w:World):aF Tryz.prog 299 [.string a,.int .i64 (i:Int)] w (.bool (cf (bat a i))):=by
 refine aA Tryz.func299 rfl Tryz.ntmps299 rfl ?_
 have h0:=fun h:a.size≤i=>jq h
 generalize hc:bat a i=c at h0
 repeat' (first|(apply aj;exact rfl;apply ba (j:=i);exact rfl;exact rfl;omega)|(rw [hc])|refine sT ?_|refine sT2 ?_|refine sM fun _=> ?_|(refine sC ?_ ?_<;>intro hb<;>try omega)|fail)
 all_goals ((refine rT1 ?_);(try rw [h0 (by omega)]);simp_all [cf];try omega)
def CA (c:Int):Int:=if cf c then upC c - 64 else 0
theorem pN (c:Int) (h0:0≤c) (h1:c<256) (w:World):aF Tryz.prog 349 [.int .u8 c] w (.int .i64 (CA c)):=by
 refine aA Tryz.func349 rfl Tryz.ntmps349 rfl ?_
 repeat' (first|(apply aj (d:=10);exact rfl;apply dU (c:=c - 65);exact rfl;exact rfl;exact fa (by omega) (by omega))|(apply aj (d:=20);exact rfl;apply dU (c:=c - 97);exact rfl;exact rfl;exact fa (by omega) (by omega))|(apply aj (d:=11);exact rfl;apply cU (c:=c - 65);exact rfl;exact I64.wrap ⟨by omega,by omega⟩)|(apply aj (d:=21);exact rfl;apply cU (c:=c - 97);exact rfl;exact I64.wrap ⟨by omega,by omega⟩)|(apply aj (d:=12);exact rfl;apply kZ;exact rfl;exact rfl;exact ⟨by omega,by omega⟩)|(apply aj (d:=22);exact rfl;apply kZ;exact rfl;exact rfl;exact ⟨by omega,by omega⟩)|refine sT ?_|refine sT2 ?_|refine sM fun _=> ?_|(refine sC ?_ ?_<;>intro hb<;>try omega)|fail)
 all_goals
  (refine rT1 ?_)
  unfold CA upC
  first
   |(rw [if_pos ((iy c).2 (by omega)),if_pos (by omega)];congr 1;omega)
   |(rw [if_pos ((iy c).2 (by omega)),if_neg (by omega)];congr 1;omega)
   |(rw [if_neg (by rw [iy];omega)])
set_option maxHeartbeats 1000000 in
theorem lf (a:ByteArray) (ha:a.size≤1000000) (w:World):aF Tryz.prog 208 [.string a] w (.string (upB a)):=by
 refine aA Tryz.func208 rfl Tryz.ntmps208 rfl ?_
 repeat' (first|(apply mo;exact rfl;exact rfl;intro gb cap)|refine sT ?_|refine sM fun _=> ?_|(refine sC ?_ ?_<;>intro hb<;>try omega)|fail)
 refine ax [3] rfl (fun i:Nat=> [(4,.int .i64 (i:Int))]) (fun i=> [.byt gb 5 a.size cap ((((ap a).take i).map upC++(ap a).drop i).map (Value.int .u8))]) (fun i=>i≤a.size) (fun i=>a.size - i) 0 (by omega) sB ?_ ?_
 ·
  rw [oR];simp only [Qj,P3,O4,Qt];exact mS
 intro i hi
 have hl:=au a
 by_cases hlt:i<a.size
 ·
  have hil:i<(ap a).length:=by omega
  have hok:=mR a (ap a)[i] (PG hil)
  have hget:((((ap a).take i).map upC++(ap a).drop i).map (Value.int .u8))[0+i*1]? =some (.int .u8 (ap a)[i]):=by
   rw [Pw,show 0+i*1=i by omega,PQ (by simp;omega)]
   simp [QX (Nat.le_of_lt hil),Qi]
  have hstep:97≤(ap a)[i]∧(ap a)[i]≤122→upC (ap a)[i]=(ap a)[i] - 32:=fun h=>by rw [upC,if_pos h]
  have hsame: ¬ (97≤(ap a)[i]∧(ap a)[i]≤122)→upC (ap a)[i]=(ap a)[i]:=fun h=>by rw [upC,if_neg h]
  have hupd:=uP upC (Value.int .u8) (ap a) i hil
  have hkeep: ∀ v,(((ap a).take i).map upC++(ap a).drop i).map (Value.int .u8)=v→upC (ap a)[i]=(ap a)[i]→v=(((ap a).take (i+1)).map upC++(ap a).drop (i+1)).map (Value.int .u8):=fun v hv hs=>by
   rw [← hupd,hs,← hv]
   rw [show 0+i*1=i by omega] at hget
   obtain ⟨h1,h2⟩:=Pk.1 hget
   rw [← h2,List.set_getElem_self]
  generalize (ap a)[i]=c at hget hok hstep hsame hupd hkeep
  repeat' (first|(apply aj;exact rfl;apply ag;exact rfl;exact rfl;exact hlt)|(apply aj;exact rfl;apply ko;exact rfl;exact pK;exact hget)|(apply aj (d:=31);exact rfl;apply dU (c:=c - 32);exact rfl;exact rfl;exact fa (by omega) (by omega))|(apply mq;exact rfl;exact rfl;exact pK;exact rfl;(simp;omega))|refine sT ?_|refine sS ?_|refine sW ?_|refine sN ?_|refine sWN ?_|refine sM fun _=> ?_|(refine sC ?_ ?_<;>intro hb<;>try omega)|(refine sCW ?_ ?_<;>intro hb<;>try omega)|fail)
  ·
   rw [show 0+i*1=i by omega,← hstep ⟨by assumption,by assumption⟩,hupd]
   exact ⟨i+1,hlt,by omega,sB,sB,mS⟩
  ·
   exact ⟨i+1,hlt,by omega,sB,sB,(by rw [← hkeep _ rfl (hsame (by omega))];exact mS)⟩
  ·
   exact ⟨i+1,hlt,by omega,sB,sB,(by rw [← hkeep _ rfl (hsame (by omega))];exact mS)⟩
 ·
  have e2:i=a.size:=by omega
  subst e2
  rw [PM (by omega),PA (by omega),Pa]
  repeat' (first|(apply aj (d:=34);exact rfl;apply rz;exact rfl;exact pK;(rw [Ps];omega))|refine sT ?_|refine sS ?_|refine sM fun _=> ?_|(refine sC ?_ ?_<;>intro hb<;>try omega)|fail)
  (refine rT1 ?_)
  rfl
end Go.SL
namespace Go.SL
open Go Go.Proofs
attribute [local irreducible] W WL WQ WG WA VOp thn blk bZ bA FnAt FnIn MD
def aT:List Nd:= [k2,k3,j7,k6]
section
variable (w:World) (tv:Value) (h:Reads w tv 4 (aT.flatMap bg))
include h
end
end Go.SL
namespace Go.SL
open Go
structure STree where
 ns:List Nd
 d:Nat
def STree.kind (S:STree):Int:=((S.ns.getLast?).map Nd.kind).getD 0
def OE (n:Nd) (i:Int) (k:Int):Bool:= !(decide (k=3) && !Cq n i) && !(decide (n.kind=7) && iU n.fn && decide (k≠2) && decide (k≠3))
def qP (n:Nd):Int→List STree→Bool
 |_,[]=>true
 |i,S::r=>OE n i S.kind && qP n (i+1) r
def fp (st:List STree) (k:Nat):List STree:=st.drop (st.length - k)
def p6 (top:List STree):Nat:=top.foldl (fun d S=>max d (S.d+1)) 1
def bi (st:List STree):List Nd:=st.flatMap STree.ns
def bI (n:Nd) (top:List STree):STree:=⟨bi top++ [n],p6 top⟩
def gz (n:Nd) (st:List STree):Int ⊕ (List STree × List STree):=
 if bF n≠0 then .inl (bF n)
 else if (st.length:Int)<below n∨qP n 0 (fp st (below n).toNat)=false then .inl 4
 else if 32<p6 (fp st (below n).toNat) then .inl 9
 else .inr (st.take (st.length - (below n).toNat),fp st (below n).toNat)
abbrev iE:=List (List STree × STree)
def fg:List Nd→List STree→iE→Int × List STree × iE
 | [],st,h=>(if st.length=1 then 0 else 4,st,h)
 |n::r,st,h=>match gz n st with
  | .inl e=>(e,st,h)
  | .inr (lo,top)=>fg r (lo++ [bI n top]) (h++ [(top,bI n top)])
theorem cy (a b:List STree):bi (a++b)=bi a++bi b:=Pj
theorem ma (S:STree):bi [S]=S.ns:=by simp [bi]
theorem fH (S:STree) (r:List STree):bi (S::r)=S.ns++bi r:=Pd
theorem cV (n:Nd) (top:List STree):(bI n top).ns.length=(bi top).length+1:=by simp [bI]
theorem EN (n:Nd) (top:List STree):(bI n top).kind=n.kind:=by simp [bI,STree.kind]
inductive Good:STree→Prop
 |mk (n:Nd) (top:List STree) (hg: ∀ S∈top,Good S) (hf:bF n=0) (hb:(top.length:Int)=Go.SL.below n) (hfit:qP n 0 top=true) (hd:p6 top≤32):Good (bI n top)
theorem Good.pos {S:STree} (h:Good S):0<S.ns.length:=by
 cases h with
 |mk n top _ _ _ _ _=>rw [cV];omega
def aM:Nat→List STree→List Nat
 |_,[]=> []
 |o,S::r=>(o+S.ns.length - 1)::aM (o+S.ns.length) r
def lo (i:Nat) (x:List STree × STree):Nat:=i+1 - x.2.ns.length
def dx (i:Nat) (x:List STree × STree):List Nat:=aM (lo i x) x.1
theorem lT (o:Nat) (l:List STree):(aM o l).length=l.length:=by
 induction l generalizing o with
 |nil=>rfl
 |cons S r ih=>simp [aM,ih]
theorem dD (o:Nat) (a b:List STree):aM o (a++b)=aM o a++aM (o+(bi a).length) b:=by
 induction a generalizing o with
 |nil=>simp [aM,bi]
 |cons S r ih=>simp [aM,ih,fH,Qf]
theorem yg {o k:Nat} {l:List STree} (h:k∈aM o l): ∃ a S b,l=a++S::b∧k=o+(bi a).length+S.ns.length - 1:=by
 induction l generalizing o with
 |nil=>cases h
 |cons S r ih=>
  rcases PF.1 h with rfl|h
  ·
   exact ⟨[],S,r,rfl,by simp [bi]⟩
  ·
   obtain ⟨a,T,b,rfl,rfl⟩:=ih h
   exact ⟨S::a,T,b,rfl,by simp [fH,Qf]⟩
theorem kA {o k:Nat} {l:List STree} (hp: ∀ S∈l,0<S.ns.length) (h:k∈aM o l):o≤k∧k<o+(bi l).length:=by
 obtain ⟨a,S,b,rfl,rfl⟩:=yg h
 have:=hp S (by simp)
 simp only [cy,fH,O2]
 omega
structure Inv (dn:List Nd) (st:List STree) (h:iE):Prop where
 flat:bi st=dn
 good: ∀ S∈st,Good S
 len:h.length=dn.length
 node: ∀ i x,h[i]? =some x→ ∃ n,dn[i]? =some n∧x.2=bI n x.1∧(∀ T∈x.1,Good T)∧Good x.2∧x.2.ns.length≤i+1∧(dn.take (i+1)).drop (lo i x)=x.2.ns
 deep: ∀ x∈h,∃ S∈st,x.2.d≤S.d
 cut: ∀ a b,st=a++b→ ∀ j x,h[j]? =some x→(bi a).length≤j→(bi a).length≤lo j x
 lam: ∀ i j x y,h[i]? =some x→h[j]? =some y→j≤i→lo i x≤j→lo i x≤lo j y
 mid: ∀ i j x y,h[i]? =some x→h[j]? =some y→ ∀ k∈dx j y,k<i→i<j→k<lo i x
 up: ∀ k<h.length,k∈aM 0 st∨ ∃ j y,h[j]? =some y∧k∈dx j y
 apart: ∀ j y,h[j]? =some y→ ∀ k∈dx j y,k∉aM 0 st
 one: ∀ i j x y,h[i]? =some x→h[j]? =some y→ ∀ k,k∈dx i x→k∈dx j y→i=j
theorem Inv.nil:Inv [] [] []:={
 flat:=rfl
 good:=fun _ h=>by cases h
 len:=rfl
 node:=fun i x h=>by simp at h
 deep:=fun _ h=>by cases h
 cut:=fun a b _ j x h=>by simp at h
 lam:=fun i j x y h=>by simp at h
 mid:=fun i j x y h=>by simp at h
 up:=fun k h=>by simp at h
 apart:=fun j y h=>by simp at h
 one:=fun i j x y h=>by simp at h }
theorem Ig (top:List STree): ∀ S∈top,S.d+1≤p6 top:=by
 have: ∀ (l:List STree) (d:Nat),d≤l.foldl (fun d S=>max d (S.d+1)) d∧ ∀ S∈l,S.d+1≤l.foldl (fun d S=>max d (S.d+1)) d:=by
  intro l
  induction l with
  |nil=>intro d;exact ⟨Ph _,fun _ h=>by cases h⟩
  |cons T r ih=>
   intro d
   obtain ⟨h1,h2⟩:=ih (max d (T.d+1))
   refine ⟨?_,fun S hS=> ?_⟩
   ·
    rw [Qc];omega
   ·
    rw [Qc]
    rcases PF.1 hS with rfl|hS
    ·
     omega
    ·
     exact h2 S hS
 exact (this top 1).2
theorem dJ {α:Type} {l:List α} {a x:α} {i:Nat} (h:(l++ [a])[i]? =some x):(i<l.length∧l[i]? =some x)∨(i=l.length∧x=a):=by
 rcases Nat.lt_trichotomy i l.length with h1|h1|h1
 ·
  rw [PJ h1] at h
  exact .inl ⟨h1,h⟩
 ·
  subst h1
  simp at h
  exact .inr ⟨rfl,h.symm⟩
 ·
  rw [P5 (by simp;omega)] at h
  cases h
theorem Inv.step {dn:List Nd} {st:List STree} {h:iE} (hI:Inv dn st h) {n:Nd} {l top:List STree} (hs:gz n st= .inr (l,top)):
  Inv (dn++ [n]) (l++ [bI n top]) (h++ [(top,bI n top)])∧st=l++top:=by
 unfold gz at hs
 split at hs
 ·
  cases hs
 rename_i hf
 split at hs
 ·
  cases hs
 rename_i hb
 split at hs
 ·
  cases hs
 rename_i hd
 simp only [Sum.inr.injEq,Prod.mk.injEq] at hs
 obtain ⟨rfl,rfl⟩:=hs
 have hst:st.take (st.length - (below n).toNat)++fp st (below n).toNat=st:=PP _ _
 have hlk:(fp st (below n).toNat).length=min st.length (below n).toNat:=by simp [fp];omega
 generalize st.take (st.length - (below n).toNat)=l at hst ⊢
 generalize fp st (below n).toNat=top at hst hb hd hlk ⊢
 subst hst
 have hb1:(0:Int)≤below n∧qP n 0 top=true∧below n≤((l++top).length:Int):=by
  refine ⟨?_,?_,?_⟩
  ·
   have hk:eL n=true:=by
    cases hk:eL n
    ·
     exfalso
     apply hf
     intro h0
     simp [bF,hk] at h0
    ·
     rfl
   unfold below
   by_cases h7:n.kind=7
   ·
    simp [eL,h7] at hk
    simp [h7];exact hk
   ·
    (repeat' split)<;>omega
  ·
   cases hh:qP n 0 top
   ·
    exact absurd (Or.inr hh) hb
   ·
    rfl
  ·
   omega
 obtain ⟨hb0,hfit,hble⟩:=hb1
 have hbl:(top.length:Int)=below n:=by omega
 have hgt: ∀ S∈top,Good S:=fun S hS=>hI.good S (P9 _ hS)
 have hgl: ∀ S∈l,Good S:=fun S hS=>hI.good S (PV _ hS)
 have hG:Good (bI n top):= .mk n top hgt (by omega) hbl hfit (by omega)
 have hflat:bi l++bi top=dn:=by rw [← cy];exact hI.flat
 have hlen:h.length=(bi l).length+(bi top).length:=by rw [hI.len,← hflat,O2]
 have hlo:lo h.length (top,bI n top)=(bi l).length:=by simp only [lo,cV];omega
 have hkids:dx h.length (top,bI n top)=aM (0+(bi l).length) top:=by rw [dx,hlo,Pn]
 have hroots:aM 0 (l++top)=aM 0 l++dx h.length (top,bI n top):=by rw [dD,hkids]
 have hroots' :aM 0 (l++ [bI n top])=aM 0 l++ [h.length]:=by
  rw [dD]
  simp only [aM,cV]
  congr 2
  omega
 have hposl: ∀ S∈l,0<S.ns.length:=fun S hS=>(hgl S hS).pos
 have hpost: ∀ S∈top,0<S.ns.length:=fun S hS=>(hgt S hS).pos
 have hkb: ∀ k∈dx h.length (top,bI n top),(bi l).length≤k∧k<h.length:=fun k hk=>by
  rw [hkids] at hk
  have:=kA hpost hk
  omega
 have hkj: ∀ j y,h[j]? =some y→ ∀ k∈dx j y,k<j:=fun j y hy k hk=>by
  obtain ⟨m,_,e2,e3,_,e5,_⟩:=hI.node j y hy
  have h1:=kA (fun T hT=>(e3 T hT).pos) hk
  have h2:y.2.ns.length=(bi y.1).length+1:=by rw [e2,cV]
  simp only [lo] at h1
  omega
 refine ⟨⟨?_,?_,?_,?_,?_,?_,?_,?_,?_,?_,?_⟩,rfl⟩
 ·
  rw [cy,ma]
  show bi l++(bi top++ [n])=dn++ [n]
  rw [← Pg,hflat]
 ·
  intro S hS
  rcases Pz.1 hS with hS|hS
  ·
   exact hgl S hS
  ·
   rw [Pv.1 hS];exact hG
 ·
  simp [hI.len]
 ·
  intro i x hx
  rcases dJ hx with ⟨hi,hx⟩|⟨rfl,rfl⟩
  ·
   obtain ⟨m,e1,e2,e3,e4,e5,e6⟩:=hI.node i x hx
   refine ⟨m,?_,e2,e3,e4,e5,?_⟩
   ·
    rw [PJ (by rw [← hI.len];exact hi)];exact e1
   ·
    rw [QK (by rw [← hI.len];exact hi)];exact e6
  ·
   refine ⟨n,by rw [hI.len];simp,rfl,hgt,hG,by simp only [cV];omega,?_⟩
   rw [hlo,hI.len,PM (by simp),← hflat,Pg,List.drop_left]
   rfl
 ·
  intro x hx
  rcases Pz.1 hx with hx|hx
  ·
   obtain ⟨S,hS,hd1⟩:=hI.deep x hx
   rcases Pz.1 hS with hS|hS
   ·
    exact ⟨S,PV _ hS,hd1⟩
   ·
    refine ⟨bI n top,P9 _ (Pv.2 rfl),?_⟩
    have:=Ig top S hS
    simp only [bI];omega
  ·
   rw [Pv.1 hx]
   exact ⟨bI n top,P9 _ (Pv.2 rfl),Ph _⟩
 ·
  intro a b hab j x hx hj
  -- the cut lies in l,or behind all
  rcases List.append_eq_append_iff.1 hab with ⟨c,hc1,hc2⟩|⟨c,hc1,hc2⟩
  ·
   -- a=l++c,[node]=c++b
   cases c with
   |nil=>
    rw [Pa] at hc1
    subst hc1
    rcases dJ hx with ⟨hi,hx⟩|⟨rfl,rfl⟩
    ·
     exact hI.cut a top rfl j x hx hj
    ·
     rw [hlo];exact Ph _
   |cons T c' =>
    have hT:T=bI n top∧c' ++b= []:=by
     simp only [O3,List.cons.injEq] at hc2
     exact ⟨hc2.1.symm,hc2.2.symm⟩
    obtain ⟨rfl,hcb⟩:=hT
    have hc' :c' = []:=(List.append_eq_nil_iff.1 hcb).1
    subst hc'
    exfalso
    have hj' :j<h.length+1:=by
     have:=(Pk.1 hx).1
     simpa using this
    rw [hc1,cy,ma,O2,cV] at hj
    omega
  ·
   -- l=a++c
   subst hc1
   rcases dJ hx with ⟨hi,hx⟩|⟨rfl,rfl⟩
   ·
    exact hI.cut a (c++top) (by simp) j x hx hj
   ·
    rw [hlo,cy,O2];omega
 ·
  intro i j x y hx hy hji hle
  rcases dJ hx with ⟨hi,hx⟩|⟨rfl,rfl⟩
  ·
   rcases dJ hy with ⟨hj,hy⟩|⟨rfl,rfl⟩
   ·
    exact hI.lam i j x y hx hy hji hle
   ·
    omega
  ·
   rcases dJ hy with ⟨hj,hy⟩|⟨rfl,rfl⟩
   ·
    rw [hlo] at hle ⊢
    exact hI.cut l top rfl j y hy hle
   ·
    exact Ph _
 ·
  intro i j x y hx hy k hk hki hij
  rcases dJ hy with ⟨hj,hy⟩|⟨rfl,rfl⟩
  ·
   rcases dJ hx with ⟨hi,hx⟩|⟨rfl,rfl⟩
   ·
    exact hI.mid i j x y hx hy k hk hki hij
   ·
    omega
  ·
   rcases dJ hx with ⟨hi,hx'⟩|⟨rfl,rfl⟩
   ·
    rw [hkids] at hk
    obtain ⟨a,S,b,hab,rfl⟩:=yg hk
    have hS:=hpost S (by simp [hab])
    have:=hI.cut (l++a++ [S]) b (by simp [hab]) i x hx'
    simp only [cy,ma,O2] at this
    omega
   ·
    omega
 ·
  intro k hk
  rw [O2,O6] at hk
  by_cases hkh:k=h.length
  ·
   left;rw [hroots',hkh];simp
  ·
   rcases hI.up k (by omega) with h1|⟨j,y,h1,h2⟩
   ·
    rw [hroots] at h1
    rcases Pz.1 h1 with h1|h1
    ·
     left;rw [hroots'];exact PV _ h1
    ·
     right
     exact ⟨h.length,(top,bI n top),by simp,h1⟩
   ·
    right
    refine ⟨j,y,?_,h2⟩
    rw [PJ (Pk.1 h1).1];exact h1
 ·
  intro j y hy k hk
  rw [hroots']
  intro hm
  rcases dJ hy with ⟨hj,hy⟩|⟨rfl,rfl⟩
  ·
   rcases Pz.1 hm with hm|hm
   ·
    exact hI.apart j y hy k hk (by rw [hroots];exact PV _ hm)
   ·
    have h1:=Pv.1 hm
    have h2:=hkj j y hy k hk
    omega
  ·
   have h1:=hkb k hk
   rcases Pz.1 hm with hm|hm
   ·
    have:=kA hposl hm
    omega
   ·
    have:=Pv.1 hm
    omega
 ·
  intro i j x y hx hy k hkx hky
  rcases dJ hx with ⟨hi,hx⟩|⟨rfl,rfl⟩
  ·
   rcases dJ hy with ⟨hj,hy⟩|⟨rfl,rfl⟩
   ·
    exact hI.one i j x y hx hy k hkx hky
   ·
    exfalso
    exact hI.apart i x hx k hkx (by rw [hroots];exact P9 _ hky)
  ·
   rcases dJ hy with ⟨hj,hy⟩|⟨rfl,rfl⟩
   ·
    exfalso
    exact hI.apart j y hy k hky (by rw [hroots];exact P9 _ hkx)
   ·
    rfl
theorem xH: ∀ (r dn:List Nd) (st:List STree) (h:iE) (st' :List STree) (h' :iE),Inv dn st h→fg r st h=(0,st',h')→Inv (dn++r) st' h' ∧st'.length=1
 | [],dn,st,h,st',h',hI,hw=>by
  simp only [fg,Prod.mk.injEq] at hw
  obtain ⟨h1,rfl,rfl⟩:=hw
  refine ⟨by simpa using hI,?_⟩
  split at h1
  ·
   assumption
  ·
   cases h1
 |n::r,dn,st,h,st',h',hI,hw=>by
  rw [fg] at hw
  cases hs:gz n st with
  |inl e=>
   rw [hs] at hw
   simp only [Prod.mk.injEq] at hw
   obtain ⟨rfl,_⟩:=hw
   exfalso
   unfold gz at hs
   split at hs
   ·
    injection hs with hs
    exact absurd hs (by assumption)
   ·
    split at hs
    ·
     cases hs
    ·
     split at hs<;>cases hs
  |inr x=>
   obtain ⟨l,top⟩:=x
   rw [hs] at hw
   have:=xH r _ _ _ _ _ (hI.step hs).1 hw
   simpa using this
theorem GH {L:List Nd} {st:List STree} {h:iE} (hw:fg L [] []=(0,st,h)): ∃ S,st= [S]∧S.ns=L∧Good S∧Inv L [S] h:=by
 obtain ⟨hI,h1⟩:=xH L [] [] [] st h Inv.nil hw
 match st,h1 with
 | [S],_=>
  rw [O4] at hI
  exact ⟨S,rfl,by rw [← hI.flat,ma],hI.good S (by simp),hI⟩
def bE:Nat→List STree→List Pt
 |_,[]=> []
 |o,S::r=>⟨o+S.ns.length - 1,S.d,decide (S.kind=3)⟩::bE (o+S.ns.length) r
theorem kC (o:Nat) (l:List STree):(bE o l).length=l.length:=by
 induction l generalizing o with
 |nil=>rfl
 |cons S r ih=>simp [bE,ih]
theorem vE (o:Nat) (a b:List STree):bE o (a++b)=bE o a++bE (o+(bi a).length) b:=by
 induction a generalizing o with
 |nil=>simp [bE,bi]
 |cons S r ih=>simp [bE,ih,fH,Qf]
theorem zG (o:Nat) (l:List STree) (m:Nat):(bE o l).drop m=bE (o+(bi (l.take m)).length) (l.drop m):=by
 induction l generalizing o m with
 |nil=>simp [bE]
 |cons S r ih=>cases m with
  |zero=>simp [bi]
  |succ m=>simp [bE,ih,fH,Qf]
theorem zF (o:Nat) (l:List STree) (m:Nat):(bE o l).take m=bE o (l.take m):=by
 induction l generalizing o m with
 |nil=>simp [bE]
 |cons S r ih=>cases m with
  |zero=>simp [bE]
  |succ m=>simp [bE,ih]
theorem xo (o:Nat) (l:List STree):(bE o l).map Pt.root=aM o l:=by
 induction l generalizing o with
 |nil=>rfl
 |cons S r ih=>simp [bE,aM,ih]
theorem xp (o:Nat) (l:List STree):cz (bE o l)=p6 l:=by
 have: ∀ (l:List STree) (o d:Nat),(bE o l).foldl (fun d p=>max d (p.depth+1)) d=l.foldl (fun d S=>max d (S.d+1)) d:=by
  intro l
  induction l with
  |nil=>intro o d;rfl
  |cons S r ih=>intro o d;rw [bE,Qc,Qc,ih]
 exact this l o 1
theorem CG {L:List Nd} {o:Nat} {a b:List STree} {S:STree} (hS:0<S.ns.length) (hL:(L.drop o).take (bi (a++S::b)).length=bi (a++S::b)):ja L (o+(bi a).length+S.ns.length - 1)=S.kind:=by
 have h1:(bi (a++S::b))[(bi a).length+(S.ns.length - 1)]? =S.ns[S.ns.length - 1]? :=by
  rw [cy,PQ (by omega),Nat.add_sub_cancel_left,fH,PJ (by omega)]
 rw [← hL,List.getElem?_take] at h1
 rw [if_pos (by rw [cy,fH];simp;omega),Qi] at h1
 rw [ja,STree.kind,QT,← h1]
 congr 3
 omega
theorem CQ {L:List Nd} (n:Nd) {o:Nat}: ∀ (b a:List STree) (i:Int),(∀ S∈b,0<S.ns.length)→(L.drop o).take (bi (a++b)).length=bi (a++b)→d9 L n i (bE (o+(bi a).length) b)=qP n i b
 | [],a,i,_,_=>rfl
 |S::r,a,i,hp,hL=>by
  have h1:=CG (hp S O7) hL
  have h2:=CQ n r (a++ [S]) (i+1) (fun T hT=>hp T (O9 _ hT)) (by simpa using hL)
  rw [cy,ma,O2,← Qf] at h2
  rw [bE,d9,qP,h2]
  congr 1
  simp only [rW,OE,h1]
def kn (h:iE):List mh:=h.zipIdx.map fun x=>(dx x.2 x.1,x.1.2.d)
theorem xa (h:iE) (x:List STree × STree):kn (h++ [x])=kn h++ [(dx h.length x,x.2.d)]:=by
 simp [kn,List.zipIdx_append]
theorem AZ {L:List Nd}: ∀ (r dn:List Nd) (st:List STree) (h:iE),dn++r=L→Inv dn st h→eQ L r dn.length (bE 0 st) (kn h)=((fg r st h).1,kn (fg r st h).2.2)
 | [],dn,st,h,hL,hI=>by simp [eQ,fg,kC]
 |n::r,dn,st,h,hL,hI=>by
  have hlast: ∀ k,bq (bE 0 st) k=bE (bi (st.take (st.length - k))).length (fp st k):=fun k=>by
   unfold bq fp
   rw [kC,zG,Pn]
  have hfits: ∀ k,d9 L n 0 (bq (bE 0 st) k)=qP n 0 (fp st k):=fun k=>by
   rw [hlast]
   have:=CQ (L:=L) n (o:=0) (fp st k) (st.take (st.length - k)) 0 (fun S hS=>(hI.good S (QA hS)).pos) (by
    rw [show st.take (st.length - k)++fp st k=st from PP _ _,hI.flat,Qt,← hL,RT])
   rwa [Pn] at this
  have hdep: ∀ k,cz (bq (bE 0 st) k)=p6 (fp st k):=fun k=>by rw [hlast,xp]
  rw [eQ,fg]
  have hs:js L n dn.length (bE 0 st)=match gz n st with
   | .inl e=> .inl e
   | .inr (l,top)=> .inr (bE 0 (l++ [bI n top]),dx h.length (top,bI n top),(bI n top).d):=by
   unfold js gz
   rw [kC,hfits,hdep]
   by_cases c1:bF n≠0
   ·
    rw [if_pos c1,if_pos c1]
   rw [if_neg c1,if_neg c1]
   by_cases c2:(st.length:Int)<below n∨qP n 0 (fp st (below n).toNat)=false
   ·
    rw [if_pos c2,if_pos c2]
   rw [if_neg c2,if_neg c2]
   by_cases c3:32<p6 (fp st (below n).toNat)
   ·
    rw [if_pos c3,if_pos c3]
   rw [if_neg c3,if_neg c3]
   have hfl:bi (st.take (st.length - (below n).toNat))++bi (fp st (below n).toNat)=dn:=by
    rw [← cy,show st.take (st.length - (below n).toNat)++fp st (below n).toNat=st from PP _ _]
    exact hI.flat
   have hlen:dn.length=(bi (st.take (st.length - (below n).toNat))).length+(bi (fp st (below n).toNat)).length:=by rw [← hfl,O2]
   have e1:=zF 0 st (st.length - (below n).toNat)
   have e2:(bq (bE 0 st) (below n).toNat).map Pt.root=dx h.length (fp st (below n).toNat,bI n (fp st (below n).toNat)):=by
    rw [hlast,xo,dx]
    congr 1
    simp only [lo,cV,hI.len]
    omega
   dsimp only
   rw [e1,e2,vE]
   simp only [bE,cV,EN]
   congr 4
   have e3:0+(bi (st.take (st.length - (below n).toNat))).length+((bi (fp st (below n).toNat)).length+1) - 1=dn.length:=by omega
   rw [e3]
   rfl
  rw [hs]
  cases hsf:gz n st with
  |inl e=>rfl
  |inr x=>
   obtain ⟨l,top⟩:=x
   dsimp only
   have h1:=AZ r (dn++ [n]) (l++ [bI n top]) (h++ [(top,bI n top)]) (by simpa using hL) (hI.step hsf).1
   rw [xa,O2,O6] at h1
   exact h1
theorem AY (L:List Nd):eQ L L 0 [] []=((fg L [] []).1,kn (fg L [] []).2.2):=by
 have:=AZ (L:=L) L [] [] [] rfl Inv.nil
 exact this
theorem oC (P:List STree→iE→Prop) (hs: ∀ dn n st h l top,Inv dn st h→P st h→gz n st= .inr (l,top)→P (l++ [bI n top]) (h++ [(top,bI n top)])):
  ∀ (r dn:List Nd) (st:List STree) (h:iE) (st' :List STree) (h' :iE),Inv dn st h→P st h→fg r st h=(0,st',h')→P st' h'
 | [],dn,st,h,st',h',hI,hP,hw=>by
  simp only [fg,Prod.mk.injEq] at hw
  obtain ⟨_,rfl,rfl⟩:=hw
  exact hP
 |n::r,dn,st,h,st',h',hI,hP,hw=>by
  rw [fg] at hw
  cases hsf:gz n st with
  |inl e=>
   rw [hsf] at hw
   simp only [Prod.mk.injEq] at hw
   obtain ⟨rfl,_⟩:=hw
   exfalso
   unfold gz at hsf
   split at hsf
   ·
    injection hsf with hs
    exact absurd hs (by assumption)
   ·
    split at hsf
    ·
     cases hsf
    ·
     split at hsf<;>cases hsf
  |inr x=>
   obtain ⟨l,top⟩:=x
   rw [hsf] at hw
   exact oC P hs r _ _ _ _ _ (hI.step hsf).1 (hs _ _ _ _ _ _ hI hP hsf) hw
structure RootOk (st:List STree) (h:iE):Prop where
 root: ∀ a S b,st=a++S::b→ ∃ top,h[(bi a).length+S.ns.length - 1]? =some (top,S)
 kid: ∀ j y,h[j]? =some y→ ∀ a S b,y.1=a++S::b→ ∃ top,h[lo j y+(bi a).length+S.ns.length - 1]? =some (top,S)
theorem wn {α:Type} {l:List α} {a x:α} {i:Nat} (h:l[i]? =some x):(l++ [a])[i]? =some x:=by
 rw [PJ (Pk.1 h).1];exact h
theorem Inv.facts {dn:List Nd} {st:List STree} {h:iE} (hI:Inv dn st h) {n:Nd} {l top:List STree} (hs:gz n st= .inr (l,top)):
  st=l++top∧(bi l).length+(bi top).length=h.length∧lo h.length (top,bI n top)=(bi l).length∧(∀ S∈l,0<S.ns.length)∧(∀ S∈top,0<S.ns.length):=by
 obtain ⟨hI',rfl⟩:=hI.step hs
 have h1:(bi l).length+(bi top).length=h.length:=by rw [hI.len,← hI.flat,cy,O2]
 refine ⟨rfl,h1,by simp only [lo,cV];omega,fun S hS=>(hI.good S (PV _ hS)).pos,fun S hS=>(hI.good S (P9 _ hS)).pos⟩
theorem BJ {dn:List Nd} {n:Nd} {st:List STree} {h:iE} {l top:List STree} (hI:Inv dn st h) (hP:RootOk st h) (hs:gz n st= .inr (l,top)):RootOk (l++ [bI n top]) (h++ [(top,bI n top)]):=by
 obtain ⟨rfl,hlen,hlo,hl,ht⟩:=hI.facts hs
 refine ⟨fun a S b hab=> ?_,fun j y hy a S b hab=> ?_⟩
 ·
  rcases List.append_eq_append_iff.1 hab with ⟨c,hc1,hc2⟩|⟨c,hc1,hc2⟩
  ·
   cases c with
   |nil=>
    simp only [O4,List.cons.injEq] at hc2
    obtain ⟨rfl,_⟩:=hc2
    rw [Pa] at hc1
    subst hc1
    refine ⟨top,?_⟩
    rw [cV,show (bi a).length+((bi top).length+1) - 1=h.length by omega]
    simp
   |cons T c' =>
    exfalso
    have:=congrArg List.length hc2
    simp at this
  ·
   subst hc1
   cases c with
   |nil=>
    simp only [O4,List.cons.injEq] at hc2
    obtain ⟨rfl,_⟩:=hc2
    refine ⟨top,?_⟩
    rw [Pa] at hlen
    rw [cV,show (bi a).length+((bi top).length+1) - 1=h.length by omega]
    simp
   |cons T c' =>
    simp only [O3,List.cons.injEq] at hc2
    obtain ⟨rfl,_⟩:=hc2
    obtain ⟨t,h1⟩:=hP.root a S (c' ++top) (by simp)
    exact ⟨t,wn h1⟩
 ·
  rcases dJ hy with ⟨hj,hy⟩|⟨rfl,rfl⟩
  ·
   obtain ⟨t,h1⟩:=hP.kid j y hy a S b hab
   exact ⟨t,wn h1⟩
  ·
   dsimp only at hab
   subst hab
   obtain ⟨t,h1⟩:=hP.root (l++a) S b (by simp)
   refine ⟨t,wn ?_⟩
   rw [hlo]
   rw [cy,O2] at h1
   exact h1
def fY (o:List Int) (ks:List Nat) (v:Int):List Int:=ks.foldl (fun o k=>o.set k v) o
theorem oZ (o:List Int) (ks:List Nat) (v:Int):(fY o ks v).length=o.length:=by
 unfold fY
 induction ks generalizing o with
 |nil=>rfl
 |cons k r ih=>rw [Qc,ih,SQ]
theorem pM (o:List Int) (ks:List Nat) (v:Int) (k:Nat) (hk:k<o.length):(fY o ks v)[k]? =if k∈ks then some v else o[k]? :=by
 unfold fY
 induction ks generalizing o with
 |nil=>simp
 |cons j r ih=>
  rw [Qc,ih (o.set j v) (by simpa using hk),List.getElem?_set]
  by_cases h1:k∈r
  ·
   simp [h1]
  ·
   by_cases h2:j=k
   ·
    subst h2;simp [hk]
   ·
    simp [h1,h2]
    exact fun e=>absurd e.symm h2
def FY (o:List Int) (x:(List STree × STree) × Nat):List Int:=fY (o++ [-1]) (dx x.2 x.1) (x.2:Int)
def kD (h:iE):List Int:=h.zipIdx.foldl FY []
theorem lV (h:iE) (x:List STree × STree):kD (h++ [x])=fY (kD h++ [-1]) (dx h.length x) (h.length:Int):=by
 simp [kD,List.zipIdx_append,FY]
structure ParOk (st:List STree) (h:iE):Prop where
 len:(kD h).length=h.length
 kid: ∀ j y,h[j]? =some y→ ∀ k∈dx j y,(kD h)[k]? =some (j:Int)
 root: ∀ k∈aM 0 st,(kD h)[k]? =some (-1)
theorem vK {dn:List Nd} {n:Nd} {st:List STree} {h:iE} {l top:List STree} (hI:Inv dn st h) (hP:ParOk st h) (hs:gz n st= .inr (l,top)):ParOk (l++ [bI n top]) (h++ [(top,bI n top)]):=by
 have hI' :=(hI.step hs).1
 obtain ⟨rfl,hlen,hlo,hl,ht⟩:=hI.facts hs
 have hL:(kD h++ [-1]).length=h.length+1:=by simp [hP.len]
 have hkn: ∀ k∈dx h.length (top,bI n top),(bi l).length≤k∧k<h.length:=fun k hk=>by
  rw [dx,hlo] at hk
  have:=kA ht hk
  omega
 have hkr: ∀ k,k∈dx h.length (top,bI n top)↔k∈aM (0+(bi l).length) top:=fun k=>by rw [dx,hlo,Pn]
 refine ⟨by rw [lV,oZ,hL];simp,fun j y hy k hk=> ?_,fun k hk=> ?_⟩
 ·
  have hkj:k<(h++ [(top,bI n top)]).length:=by
   obtain ⟨m,_,e2,e3,_,e5,_⟩:=hI'.node j y hy
   have h1:=kA (fun T hT=>(e3 T hT).pos) hk
   have h2:y.2.ns.length=(bi y.1).length+1:=by rw [e2,cV]
   have h3:=(Pk.1 hy).1
   simp only [lo] at h1
   omega
  rw [lV,pM _ _ _ _ (by rw [hL];simpa using hkj)]
  rcases dJ hy with ⟨hj,hy'⟩|⟨rfl,rfl⟩
  ·
   rw [if_neg]
   ·
    have h1:=hP.kid j y hy' k hk
    rw [PJ (Pk.1 h1).1]
    exact h1
   ·
    intro hm
    have:=hI'.one j h.length y (top,bI n top) hy (by simp) k hk hm
    omega
  ·
   rw [if_pos hk]
 ·
  rw [dD] at hk
  rcases Pz.1 hk with hk|hk
  ·
   have h1:=kA hl hk
   rw [lV,pM _ _ _ _ (by rw [hL];omega),if_neg]
   ·
    have h2:=hP.root k (by rw [dD];exact PV _ hk)
    rw [PJ (Pk.1 h2).1]
    exact h2
   ·
    intro hm
    have:=hkn k hm
    omega
  ·
   simp only [aM,cV,Pv] at hk
   have hkh:k=h.length:=by omega
   subst hkh
   rw [lV,pM _ _ _ _ (by rw [hL];omega),if_neg]
   ·
    rw [PQ (by rw [hP.len];exact Ph _),hP.len]
    simp
   ·
    intro hm
    have:=hkn _ hm
    omega
structure Whole (L:List Nd) (S:STree) (h:iE):Prop where
 walk:fg L [] []=(0,[S],h)
 ns:S.ns=L
 good:Good S
 inv:Inv L [S] h
 rootOk:RootOk [S] h
 parOk:ParOk [S] h
 pos:0<L.length
 last: ∃ top,h[L.length - 1]? =some (top,S)
theorem IZ {L:List Nd} {st:List STree} {h:iE} (hw:fg L [] []=(0,st,h)): ∃ S,st= [S]∧Whole L S h:=by
 obtain ⟨S,rfl,h1,h2,h3⟩:=GH hw
 have h4:=oC RootOk (fun dn n st h l top=>BJ) L [] [] [] _ _ Inv.nil ⟨fun a S b hab=>(by simp at hab),fun j y hy=>(by simp at hy)⟩ hw
 have h5:=oC ParOk (fun dn n st h l top=>vK) L [] [] [] _ _ Inv.nil ⟨rfl,fun j y hy=>(by simp at hy),fun k hk=>(by simp [aM] at hk)⟩ hw
 refine ⟨S,rfl,hw,h1,h2,h3,h4,h5,by rw [← h1];exact h2.pos,?_⟩
 obtain ⟨top,h6⟩:=h4.root [] S [] rfl
 rw [h1] at h6
 simp only [bi,Pq,Qh,Pn] at h6
 exact ⟨top,h6⟩
theorem Di {L:List Nd} (h:dB L=0):L.length≤256∧ ∃ S H,Whole L S H∧S.kind≠3∧jH L false=(0,kn H):=by
 have hsm:L.length≤256∧0<L.length∧(eQ L L 0 [] []).1=0∧ja L (L.length - 1)≠3∧jH L false=(0,(eQ L L 0 [] []).2):=by
  unfold dB at h
  unfold jH at h ⊢
  split at h
  ·
   cases h
  rename_i h1
  split at h
  ·
   cases h
  rename_i h2
  split at h
  ·
   rename_i h3
   exact absurd h h3
  rename_i h3
  split at h
  ·
   cases h
  rename_i h4
  rw [if_neg h1,if_neg h2,if_neg h3,if_neg h4]
  exact ⟨by omega,by omega,by omega,fun e=>h4 ⟨rfl,e⟩,rfl⟩
 obtain ⟨h1,h2,h3,h4,h5⟩:=hsm
 rw [AY] at h3 h5
 dsimp only at h3 h5
 have hw:fg L [] []=(0,(fg L [] []).2.1,(fg L [] []).2.2):=by rw [← h3]
 obtain ⟨S,e,hW⟩:=IZ hw
 refine ⟨h1,S,_,hW,?_,h5⟩
 rw [STree.kind,hW.ns,QT]
 exact h4
end Go.SL
