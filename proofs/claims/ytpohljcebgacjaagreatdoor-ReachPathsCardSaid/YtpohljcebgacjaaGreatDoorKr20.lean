/-
  Lemmas and walks, put together: Rw Lc R1 W31 W32 Tr Tr2.
-/
import Derived.Test.YtpohljcebgacjaaGreatDoorKr19
set_option linter.unusedSimpArgs false
set_option linter.unusedVariables false
set_option maxRecDepth 20000
namespace Go.SL
open Go
theorem natOf_pos: ∀ (l:List Int) {v:Int},(∀ c∈l,48≤c)→0≤v→0≤natOf l v
 | [],_,_,h=>h
 |c::r,v,hl,h=>by
  rw [natOf]
  refine natOf_pos r (fun d hd=>hl d (List.mem_cons_of_mem _ hd)) ?_
  have:=hl c List.mem_cons_self
  omega
theorem runL_mem' {p:Int→Bool}: ∀ {l:List Int} {c:Int},c∈l.take (runL p l)→p c=true
 | [],_,h=>by cases h
 |d::r,c,h=>by
  rw [runL] at h
  split at h
  ·
   rename_i hd
   rw [List.take_succ_cons] at h
   rcases List.mem_cons.1 h with rfl|h
   ·
    exact hd
   ·
    exact runL_mem' h
  ·
   cases h
theorem numberL_pos {l:List Int} {v:Int} {n:Nat} (h:numberL l=some (v,n)):0≤v:=by
 unfold numberL at h
 dsimp only at h
 split at h
 ·
  cases h
 ·
  split at h
  ·
   cases h
  ·
   cases h
   refine natOf_pos _ (fun c hc=> ?_) (Int.le_refl _)
   rw [List.mem_append,List.mem_append] at hc
   rcases hc with (hc|hc)|hc
   ·
    have:=runL_mem' hc
    rw [digC_iff] at this
    exact this.1
   ·
    have hp:placesL (l.drop (runL digC l))=0∨ ∃ r,l.drop (runL digC l)=46::r∧placesL (l.drop (runL digC l))=runL digC r:=by
     by_cases h0:placesL (l.drop (runL digC l))=0
     ·
      exact .inl h0
     ·
      exact .inr (placesL_pos h0)
    rcases hp with hp|⟨r,hr,hp⟩
    ·
     rw [hp] at hc;cases hc
    ·
     have hr' :l.drop (runL digC l+1)=r:=by rw [← List.tail_drop,hr];rfl
     rw [hr',hp] at hc
     have:=runL_mem' hc
     rw [digC_iff] at this
     exact this.1
   ·
    rw [List.eq_of_mem_replicate hc];decide
theorem failL_pos (l:List Int): ∀ (ns:List (List Int)) {i c:Int} {n:Nat},0≤i→failL l ns i=some (c,n)→0≤c
 | [],_,_,_,_,h=>by cases h
 |s::r,i,c,n,hi,h=>by
  rw [failL] at h
  split at h
  ·
   cases h;exact hi
  ·
   exact failL_pos l r (by omega) h
theorem opL_mem (l:List Int): ∀ (ns:List (List Int × Int)) {c:Int} {n:Nat},opL l ns=some (c,n)→ ∃ s∈ns,s.2=c
 | [],_,_,h=>by cases h
 |(s,k)::r,c,n,h=>by
  rw [opL] at h
  split at h
  ·
   cases h;exact ⟨_,List.mem_cons_self,rfl⟩
  ·
   obtain ⟨x,hx,he⟩:=opL_mem l r h
   exact ⟨x,List.mem_cons_of_mem _ hx,he⟩
theorem signR_num {l:List Int} {t:Tk} {n:Nat} (h:signR l=some (t,n)):0≤t.num:=by
 unfold signR at h
 split at h
 ·
  rename_i x hx
  cases h
  unfold failP at hx
  obtain ⟨⟨c,m⟩,hy,hz⟩:=Option.map_eq_some_iff.1 hx
  cases hz
  exact failL_pos l _ (by decide) hy
 ·
  unfold signP at h
  split at h
  ·
   rename_i hx
   cases h
   obtain ⟨s,hs,he⟩:=opL_mem l _ hx
   have: ∀ s∈opNames,0≤s.2:=by decide
   exact he ▸ this s hs
  ·
   split at h
   ·
    cases h;simp
   ·
    split at h
    ·
     cases h;simp
    ·
     split at h
     ·
      cases h;simp
     ·
      cases h
theorem wordI_num {l:List Int} {t:Tk} {n:Nat} (h:wordI l=some (t,n)):0≤t.num:=by
 unfold wordI at h
 split at h
 ·
  cases h
 ·
  split at h
  ·
   cases h;simp
  ·
   split at h
   ·
    cases h;simp
   ·
    split at h
    ·
     cases h;simp
    ·
     split at h
     ·
      cases h
     ·
      split at h
      ·
       cases h;simp
      ·
       cases h;simp
theorem tokenR_num {l:List Int} {t:Tk} {n:Nat} (h:tokenR l=some (t,n)):0≤t.num:=by
 unfold tokenR at h
 split at h
 ·
  obtain ⟨⟨v,m⟩,hy,hx⟩:=Option.map_eq_some_iff.1 h
  cases hx
  exact numberL_pos hy
 ·
  split at h
  ·
   obtain ⟨x,_,hx⟩:=Option.map_eq_some_iff.1 h
   cases hx;simp
  ·
   split at h
   ·
    exact wordI_num h
   ·
    exact signR_num h
theorem tokensG_num {l:List Int}: ∀ (f i:Nat) (r:List Tk),tokensG tokenR l f i= .ok r→ ∀ t∈r,0≤t.num:=by
 intro f
 induction f with
 |zero=>intro i r h;cases h;exact fun _ h=>by cases h
 |succ f ih=>
  intro i r h
  simp only [tokensG] at h
  split at h
  ·
   cases h;exact fun _ h=>by cases h
  ·
   split at h
   ·
    exact ih _ _ h
   ·
    split at h
    ·
     cases h
    ·
     rename_i t n ht
     cases hr:tokensG tokenR l f (i+n) with
     |error e=>rw [hr] at h;cases h
     |ok r' =>
      rw [hr] at h
      cases h
      intro u hu
      rcases List.mem_cons.1 hu with rfl|hu
      ·
       have:=tokenR_num ht
       exact this
      ·
       exact ih _ _ hr u hu
theorem tokensV_num (l:List Int): ∀ t∈(tokensV tokenR l).1,0≤t.num:=by
 unfold tokensV
 split
 ·
  exact fun _ h=>by cases h
 ·
  split
  ·
   exact fun _ h=>by cases h
  ·
   split
   ·
    rename_i r hr
    exact tokensG_num _ _ _ hr
   ·
    exact fun _ h=>by cases h
def Wf (p:PS):Prop:=(∀ t∈p.l,0≤t.num)∧ ∀ n∈p.out,wfN n
theorem Wf.skip {p:PS} (h:Wf p):Wf p.skip:=⟨fun t ht=>h.1 t (List.mem_of_mem_tail ht),h.2⟩
theorem Wf.put {p:PS} (h:Wf p) {n:Nd} (hn:wfN n):Wf (p.put n):=⟨h.1,fun m hm=>by
 rcases List.mem_append.1 hm with hm|hm
 ·
  exact h.2 m hm
 ·
  rw [List.mem_singleton.1 hm];exact hn⟩
theorem hdT_num {fin:Int} {l:List Tk} (h: ∀ t∈l,0≤t.num):0≤(hdT fin l).num:=by
 cases l with
 |nil=>exact Int.le_refl _
 |cons t r=>exact h t List.mem_cons_self
theorem wf_zero (k:Int) (r:Rct) (o:Int):wfN ⟨k,zeroV,r,o,0,0⟩:=⟨by simp [zeroV],Int.le_refl 0,by simp⟩
theorem wf_lit {t:Tk} (h:0≤t.num):wfN (litT t):=by
 unfold litT
 refine ⟨?_,Int.le_refl 0,by simp⟩
 simp only
 split
 ·
  simp only;omega
 ·
  split
  ·
   simp
  ·
   split
   ·
    simp only;omega
   ·
    simp only;omega
theorem functionE_bound (b:ByteArray):0≤(functionE b).1∧(functionE b).1≤255:=by
 have hb1:=idxFrom_bound namesL b 0 (by omega)
 rw [namesL_length] at hb1
 unfold functionE
 split
 ·
  dsimp only;omega
 ·
  dsimp only;omega
theorem endCall_wf {fin:Int} {name:Tk} {fn:Int} {n m:Nat} {p p' :PS} (h:endCall fin name fn n p=some (.ok (m,p'))) (hw:Wf p) (h0:0≤fn) (h1:fn≤255):Wf p' :=by
 unfold endCall at h
 dsimp only at h
 split at h
 ·
  cases h
 ·
  split at h
  ·
   cases h
  ·
   split at h
   ·
    cases h
   ·
    cases h
    exact hw.skip.put ⟨by simp [zeroV],h0,h1⟩
theorem runP_wf (fin:Int): ∀ (f:Nat) (j:Job) (p:PS) (n:Nat) (p' :PS),runP fin f j p=some (.ok (n,p'))→Wf p→Wf p'
 |0,_,_,_,_,h,_=>by cases h
 |f+1,j,p,n,p',h,hw=>by
  have ih:=runP_wf fin f
  cases j with
  |level k=>
   rw [runP] at h
   split at h
   ·
    exact ih _ _ _ _ h hw
   ·
    obtain ⟨n1,p1,h1,h2⟩:=thenP_ok h
    exact ih _ _ _ _ h2 (ih _ _ _ _ h1 hw)
  |loop k=>
   rw [runP] at h
   try dsimp only at h
   split at h
   ·
    obtain ⟨n1,p1,h1,h2⟩:=thenP_ok h
    exact ih _ _ _ _ h2 ((ih _ _ _ _ h1 hw.skip).put (wf_zero _ _ _))
   ·
    cases h;exact hw
  |sign=>
   rw [runP] at h
   try dsimp only at h
   split at h
   ·
    obtain ⟨n1,p1,h1,h2⟩:=thenP_ok h
    cases h2
    exact (ih _ _ _ _ h1 hw.skip).put (wf_zero _ _ _)
   ·
    obtain ⟨n1,p1,h1,h2⟩:=thenP_ok h
    split at h2
    ·
     obtain ⟨n2,p2,h3,h4⟩:=thenP_ok h2
     cases h4
     exact (ih _ _ _ _ h3 (ih _ _ _ _ h1 hw).skip).put (wf_zero _ _ _)
    ·
     cases h2
     exact ih _ _ _ _ h1 hw
  |pct=>
   rw [runP] at h
   obtain ⟨n1,p1,h1,h2⟩:=thenP_ok h
   exact ih _ _ _ _ h2 (ih _ _ _ _ h1 hw)
  |pctl=>
   rw [runP] at h
   try dsimp only at h
   split at h
   ·
    exact ih _ _ _ _ h (hw.skip.put (wf_zero _ _ _))
   ·
    cases h;exact hw
  |prim=>
   rw [runP] at h
   try dsimp only at h
   split at h
   ·
    cases h
    exact hw.skip.put (wf_lit (hdT_num hw.1))
   ·
    split at h
    ·
     cases h
     exact hw.skip.put (wf_zero _ _ _)
    ·
     split at h
     ·
      obtain ⟨n1,p1,h1,h2⟩:=thenP_ok h
      split at h2
      ·
       cases h2
      ·
       cases h2
       exact (ih _ _ _ _ h1 hw.skip).skip
     ·
      split at h
      ·
       split at h
       ·
        cases h
       ·
        have hb:=functionE_bound (hdT fin p.l).text
        split at h
        ·
         cases h
        ·
         split at h
         ·
          exact endCall_wf h hw.skip.skip hb.1 hb.2
         ·
          obtain ⟨n1,p1,h1,h2⟩:=thenP_ok h
          exact endCall_wf h2 (ih _ _ _ _ h1 hw.skip.skip) hb.1 hb.2
      ·
       cases h
  |args fn i=>
   rw [runP] at h
   try dsimp only at h
   have hgo: ∀ p0:PS,Wf p0→(if (hdT fin p0.l).kind=11 then runP fin f (.args fn (i+1)) p0.skip else some (.ok (i+1,p0)))=some (.ok (n,p'))→Wf p' :=by
    intro p0 hw0 h0
    split at h0
    ·
     exact ih _ _ _ _ h0 hw0.skip
    ·
     cases h0;exact hw0
   split at h
   ·
    obtain ⟨n1,p1,h1,h2⟩:=thenP_ok h
    exact hgo p1 (ih _ _ _ _ h1 hw) h2
   ·
    split at h
    ·
     cases h
    ·
     exact hgo _ (hw.skip.put (wf_zero _ _ _)) h
def constR (b:ByteArray):Vl:=
 if b=emptyB then zeroV
 else if (ints b).headD 0=39 then ⟨3,0,mkB (ints b).tail⟩
 else if upB b=trueB∨upB b=falseB then truthV (decide (upB b=trueB))
 else if (codeE b).2=0∧(codeE b).1<6 then failV (codeE b).1
 else if (decL (ints b)).2=0 then makeV (decL (ints b)).1
 else if (decL (ints b)).2=3 then failV 3
 else ⟨3,0,b⟩
theorem constP_eq {b:ByteArray} (hg:glyphE b=0):constP b=constR b:=by
 have hT:trueB≠falseB:=by decide
 have h3:try3 b=if upB b=trueB then (truthV true,true) else if upB b=falseB then (truthV false,true) else (failV 2,false):=by
  have hv:valE ⟨3,0,b⟩=0:=by simp [valE,valOk,hg]
  simp only [try3,boolTextV,hv,if_true,namedV]
  split
  ·
   rfl
  ·
   split<;>rfl
 have h2:try2 b=if (ints b).headD 0=39 then (⟨3,0,mkB (ints b).tail⟩,true) else (⟨3,0,b⟩,false):=by
  have hq:ints quoteB= [39]:=rfl
  have hs:quoteB.size=1:=rfl
  simp only [try2,cutB,hq,hs]
  cases hi:ints b with
  |nil=>simp
  |cons c r=>
   simp only [List.take_succ_cons,List.take_zero,List.cons.injEq,and_true,List.headD_cons,List.tail_cons]
   by_cases hc:c=39
   ·
    have hsz:b.size=(c::r).length:=by rw [← hi,ints_length]
    have:sub b 1 b.size=mkB r:=by
     refine mkB_eq ?_
     rw [ints_sub,hi,hsz]
     simp
    simp only [hc,if_true,this]
   ·
    simp only [hc,if_false]
 have hgen: ∀ (p:Prop) [Decidable p] (x y z:Vl),(if (if p then (x,true) else (y,false)).2=true then (if p then (x,true) else (y,false)).1 else z)=if p then x else z:=by
  intro p _ x y z
  split<;>simp
 unfold constP triesP constFrom constFrom constFrom constFrom constFrom constFrom constR
 have e1:(try1 b).2=decide (b=emptyB):=rfl
 rw [e1,h2,h3]
 by_cases c1:b=emptyB
 ·
  simp [c1,try1]
 ·
  rw [if_neg (by simpa using c1),if_neg c1]
  by_cases c2:(ints b).headD 0=39
  ·
   simp only [c2,if_true]
  ·
   simp only [c2,if_false,Bool.false_eq_true]
   by_cases c3:upB b=trueB
   ·
    simp [c3]
   ·
    by_cases c4:upB b=falseB
    ·
     simp [c4,hT.symm]
    ·
     simp only [c3,c4,if_false,or_self,Bool.false_eq_true]
     by_cases c5:(codeE b).2=0∧(codeE b).1<6
     ·
      have:(try4 b).2=true:=by simp only [try4,c5.1,decide_true,Bool.true_and,decide_eq_true_eq];omega
      rw [if_pos this,if_pos c5];rfl
     ·
      have:(try4 b).2=false:=by
       simp only [try4,Bool.and_eq_false_iff,decide_eq_false_iff_not]
       by_cases h:(codeE b).2=0
       ·
        right;intro h';exact c5 ⟨h,by omega⟩
       ·
        left;exact h
      rw [if_neg (by simp [this]),if_neg c5]
      by_cases c6:(decL (ints b)).2=0
      ·
       simp [try5,c6]
      ·
       by_cases c7:(decL (ints b)).2=3
       ·
        simp [try5,c7]
       ·
        simp [try5,c6,c7]
end Go.SL
namespace Go.SL
open Go Go.Proofs
attribute [local irreducible] W WL WQ WG WA WX WLI WR WT WC VOp RW thn blk cutP scp retP retPP endB FnAt FnIn FnP ceP
section
variable {w0:World} {s:Slots} {H:List Blk} {ty t' :TypeId} {x y:Operand}
theorem v_eqlV_to {a b:Vl} {c:Bool} (h:decide (a=b)=c) (hx:ev s x=some (.agg (encV a).toArray)) (hy:ev s y=some (.agg (encV b).toArray)):VOp Tryz.prog w0 s H (.binOp .eql 120 x y t') ty (.bool c):=by
 have h1:=v_eqlV (w0:=w0) (H:=H) (ty:=ty) (t' :=t') hx hy
 rwa [eqV_dec,h] at h1
theorem v_eqlR_to {a b:Rct} {c:Bool} (h:decide (a=b)=c) (hx:ev s x=some (.agg (encR a).toArray)) (hy:ev s y=some (.agg (encR b).toArray)):VOp Tryz.prog w0 s H (.binOp .eql 24 x y t') ty (.bool c):=by
 have h1:=v_eqlR (w0:=w0) (H:=H) (ty:=ty) (t' :=t') hx hy
 rwa [eqR_dec,h] at h1
theorem v_neqR_to {a b:Rct} {c:Bool} (h:decide (a=b)=c) (hx:ev s x=some (.agg (encR a).toArray)) (hy:ev s y=some (.agg (encR b).toArray)):VOp Tryz.prog w0 s H (.binOp .neq 24 x y t') ty (.bool (!c)):=by
 have h1:=v_neqR (w0:=w0) (H:=H) (ty:=ty) (t' :=t') hx hy
 rwa [eqR_dec,h] at h1
theorem v_eqlF_to {a b:Rf} {c:Bool} (h:decide (a=b)=c) (hx:ev s x=some (.agg (encF a).toArray)) (hy:ev s y=some (.agg (encF b).toArray)):VOp Tryz.prog w0 s H (.binOp .eql 38 x y t') ty (.bool c):=by
 have h1:=v_eqlF (w0:=w0) (H:=H) (ty:=ty) (t' :=t') hx hy
 rwa [eqF_dec,h] at h1
end
theorem refLess_at (a b:Rf) (w:World):Pure Tryz.prog 79 [.agg (encF a).toArray,.agg (encF b).toArray] w (.bool (lessF a b)):=by
 refine fn_at Tryz.func79 rfl Tryz.ntmps79 rfl ?_
 repeat' (first|refine sT ?_|refine sM fun _=> ?_|(refine sC ?_ ?_<;>intro hb<;>try omega)|fail)
 all_goals ((refine rT1 ?_);((try simp only [← Int.not_lt] at*);simp_all [lessF, -Int.not_lt, -Int.not_le,← Int.not_lt]))
theorem refOne_at (a:Rf) (w:World):Pure Tryz.prog 104 [.agg (encF a).toArray] w (.agg (encR (oneA a.col a.row)).toArray):=by
 refine fn_at Tryz.func104 rfl Tryz.ntmps104 rfl ?_
 repeat' (first|refine sT ?_|refine sM fun _=> ?_|(refine sC ?_ ?_<;>intro hb<;>try omega)|fail)
 all_goals ((refine eRC ?_);rfl)
theorem bat_out {a:ByteArray} {i:Nat} (h:a.size≤i):bat a i=0:=by
 rw [bat,List.getD_eq_getElem?_getD,List.getElem?_eq_none (by rw [ints_length];exact h)];rfl
theorem refDigit_at (a:ByteArray) (ha:a.size≤1000000) (i:Nat) (w:World):Pure Tryz.prog 247 [.string a,.int .i64 (i:Int)] w (.bool (digC (bat a i))):=by
 refine fn_at Tryz.func247 rfl Tryz.ntmps247 rfl ?_
 have h0:=fun h:a.size≤i=>bat_out h
 generalize hc:bat a i=c at h0
 repeat' (first|((with_reducible apply wl_v);exact rfl;(with_reducible apply v_idx (j:=i));exact rfl;exact rfl;omega)|(rw [hc])|refine sT ?_|refine sT2 ?_|refine sM fun _=> ?_|(refine sC ?_ ?_<;>intro hb<;>try omega)|fail)
 all_goals ((refine rT1 ?_);(try rw [h0 (by omega)]);simp_all [digC];try omega)
theorem refLetter_at (a:ByteArray) (ha:a.size≤1000000) (i:Nat) (w:World):Pure Tryz.prog 250 [.string a,.int .i64 (i:Int)] w (.bool (letC (bat a i))):=by
 refine fn_at Tryz.func250 rfl Tryz.ntmps250 rfl ?_
 have h0:=fun h:a.size≤i=>bat_out h
 generalize hc:bat a i=c at h0
 repeat' (first|((with_reducible apply wl_v);exact rfl;(with_reducible apply v_idx (j:=i));exact rfl;exact rfl;omega)|(rw [hc])|refine sT ?_|refine sT2 ?_|refine sM fun _=> ?_|(refine sC ?_ ?_<;>intro hb<;>try omega)|fail)
 all_goals ((refine rT1 ?_);(try rw [h0 (by omega)]);simp_all [letC];try omega)
def letN (c:Int):Int:=if letC c then upC c - 64 else 0
theorem refLetN_at (c:Int) (h0:0≤c) (h1:c<256) (w:World):Pure Tryz.prog 296 [.int .u8 c] w (.int .i64 (letN c)):=by
 refine fn_at Tryz.func296 rfl Tryz.ntmps296 rfl ?_
 repeat' (first|((with_reducible apply wl_v (d:=10));exact rfl;(with_reducible apply v_subw_id (c:=c - 65));exact rfl;exact rfl;exact wrap_u8 (by omega) (by omega))|((with_reducible apply wl_v (d:=20));exact rfl;(with_reducible apply v_subw_id (c:=c - 97));exact rfl;exact rfl;exact wrap_u8 (by omega) (by omega))|((with_reducible apply wl_v (d:=11));exact rfl;(with_reducible apply v_conv_to (c:=c - 65));exact rfl;exact I64.wrap ⟨by omega,by omega⟩)|((with_reducible apply wl_v (d:=21));exact rfl;(with_reducible apply v_conv_to (c:=c - 97));exact rfl;exact I64.wrap ⟨by omega,by omega⟩)|((with_reducible apply wl_v (d:=12));exact rfl;(with_reducible apply v_add);exact rfl;exact rfl;exact ⟨by omega,by omega⟩)|((with_reducible apply wl_v (d:=22));exact rfl;(with_reducible apply v_add);exact rfl;exact rfl;exact ⟨by omega,by omega⟩)|refine sT ?_|refine sM fun _=> ?_|(refine sC ?_ ?_<;>intro hb<;>try omega)|fail)
 all_goals
  (refine rT1 ?_)
  unfold letN upC
  first
   |(rw [if_pos ((letC_iff c).2 (by omega)),if_pos (by omega)];congr 1;omega)
   |(rw [if_pos ((letC_iff c).2 (by omega)),if_neg (by omega)];congr 1;omega)
   |(rw [if_neg (by rw [letC_iff];omega)])
set_option maxHeartbeats 1000000 in
theorem refUpper_at (a:ByteArray) (ha:a.size≤1000000) (w:World):Pure Tryz.prog 166 [.string a] w (.string (upB a)):=by
 refine fn_at Tryz.func166 rfl Tryz.ntmps166 rfl ?_
 repeat' (first|((with_reducible apply wl_toBytes);exact rfl;exact rfl;intro gb cap)|refine sT ?_|refine sM fun _=> ?_|(refine sC ?_ ?_<;>intro hb<;>try omega)|fail)
 refine w_loopK [3] rfl (fun i:Nat=> [(4,.int .i64 (i:Int))]) (fun i=> [.byt gb 5 a.size cap ((((ints a).take i).map upC++(ints a).drop i).map (Value.int .u8))]) (fun i=>i≤a.size) (fun i=>a.size - i) 0 (by omega) sB ?_ ?_
 ·
  rw [bytesV_eq];simp only [List.take_zero,List.map_nil,List.nil_append,List.drop_zero];exact mS
 intro i hi
 have hl:=ints_length a
 by_cases hlt:i<a.size
 ·
  have hil:i<(ints a).length:=by omega
  have hok:=ints_ok a (ints a)[i] (List.getElem_mem hil)
  have hget:((((ints a).take i).map upC++(ints a).drop i).map (Value.int .u8))[0+i*1]? =some (.int .u8 (ints a)[i]):=by
   rw [List.getElem?_map,show 0+i*1=i by omega,List.getElem?_append_right (by simp;omega)]
   simp [Nat.min_eq_left (Nat.le_of_lt hil),List.getElem?_drop]
  have hstep:97≤(ints a)[i]∧(ints a)[i]≤122→upC (ints a)[i]=(ints a)[i] - 32:=fun h=>by rw [upC,if_pos h]
  have hsame: ¬ (97≤(ints a)[i]∧(ints a)[i]≤122)→upC (ints a)[i]=(ints a)[i]:=fun h=>by rw [upC,if_neg h]
  have hupd:=upd_step upC (Value.int .u8) (ints a) i hil
  have hkeep: ∀ v,(((ints a).take i).map upC++(ints a).drop i).map (Value.int .u8)=v→upC (ints a)[i]=(ints a)[i]→v=(((ints a).take (i+1)).map upC++(ints a).drop (i+1)).map (Value.int .u8):=fun v hv hs=>by
   rw [← hupd,hs,← hv]
   rw [show 0+i*1=i by omega] at hget
   obtain ⟨h1,h2⟩:=List.getElem?_eq_some_iff.1 hget
   rw [← h2,List.set_getElem_self]
  generalize (ints a)[i]=c at hget hok hstep hsame hupd hkeep
  repeat' (first|((with_reducible apply wl_v);exact rfl;(with_reducible apply v_indexAddr);exact rfl;exact rfl;exact hlt)|((with_reducible apply wl_v);exact rfl;(with_reducible apply v_load_byt);exact rfl;exact pK;exact hget)|((with_reducible apply wl_v (d:=31));exact rfl;(with_reducible apply v_subw_id (c:=c - 32));exact rfl;exact rfl;exact wrap_u8 (by omega) (by omega))|((with_reducible apply wl_store_byt);exact rfl;exact rfl;exact pK;exact rfl;(simp;omega))|refine sT ?_|refine sS ?_|refine sW ?_|refine sN ?_|refine sWN ?_|refine sM fun _=> ?_|(refine sC ?_ ?_<;>intro hb<;>try omega)|(refine sCW ?_ ?_<;>intro hb<;>try omega)|fail)
  ·
   rw [show 0+i*1=i by omega,← hstep ⟨by assumption,by assumption⟩,hupd]
   exact ⟨i+1,hlt,by omega,sB,sB,mS⟩
  ·
   exact ⟨i+1,hlt,by omega,sB,sB,(by rw [← hkeep _ rfl (hsame (by omega))];exact mS)⟩
  ·
   exact ⟨i+1,hlt,by omega,sB,sB,(by rw [← hkeep _ rfl (hsame (by omega))];exact mS)⟩
 ·
  have e2:i=a.size:=by omega
  subst e2
  rw [List.take_of_length_le (by omega),List.drop_of_length_le (by omega),List.append_nil]
  repeat' (first|((with_reducible apply wl_v (d:=34));exact rfl;(with_reducible apply v_ofBytes);exact rfl;exact pK;(rw [List.length_map];omega))|refine sT ?_|refine sS ?_|refine sM fun _=> ?_|(refine sC ?_ ?_<;>intro hb<;>try omega)|fail)
  (refine rT1 ?_)
  rfl
end Go.SL
namespace Go.SL
open Go Go.Proofs
attribute [local irreducible] W WL WQ WG WA VOp thn blk cutP retP FnAt FnIn Held
def aT:List Nd:= [k2,k3,j7,k6]
section
variable (w:World) (tv:Value) (h:Reads w tv 4 (aT.flatMap encN))
include h
end
end Go.SL
namespace Go.SL
open Go
structure STree where
 ns:List Nd
 d:Nat
def STree.kind (S:STree):Int:=((S.ns.getLast?).map Nd.kind).getD 0
def fit1 (n:Nd) (i:Int) (k:Int):Bool:= !(decide (k=3) && !mayAt n i) && !(decide (n.kind=7) && releasedF n.fn && decide (k≠2) && decide (k≠3))
def fitsF (n:Nd):Int→List STree→Bool
 |_,[]=>true
 |i,S::r=>fit1 n i S.kind && fitsF n (i+1) r
def lastK (st:List STree) (k:Nat):List STree:=st.drop (st.length - k)
def depthF (top:List STree):Nat:=top.foldl (fun d S=>max d (S.d+1)) 1
def flatS (st:List STree):List Nd:=st.flatMap STree.ns
def nodeF (n:Nd) (top:List STree):STree:=⟨flatS top++ [n],depthF top⟩
def stepF (n:Nd) (st:List STree):Int ⊕ (List STree × List STree):=
 if fieldsE n≠0 then .inl (fieldsE n)
 else if (st.length:Int)<below n∨fitsF n 0 (lastK st (below n).toNat)=false then .inl 4
 else if 32<depthF (lastK st (below n).toNat) then .inl 9
 else .inr (st.take (st.length - (below n).toNat),lastK st (below n).toNat)
abbrev Hist:=List (List STree × STree)
def walkF:List Nd→List STree→Hist→Int × List STree × Hist
 | [],st,h=>(if st.length=1 then 0 else 4,st,h)
 |n::r,st,h=>match stepF n st with
  | .inl e=>(e,st,h)
  | .inr (lo,top)=>walkF r (lo++ [nodeF n top]) (h++ [(top,nodeF n top)])
theorem flatS_append (a b:List STree):flatS (a++b)=flatS a++flatS b:=List.flatMap_append
theorem flatS_one (S:STree):flatS [S]=S.ns:=by simp [flatS]
theorem flatS_cons (S:STree) (r:List STree):flatS (S::r)=S.ns++flatS r:=List.flatMap_cons
theorem nodeF_len (n:Nd) (top:List STree):(nodeF n top).ns.length=(flatS top).length+1:=by simp [nodeF]
theorem nodeF_kind (n:Nd) (top:List STree):(nodeF n top).kind=n.kind:=by simp [nodeF,STree.kind]
inductive Good:STree→Prop
 |mk (n:Nd) (top:List STree) (hg: ∀ S∈top,Good S) (hf:fieldsE n=0) (hb:(top.length:Int)=Go.SL.below n) (hfit:fitsF n 0 top=true) (hd:depthF top≤32):Good (nodeF n top)
theorem Good.pos {S:STree} (h:Good S):0<S.ns.length:=by
 cases h with
 |mk n top _ _ _ _ _=>rw [nodeF_len];omega
def rootsFrom:Nat→List STree→List Nat
 |_,[]=> []
 |o,S::r=>(o+S.ns.length - 1)::rootsFrom (o+S.ns.length) r
def lo (i:Nat) (x:List STree × STree):Nat:=i+1 - x.2.ns.length
def kidsH (i:Nat) (x:List STree × STree):List Nat:=rootsFrom (lo i x) x.1
theorem rootsFrom_length (o:Nat) (l:List STree):(rootsFrom o l).length=l.length:=by
 induction l generalizing o with
 |nil=>rfl
 |cons S r ih=>simp [rootsFrom,ih]
theorem rootsFrom_append (o:Nat) (a b:List STree):rootsFrom o (a++b)=rootsFrom o a++rootsFrom (o+(flatS a).length) b:=by
 induction a generalizing o with
 |nil=>simp [rootsFrom,flatS]
 |cons S r ih=>simp [rootsFrom,ih,flatS_cons,Nat.add_assoc]
theorem mem_roots {o k:Nat} {l:List STree} (h:k∈rootsFrom o l): ∃ a S b,l=a++S::b∧k=o+(flatS a).length+S.ns.length - 1:=by
 induction l generalizing o with
 |nil=>cases h
 |cons S r ih=>
  rcases List.mem_cons.1 h with rfl|h
  ·
   exact ⟨[],S,r,rfl,by simp [flatS]⟩
  ·
   obtain ⟨a,T,b,rfl,rfl⟩:=ih h
   exact ⟨S::a,T,b,rfl,by simp [flatS_cons,Nat.add_assoc]⟩
theorem roots_lt {o k:Nat} {l:List STree} (hp: ∀ S∈l,0<S.ns.length) (h:k∈rootsFrom o l):o≤k∧k<o+(flatS l).length:=by
 obtain ⟨a,S,b,rfl,rfl⟩:=mem_roots h
 have:=hp S (by simp)
 simp only [flatS_append,flatS_cons,List.length_append]
 omega
structure Inv (dn:List Nd) (st:List STree) (h:Hist):Prop where
 flat:flatS st=dn
 good: ∀ S∈st,Good S
 len:h.length=dn.length
 node: ∀ i x,h[i]? =some x→ ∃ n,dn[i]? =some n∧x.2=nodeF n x.1∧(∀ T∈x.1,Good T)∧Good x.2∧x.2.ns.length≤i+1∧(dn.take (i+1)).drop (lo i x)=x.2.ns
 deep: ∀ x∈h,∃ S∈st,x.2.d≤S.d
 cut: ∀ a b,st=a++b→ ∀ j x,h[j]? =some x→(flatS a).length≤j→(flatS a).length≤lo j x
 lam: ∀ i j x y,h[i]? =some x→h[j]? =some y→j≤i→lo i x≤j→lo i x≤lo j y
 mid: ∀ i j x y,h[i]? =some x→h[j]? =some y→ ∀ k∈kidsH j y,k<i→i<j→k<lo i x
 up: ∀ k<h.length,k∈rootsFrom 0 st∨ ∃ j y,h[j]? =some y∧k∈kidsH j y
 apart: ∀ j y,h[j]? =some y→ ∀ k∈kidsH j y,k∉rootsFrom 0 st
 one: ∀ i j x y,h[i]? =some x→h[j]? =some y→ ∀ k,k∈kidsH i x→k∈kidsH j y→i=j
theorem Inv.nil:Inv [] [] []:={
 flat:=rfl
 good:=fun _ h=>by cases h
 len:=rfl
 node:=fun i x h=>by simp at h
 deep:=fun _ h=>by cases h
 cut:=fun a b _ j x h=>by simp at h
 lam:=fun i j x y h=>by simp at h
 mid:=fun i j x y h=>by simp at h
 up:=fun k h=>by simp at h
 apart:=fun j y h=>by simp at h
 one:=fun i j x y h=>by simp at h }
theorem depthF_ge (top:List STree): ∀ S∈top,S.d+1≤depthF top:=by
 have: ∀ (l:List STree) (d:Nat),d≤l.foldl (fun d S=>max d (S.d+1)) d∧ ∀ S∈l,S.d+1≤l.foldl (fun d S=>max d (S.d+1)) d:=by
  intro l
  induction l with
  |nil=>intro d;exact ⟨Nat.le_refl _,fun _ h=>by cases h⟩
  |cons T r ih=>
   intro d
   obtain ⟨h1,h2⟩:=ih (max d (T.d+1))
   refine ⟨?_,fun S hS=> ?_⟩
   ·
    rw [List.foldl_cons];omega
   ·
    rw [List.foldl_cons]
    rcases List.mem_cons.1 hS with rfl|hS
    ·
     omega
    ·
     exact h2 S hS
 exact (this top 1).2
theorem snoc_get {α:Type} {l:List α} {a x:α} {i:Nat} (h:(l++ [a])[i]? =some x):(i<l.length∧l[i]? =some x)∨(i=l.length∧x=a):=by
 rcases Nat.lt_trichotomy i l.length with h1|h1|h1
 ·
  rw [List.getElem?_append_left h1] at h
  exact .inl ⟨h1,h⟩
 ·
  subst h1
  simp at h
  exact .inr ⟨rfl,h.symm⟩
 ·
  rw [List.getElem?_eq_none (by simp;omega)] at h
  cases h
theorem Inv.step {dn:List Nd} {st:List STree} {h:Hist} (hI:Inv dn st h) {n:Nd} {l top:List STree} (hs:stepF n st= .inr (l,top)):
  Inv (dn++ [n]) (l++ [nodeF n top]) (h++ [(top,nodeF n top)])∧st=l++top:=by
 unfold stepF at hs
 split at hs
 ·
  cases hs
 rename_i hf
 split at hs
 ·
  cases hs
 rename_i hb
 split at hs
 ·
  cases hs
 rename_i hd
 simp only [Sum.inr.injEq,Prod.mk.injEq] at hs
 obtain ⟨rfl,rfl⟩:=hs
 have hst:st.take (st.length - (below n).toNat)++lastK st (below n).toNat=st:=List.take_append_drop _ _
 have hlk:(lastK st (below n).toNat).length=min st.length (below n).toNat:=by simp [lastK];omega
 generalize st.take (st.length - (below n).toNat)=l at hst ⊢
 generalize lastK st (below n).toNat=top at hst hb hd hlk ⊢
 subst hst
 have hb1:(0:Int)≤below n∧fitsF n 0 top=true∧below n≤((l++top).length:Int):=by
  refine ⟨?_,?_,?_⟩
  ·
   have hk:kindOk n=true:=by
    cases hk:kindOk n
    ·
     exfalso
     apply hf
     intro h0
     simp [fieldsE,hk] at h0
    ·
     rfl
   unfold below
   by_cases h7:n.kind=7
   ·
    simp [kindOk,h7] at hk
    simp [h7];exact hk
   ·
    (repeat' split)<;>omega
  ·
   cases hh:fitsF n 0 top
   ·
    exact absurd (Or.inr hh) hb
   ·
    rfl
  ·
   omega
 obtain ⟨hb0,hfit,hble⟩:=hb1
 have hbl:(top.length:Int)=below n:=by omega
 have hgt: ∀ S∈top,Good S:=fun S hS=>hI.good S (List.mem_append_right _ hS)
 have hgl: ∀ S∈l,Good S:=fun S hS=>hI.good S (List.mem_append_left _ hS)
 have hG:Good (nodeF n top):= .mk n top hgt (by omega) hbl hfit (by omega)
 have hflat:flatS l++flatS top=dn:=by rw [← flatS_append];exact hI.flat
 have hlen:h.length=(flatS l).length+(flatS top).length:=by rw [hI.len,← hflat,List.length_append]
 have hlo:lo h.length (top,nodeF n top)=(flatS l).length:=by simp only [lo,nodeF_len];omega
 have hkids:kidsH h.length (top,nodeF n top)=rootsFrom (0+(flatS l).length) top:=by rw [kidsH,hlo,Nat.zero_add]
 have hroots:rootsFrom 0 (l++top)=rootsFrom 0 l++kidsH h.length (top,nodeF n top):=by rw [rootsFrom_append,hkids]
 have hroots' :rootsFrom 0 (l++ [nodeF n top])=rootsFrom 0 l++ [h.length]:=by
  rw [rootsFrom_append]
  simp only [rootsFrom,nodeF_len]
  congr 2
  omega
 have hposl: ∀ S∈l,0<S.ns.length:=fun S hS=>(hgl S hS).pos
 have hpost: ∀ S∈top,0<S.ns.length:=fun S hS=>(hgt S hS).pos
 have hkb: ∀ k∈kidsH h.length (top,nodeF n top),(flatS l).length≤k∧k<h.length:=fun k hk=>by
  rw [hkids] at hk
  have:=roots_lt hpost hk
  omega
 have hkj: ∀ j y,h[j]? =some y→ ∀ k∈kidsH j y,k<j:=fun j y hy k hk=>by
  obtain ⟨m,_,e2,e3,_,e5,_⟩:=hI.node j y hy
  have h1:=roots_lt (fun T hT=>(e3 T hT).pos) hk
  have h2:y.2.ns.length=(flatS y.1).length+1:=by rw [e2,nodeF_len]
  simp only [lo] at h1
  omega
 refine ⟨⟨?_,?_,?_,?_,?_,?_,?_,?_,?_,?_,?_⟩,rfl⟩
 ·
  rw [flatS_append,flatS_one]
  show flatS l++(flatS top++ [n])=dn++ [n]
  rw [← List.append_assoc,hflat]
 ·
  intro S hS
  rcases List.mem_append.1 hS with hS|hS
  ·
   exact hgl S hS
  ·
   rw [List.mem_singleton.1 hS];exact hG
 ·
  simp [hI.len]
 ·
  intro i x hx
  rcases snoc_get hx with ⟨hi,hx⟩|⟨rfl,rfl⟩
  ·
   obtain ⟨m,e1,e2,e3,e4,e5,e6⟩:=hI.node i x hx
   refine ⟨m,?_,e2,e3,e4,e5,?_⟩
   ·
    rw [List.getElem?_append_left (by rw [← hI.len];exact hi)];exact e1
   ·
    rw [List.take_append_of_le_length (by rw [← hI.len];exact hi)];exact e6
  ·
   refine ⟨n,by rw [hI.len];simp,rfl,hgt,hG,by simp only [nodeF_len];omega,?_⟩
   rw [hlo,hI.len,List.take_of_length_le (by simp),← hflat,List.append_assoc,List.drop_left]
   rfl
 ·
  intro x hx
  rcases List.mem_append.1 hx with hx|hx
  ·
   obtain ⟨S,hS,hd1⟩:=hI.deep x hx
   rcases List.mem_append.1 hS with hS|hS
   ·
    exact ⟨S,List.mem_append_left _ hS,hd1⟩
   ·
    refine ⟨nodeF n top,List.mem_append_right _ (List.mem_singleton.2 rfl),?_⟩
    have:=depthF_ge top S hS
    simp only [nodeF];omega
  ·
   rw [List.mem_singleton.1 hx]
   exact ⟨nodeF n top,List.mem_append_right _ (List.mem_singleton.2 rfl),Nat.le_refl _⟩
 ·
  intro a b hab j x hx hj
  -- the cut lies in l,or behind all
  rcases List.append_eq_append_iff.1 hab with ⟨c,hc1,hc2⟩|⟨c,hc1,hc2⟩
  ·
   -- a=l++c,[node]=c++b
   cases c with
   |nil=>
    rw [List.append_nil] at hc1
    subst hc1
    rcases snoc_get hx with ⟨hi,hx⟩|⟨rfl,rfl⟩
    ·
     exact hI.cut a top rfl j x hx hj
    ·
     rw [hlo];exact Nat.le_refl _
   |cons T c' =>
    have hT:T=nodeF n top∧c' ++b= []:=by
     simp only [List.cons_append,List.cons.injEq] at hc2
     exact ⟨hc2.1.symm,hc2.2.symm⟩
    obtain ⟨rfl,hcb⟩:=hT
    have hc' :c' = []:=(List.append_eq_nil_iff.1 hcb).1
    subst hc'
    exfalso
    have hj' :j<h.length+1:=by
     have:=(List.getElem?_eq_some_iff.1 hx).1
     simpa using this
    rw [hc1,flatS_append,flatS_one,List.length_append,nodeF_len] at hj
    omega
  ·
   -- l=a++c
   subst hc1
   rcases snoc_get hx with ⟨hi,hx⟩|⟨rfl,rfl⟩
   ·
    exact hI.cut a (c++top) (by simp) j x hx hj
   ·
    rw [hlo,flatS_append,List.length_append];omega
 ·
  intro i j x y hx hy hji hle
  rcases snoc_get hx with ⟨hi,hx⟩|⟨rfl,rfl⟩
  ·
   rcases snoc_get hy with ⟨hj,hy⟩|⟨rfl,rfl⟩
   ·
    exact hI.lam i j x y hx hy hji hle
   ·
    omega
  ·
   rcases snoc_get hy with ⟨hj,hy⟩|⟨rfl,rfl⟩
   ·
    rw [hlo] at hle ⊢
    exact hI.cut l top rfl j y hy hle
   ·
    exact Nat.le_refl _
 ·
  intro i j x y hx hy k hk hki hij
  rcases snoc_get hy with ⟨hj,hy⟩|⟨rfl,rfl⟩
  ·
   rcases snoc_get hx with ⟨hi,hx⟩|⟨rfl,rfl⟩
   ·
    exact hI.mid i j x y hx hy k hk hki hij
   ·
    omega
  ·
   rcases snoc_get hx with ⟨hi,hx'⟩|⟨rfl,rfl⟩
   ·
    rw [hkids] at hk
    obtain ⟨a,S,b,hab,rfl⟩:=mem_roots hk
    have hS:=hpost S (by simp [hab])
    have:=hI.cut (l++a++ [S]) b (by simp [hab]) i x hx'
    simp only [flatS_append,flatS_one,List.length_append] at this
    omega
   ·
    omega
 ·
  intro k hk
  rw [List.length_append,List.length_singleton] at hk
  by_cases hkh:k=h.length
  ·
   left;rw [hroots',hkh];simp
  ·
   rcases hI.up k (by omega) with h1|⟨j,y,h1,h2⟩
   ·
    rw [hroots] at h1
    rcases List.mem_append.1 h1 with h1|h1
    ·
     left;rw [hroots'];exact List.mem_append_left _ h1
    ·
     right
     exact ⟨h.length,(top,nodeF n top),by simp,h1⟩
   ·
    right
    refine ⟨j,y,?_,h2⟩
    rw [List.getElem?_append_left (List.getElem?_eq_some_iff.1 h1).1];exact h1
 ·
  intro j y hy k hk
  rw [hroots']
  intro hm
  rcases snoc_get hy with ⟨hj,hy⟩|⟨rfl,rfl⟩
  ·
   rcases List.mem_append.1 hm with hm|hm
   ·
    exact hI.apart j y hy k hk (by rw [hroots];exact List.mem_append_left _ hm)
   ·
    have h1:=List.mem_singleton.1 hm
    have h2:=hkj j y hy k hk
    omega
  ·
   have h1:=hkb k hk
   rcases List.mem_append.1 hm with hm|hm
   ·
    have:=roots_lt hposl hm
    omega
   ·
    have:=List.mem_singleton.1 hm
    omega
 ·
  intro i j x y hx hy k hkx hky
  rcases snoc_get hx with ⟨hi,hx⟩|⟨rfl,rfl⟩
  ·
   rcases snoc_get hy with ⟨hj,hy⟩|⟨rfl,rfl⟩
   ·
    exact hI.one i j x y hx hy k hkx hky
   ·
    exfalso
    exact hI.apart i x hx k hkx (by rw [hroots];exact List.mem_append_right _ hky)
  ·
   rcases snoc_get hy with ⟨hj,hy⟩|⟨rfl,rfl⟩
   ·
    exfalso
    exact hI.apart j y hy k hky (by rw [hroots];exact List.mem_append_right _ hkx)
   ·
    rfl
theorem walkF_inv: ∀ (r dn:List Nd) (st:List STree) (h:Hist) (st' :List STree) (h' :Hist),Inv dn st h→walkF r st h=(0,st',h')→Inv (dn++r) st' h' ∧st'.length=1
 | [],dn,st,h,st',h',hI,hw=>by
  simp only [walkF,Prod.mk.injEq] at hw
  obtain ⟨h1,rfl,rfl⟩:=hw
  refine ⟨by simpa using hI,?_⟩
  split at h1
  ·
   assumption
  ·
   cases h1
 |n::r,dn,st,h,st',h',hI,hw=>by
  rw [walkF] at hw
  cases hs:stepF n st with
  |inl e=>
   rw [hs] at hw
   simp only [Prod.mk.injEq] at hw
   obtain ⟨rfl,_⟩:=hw
   exfalso
   unfold stepF at hs
   split at hs
   ·
    injection hs with hs
    exact absurd hs (by assumption)
   ·
    split at hs
    ·
     cases hs
    ·
     split at hs<;>cases hs
  |inr x=>
   obtain ⟨l,top⟩:=x
   rw [hs] at hw
   have:=walkF_inv r _ _ _ _ _ (hI.step hs).1 hw
   simpa using this
theorem walk_good {L:List Nd} {st:List STree} {h:Hist} (hw:walkF L [] []=(0,st,h)): ∃ S,st= [S]∧S.ns=L∧Good S∧Inv L [S] h:=by
 obtain ⟨hI,h1⟩:=walkF_inv L [] [] [] st h Inv.nil hw
 match st,h1 with
 | [S],_=>
  rw [List.nil_append] at hI
  exact ⟨S,rfl,by rw [← hI.flat,flatS_one],hI.good S (by simp),hI⟩
def ptsFrom:Nat→List STree→List Pt
 |_,[]=> []
 |o,S::r=>⟨o+S.ns.length - 1,S.d,decide (S.kind=3)⟩::ptsFrom (o+S.ns.length) r
theorem ptsFrom_length (o:Nat) (l:List STree):(ptsFrom o l).length=l.length:=by
 induction l generalizing o with
 |nil=>rfl
 |cons S r ih=>simp [ptsFrom,ih]
theorem ptsFrom_append (o:Nat) (a b:List STree):ptsFrom o (a++b)=ptsFrom o a++ptsFrom (o+(flatS a).length) b:=by
 induction a generalizing o with
 |nil=>simp [ptsFrom,flatS]
 |cons S r ih=>simp [ptsFrom,ih,flatS_cons,Nat.add_assoc]
theorem ptsFrom_drop (o:Nat) (l:List STree) (m:Nat):(ptsFrom o l).drop m=ptsFrom (o+(flatS (l.take m)).length) (l.drop m):=by
 induction l generalizing o m with
 |nil=>simp [ptsFrom]
 |cons S r ih=>cases m with
  |zero=>simp [flatS]
  |succ m=>simp [ptsFrom,ih,flatS_cons,Nat.add_assoc]
theorem ptsFrom_take (o:Nat) (l:List STree) (m:Nat):(ptsFrom o l).take m=ptsFrom o (l.take m):=by
 induction l generalizing o m with
 |nil=>simp [ptsFrom]
 |cons S r ih=>cases m with
  |zero=>simp [ptsFrom]
  |succ m=>simp [ptsFrom,ih]
theorem ptsFrom_roots (o:Nat) (l:List STree):(ptsFrom o l).map Pt.root=rootsFrom o l:=by
 induction l generalizing o with
 |nil=>rfl
 |cons S r ih=>simp [ptsFrom,rootsFrom,ih]
theorem ptsFrom_depth (o:Nat) (l:List STree):depthOf (ptsFrom o l)=depthF l:=by
 have: ∀ (l:List STree) (o d:Nat),(ptsFrom o l).foldl (fun d p=>max d (p.depth+1)) d=l.foldl (fun d S=>max d (S.d+1)) d:=by
  intro l
  induction l with
  |nil=>intro o d;rfl
  |cons S r ih=>intro o d;rw [ptsFrom,List.foldl_cons,List.foldl_cons,ih]
 exact this l o 1
theorem kindAt_root {L:List Nd} {o:Nat} {a b:List STree} {S:STree} (hS:0<S.ns.length) (hL:(L.drop o).take (flatS (a++S::b)).length=flatS (a++S::b)):kindAt L (o+(flatS a).length+S.ns.length - 1)=S.kind:=by
 have h1:(flatS (a++S::b))[(flatS a).length+(S.ns.length - 1)]? =S.ns[S.ns.length - 1]? :=by
  rw [flatS_append,List.getElem?_append_right (by omega),Nat.add_sub_cancel_left,flatS_cons,List.getElem?_append_left (by omega)]
 rw [← hL,List.getElem?_take] at h1
 rw [if_pos (by rw [flatS_append,flatS_cons];simp;omega),List.getElem?_drop] at h1
 rw [kindAt,STree.kind,List.getLast?_eq_getElem?,← h1]
 congr 3
 omega
theorem fits_pts {L:List Nd} (n:Nd) {o:Nat}: ∀ (b a:List STree) (i:Int),(∀ S∈b,0<S.ns.length)→(L.drop o).take (flatS (a++b)).length=flatS (a++b)→fitsFrom L n i (ptsFrom (o+(flatS a).length) b)=fitsF n i b
 | [],a,i,_,_=>rfl
 |S::r,a,i,hp,hL=>by
  have h1:=kindAt_root (hp S List.mem_cons_self) hL
  have h2:=fits_pts n r (a++ [S]) (i+1) (fun T hT=>hp T (List.mem_cons_of_mem _ hT)) (by simpa using hL)
  rw [flatS_append,flatS_one,List.length_append,← Nat.add_assoc] at h2
  rw [ptsFrom,fitsFrom,fitsF,h2]
  congr 1
  simp only [fitOne,fit1,h1]
def visitsOf (h:Hist):List Visit:=h.zipIdx.map fun x=>(kidsH x.2 x.1,x.1.2.d)
theorem visitsOf_snoc (h:Hist) (x:List STree × STree):visitsOf (h++ [x])=visitsOf h++ [(kidsH h.length x,x.2.d)]:=by
 simp [visitsOf,List.zipIdx_append]
theorem walkT_eq {L:List Nd}: ∀ (r dn:List Nd) (st:List STree) (h:Hist),dn++r=L→Inv dn st h→walkT L r dn.length (ptsFrom 0 st) (visitsOf h)=((walkF r st h).1,visitsOf (walkF r st h).2.2)
 | [],dn,st,h,hL,hI=>by simp [walkT,walkF,ptsFrom_length]
 |n::r,dn,st,h,hL,hI=>by
  have hlast: ∀ k,topOf (ptsFrom 0 st) k=ptsFrom (flatS (st.take (st.length - k))).length (lastK st k):=fun k=>by
   unfold topOf lastK
   rw [ptsFrom_length,ptsFrom_drop,Nat.zero_add]
  have hfits: ∀ k,fitsFrom L n 0 (topOf (ptsFrom 0 st) k)=fitsF n 0 (lastK st k):=fun k=>by
   rw [hlast]
   have:=fits_pts (L:=L) n (o:=0) (lastK st k) (st.take (st.length - k)) 0 (fun S hS=>(hI.good S (List.mem_of_mem_drop hS)).pos) (by
    rw [show st.take (st.length - k)++lastK st k=st from List.take_append_drop _ _,hI.flat,List.drop_zero,← hL,List.take_left])
   rwa [Nat.zero_add] at this
  have hdep: ∀ k,depthOf (topOf (ptsFrom 0 st) k)=depthF (lastK st k):=fun k=>by rw [hlast,ptsFrom_depth]
  rw [walkT,walkF]
  have hs:stepT L n dn.length (ptsFrom 0 st)=match stepF n st with
   | .inl e=> .inl e
   | .inr (l,top)=> .inr (ptsFrom 0 (l++ [nodeF n top]),kidsH h.length (top,nodeF n top),(nodeF n top).d):=by
   unfold stepT stepF
   rw [ptsFrom_length,hfits,hdep]
   by_cases c1:fieldsE n≠0
   ·
    rw [if_pos c1,if_pos c1]
   rw [if_neg c1,if_neg c1]
   by_cases c2:(st.length:Int)<below n∨fitsF n 0 (lastK st (below n).toNat)=false
   ·
    rw [if_pos c2,if_pos c2]
   rw [if_neg c2,if_neg c2]
   by_cases c3:32<depthF (lastK st (below n).toNat)
   ·
    rw [if_pos c3,if_pos c3]
   rw [if_neg c3,if_neg c3]
   have hfl:flatS (st.take (st.length - (below n).toNat))++flatS (lastK st (below n).toNat)=dn:=by
    rw [← flatS_append,show st.take (st.length - (below n).toNat)++lastK st (below n).toNat=st from List.take_append_drop _ _]
    exact hI.flat
   have hlen:dn.length=(flatS (st.take (st.length - (below n).toNat))).length+(flatS (lastK st (below n).toNat)).length:=by rw [← hfl,List.length_append]
   have e1:=ptsFrom_take 0 st (st.length - (below n).toNat)
   have e2:(topOf (ptsFrom 0 st) (below n).toNat).map Pt.root=kidsH h.length (lastK st (below n).toNat,nodeF n (lastK st (below n).toNat)):=by
    rw [hlast,ptsFrom_roots,kidsH]
    congr 1
    simp only [lo,nodeF_len,hI.len]
    omega
   dsimp only
   rw [e1,e2,ptsFrom_append]
   simp only [ptsFrom,nodeF_len,nodeF_kind]
   congr 4
   have e3:0+(flatS (st.take (st.length - (below n).toNat))).length+((flatS (lastK st (below n).toNat)).length+1) - 1=dn.length:=by omega
   rw [e3]
   rfl
  rw [hs]
  cases hsf:stepF n st with
  |inl e=>rfl
  |inr x=>
   obtain ⟨l,top⟩:=x
   dsimp only
   have h1:=walkT_eq r (dn++ [n]) (l++ [nodeF n top]) (h++ [(top,nodeF n top)]) (by simpa using hL) (hI.step hsf).1
   rw [visitsOf_snoc,List.length_append,List.length_singleton] at h1
   exact h1
theorem walkT_walkF (L:List Nd):walkT L L 0 [] []=((walkF L [] []).1,visitsOf (walkF L [] []).2.2):=by
 have:=walkT_eq (L:=L) L [] [] [] rfl Inv.nil
 exact this
theorem walkF_ind (P:List STree→Hist→Prop) (hs: ∀ dn n st h l top,Inv dn st h→P st h→stepF n st= .inr (l,top)→P (l++ [nodeF n top]) (h++ [(top,nodeF n top)])):
  ∀ (r dn:List Nd) (st:List STree) (h:Hist) (st' :List STree) (h' :Hist),Inv dn st h→P st h→walkF r st h=(0,st',h')→P st' h'
 | [],dn,st,h,st',h',hI,hP,hw=>by
  simp only [walkF,Prod.mk.injEq] at hw
  obtain ⟨_,rfl,rfl⟩:=hw
  exact hP
 |n::r,dn,st,h,st',h',hI,hP,hw=>by
  rw [walkF] at hw
  cases hsf:stepF n st with
  |inl e=>
   rw [hsf] at hw
   simp only [Prod.mk.injEq] at hw
   obtain ⟨rfl,_⟩:=hw
   exfalso
   unfold stepF at hsf
   split at hsf
   ·
    injection hsf with hs
    exact absurd hs (by assumption)
   ·
    split at hsf
    ·
     cases hsf
    ·
     split at hsf<;>cases hsf
  |inr x=>
   obtain ⟨l,top⟩:=x
   rw [hsf] at hw
   exact walkF_ind P hs r _ _ _ _ _ (hI.step hsf).1 (hs _ _ _ _ _ _ hI hP hsf) hw
structure RootOk (st:List STree) (h:Hist):Prop where
 root: ∀ a S b,st=a++S::b→ ∃ top,h[(flatS a).length+S.ns.length - 1]? =some (top,S)
 kid: ∀ j y,h[j]? =some y→ ∀ a S b,y.1=a++S::b→ ∃ top,h[lo j y+(flatS a).length+S.ns.length - 1]? =some (top,S)
theorem get_snoc {α:Type} {l:List α} {a x:α} {i:Nat} (h:l[i]? =some x):(l++ [a])[i]? =some x:=by
 rw [List.getElem?_append_left (List.getElem?_eq_some_iff.1 h).1];exact h
theorem Inv.facts {dn:List Nd} {st:List STree} {h:Hist} (hI:Inv dn st h) {n:Nd} {l top:List STree} (hs:stepF n st= .inr (l,top)):
  st=l++top∧(flatS l).length+(flatS top).length=h.length∧lo h.length (top,nodeF n top)=(flatS l).length∧(∀ S∈l,0<S.ns.length)∧(∀ S∈top,0<S.ns.length):=by
 obtain ⟨hI',rfl⟩:=hI.step hs
 have h1:(flatS l).length+(flatS top).length=h.length:=by rw [hI.len,← hI.flat,flatS_append,List.length_append]
 refine ⟨rfl,h1,by simp only [lo,nodeF_len];omega,fun S hS=>(hI.good S (List.mem_append_left _ hS)).pos,fun S hS=>(hI.good S (List.mem_append_right _ hS)).pos⟩
theorem rootOk_step {dn:List Nd} {n:Nd} {st:List STree} {h:Hist} {l top:List STree} (hI:Inv dn st h) (hP:RootOk st h) (hs:stepF n st= .inr (l,top)):RootOk (l++ [nodeF n top]) (h++ [(top,nodeF n top)]):=by
 obtain ⟨rfl,hlen,hlo,hl,ht⟩:=hI.facts hs
 refine ⟨fun a S b hab=> ?_,fun j y hy a S b hab=> ?_⟩
 ·
  rcases List.append_eq_append_iff.1 hab with ⟨c,hc1,hc2⟩|⟨c,hc1,hc2⟩
  ·
   cases c with
   |nil=>
    simp only [List.nil_append,List.cons.injEq] at hc2
    obtain ⟨rfl,_⟩:=hc2
    rw [List.append_nil] at hc1
    subst hc1
    refine ⟨top,?_⟩
    rw [nodeF_len,show (flatS a).length+((flatS top).length+1) - 1=h.length by omega]
    simp
   |cons T c' =>
    exfalso
    have:=congrArg List.length hc2
    simp at this
  ·
   subst hc1
   cases c with
   |nil=>
    simp only [List.nil_append,List.cons.injEq] at hc2
    obtain ⟨rfl,_⟩:=hc2
    refine ⟨top,?_⟩
    rw [List.append_nil] at hlen
    rw [nodeF_len,show (flatS a).length+((flatS top).length+1) - 1=h.length by omega]
    simp
   |cons T c' =>
    simp only [List.cons_append,List.cons.injEq] at hc2
    obtain ⟨rfl,_⟩:=hc2
    obtain ⟨t,h1⟩:=hP.root a S (c' ++top) (by simp)
    exact ⟨t,get_snoc h1⟩
 ·
  rcases snoc_get hy with ⟨hj,hy⟩|⟨rfl,rfl⟩
  ·
   obtain ⟨t,h1⟩:=hP.kid j y hy a S b hab
   exact ⟨t,get_snoc h1⟩
  ·
   dsimp only at hab
   subst hab
   obtain ⟨t,h1⟩:=hP.root (l++a) S b (by simp)
   refine ⟨t,get_snoc ?_⟩
   rw [hlo]
   rw [flatS_append,List.length_append] at h1
   exact h1
def setAll (o:List Int) (ks:List Nat) (v:Int):List Int:=ks.foldl (fun o k=>o.set k v) o
theorem setAll_length (o:List Int) (ks:List Nat) (v:Int):(setAll o ks v).length=o.length:=by
 unfold setAll
 induction ks generalizing o with
 |nil=>rfl
 |cons k r ih=>rw [List.foldl_cons,ih,List.length_set]
theorem setAll_get (o:List Int) (ks:List Nat) (v:Int) (k:Nat) (hk:k<o.length):(setAll o ks v)[k]? =if k∈ks then some v else o[k]? :=by
 unfold setAll
 induction ks generalizing o with
 |nil=>simp
 |cons j r ih=>
  rw [List.foldl_cons,ih (o.set j v) (by simpa using hk),List.getElem?_set]
  by_cases h1:k∈r
  ·
   simp [h1]
  ·
   by_cases h2:j=k
   ·
    subst h2;simp [hk]
   ·
    simp [h1,h2]
    exact fun e=>absurd e.symm h2
def parStep (o:List Int) (x:(List STree × STree) × Nat):List Int:=setAll (o++ [-1]) (kidsH x.2 x.1) (x.2:Int)
def parH (h:Hist):List Int:=h.zipIdx.foldl parStep []
theorem parH_snoc (h:Hist) (x:List STree × STree):parH (h++ [x])=setAll (parH h++ [-1]) (kidsH h.length x) (h.length:Int):=by
 simp [parH,List.zipIdx_append,parStep]
structure ParOk (st:List STree) (h:Hist):Prop where
 len:(parH h).length=h.length
 kid: ∀ j y,h[j]? =some y→ ∀ k∈kidsH j y,(parH h)[k]? =some (j:Int)
 root: ∀ k∈rootsFrom 0 st,(parH h)[k]? =some (-1)
theorem parOk_step {dn:List Nd} {n:Nd} {st:List STree} {h:Hist} {l top:List STree} (hI:Inv dn st h) (hP:ParOk st h) (hs:stepF n st= .inr (l,top)):ParOk (l++ [nodeF n top]) (h++ [(top,nodeF n top)]):=by
 have hI' :=(hI.step hs).1
 obtain ⟨rfl,hlen,hlo,hl,ht⟩:=hI.facts hs
 have hL:(parH h++ [-1]).length=h.length+1:=by simp [hP.len]
 have hkn: ∀ k∈kidsH h.length (top,nodeF n top),(flatS l).length≤k∧k<h.length:=fun k hk=>by
  rw [kidsH,hlo] at hk
  have:=roots_lt ht hk
  omega
 have hkr: ∀ k,k∈kidsH h.length (top,nodeF n top)↔k∈rootsFrom (0+(flatS l).length) top:=fun k=>by rw [kidsH,hlo,Nat.zero_add]
 refine ⟨by rw [parH_snoc,setAll_length,hL];simp,fun j y hy k hk=> ?_,fun k hk=> ?_⟩
 ·
  have hkj:k<(h++ [(top,nodeF n top)]).length:=by
   obtain ⟨m,_,e2,e3,_,e5,_⟩:=hI'.node j y hy
   have h1:=roots_lt (fun T hT=>(e3 T hT).pos) hk
   have h2:y.2.ns.length=(flatS y.1).length+1:=by rw [e2,nodeF_len]
   have h3:=(List.getElem?_eq_some_iff.1 hy).1
   simp only [lo] at h1
   omega
  rw [parH_snoc,setAll_get _ _ _ _ (by rw [hL];simpa using hkj)]
  rcases snoc_get hy with ⟨hj,hy'⟩|⟨rfl,rfl⟩
  ·
   rw [if_neg]
   ·
    have h1:=hP.kid j y hy' k hk
    rw [List.getElem?_append_left (List.getElem?_eq_some_iff.1 h1).1]
    exact h1
   ·
    intro hm
    have:=hI'.one j h.length y (top,nodeF n top) hy (by simp) k hk hm
    omega
  ·
   rw [if_pos hk]
 ·
  rw [rootsFrom_append] at hk
  rcases List.mem_append.1 hk with hk|hk
  ·
   have h1:=roots_lt hl hk
   rw [parH_snoc,setAll_get _ _ _ _ (by rw [hL];omega),if_neg]
   ·
    have h2:=hP.root k (by rw [rootsFrom_append];exact List.mem_append_left _ hk)
    rw [List.getElem?_append_left (List.getElem?_eq_some_iff.1 h2).1]
    exact h2
   ·
    intro hm
    have:=hkn k hm
    omega
  ·
   simp only [rootsFrom,nodeF_len,List.mem_singleton] at hk
   have hkh:k=h.length:=by omega
   subst hkh
   rw [parH_snoc,setAll_get _ _ _ _ (by rw [hL];omega),if_neg]
   ·
    rw [List.getElem?_append_right (by rw [hP.len];exact Nat.le_refl _),hP.len]
    simp
   ·
    intro hm
    have:=hkn _ hm
    omega
structure Whole (L:List Nd) (S:STree) (h:Hist):Prop where
 walk:walkF L [] []=(0,[S],h)
 ns:S.ns=L
 good:Good S
 inv:Inv L [S] h
 rootOk:RootOk [S] h
 parOk:ParOk [S] h
 pos:0<L.length
 last: ∃ top,h[L.length - 1]? =some (top,S)
theorem whole_of {L:List Nd} {st:List STree} {h:Hist} (hw:walkF L [] []=(0,st,h)): ∃ S,st= [S]∧Whole L S h:=by
 obtain ⟨S,rfl,h1,h2,h3⟩:=walk_good hw
 have h4:=walkF_ind RootOk (fun dn n st h l top=>rootOk_step) L [] [] [] _ _ Inv.nil ⟨fun a S b hab=>(by simp at hab),fun j y hy=>(by simp at hy)⟩ hw
 have h5:=walkF_ind ParOk (fun dn n st h l top=>parOk_step) L [] [] [] _ _ Inv.nil ⟨rfl,fun j y hy=>(by simp at hy),fun k hk=>(by simp [rootsFrom] at hk)⟩ hw
 refine ⟨S,rfl,hw,h1,h2,h3,h4,h5,by rw [← h1];exact h2.pos,?_⟩
 obtain ⟨top,h6⟩:=h4.root [] S [] rfl
 rw [h1] at h6
 simp only [flatS,List.flatMap_nil,List.length_nil,Nat.zero_add] at h6
 exact ⟨top,h6⟩
theorem check_whole {L:List Nd} (h:checkE L=0):L.length≤256∧ ∃ S H,Whole L S H∧S.kind≠3∧checkT L false=(0,visitsOf H):=by
 have hsm:L.length≤256∧0<L.length∧(walkT L L 0 [] []).1=0∧kindAt L (L.length - 1)≠3∧checkT L false=(0,(walkT L L 0 [] []).2):=by
  unfold checkE at h
  unfold checkT at h ⊢
  split at h
  ·
   cases h
  rename_i h1
  split at h
  ·
   cases h
  rename_i h2
  split at h
  ·
   rename_i h3
   exact absurd h h3
  rename_i h3
  split at h
  ·
   cases h
  rename_i h4
  rw [if_neg h1,if_neg h2,if_neg h3,if_neg h4]
  exact ⟨by omega,by omega,by omega,fun e=>h4 ⟨rfl,e⟩,rfl⟩
 obtain ⟨h1,h2,h3,h4,h5⟩:=hsm
 rw [walkT_walkF] at h3 h5
 dsimp only at h3 h5
 have hw:walkF L [] []=(0,(walkF L [] []).2.1,(walkF L [] []).2.2):=by rw [← h3]
 obtain ⟨S,e,hW⟩:=whole_of hw
 refine ⟨h1,S,_,hW,?_,h5⟩
 rw [STree.kind,hW.ns,List.getLast?_eq_getElem?]
 exact h4
end Go.SL
