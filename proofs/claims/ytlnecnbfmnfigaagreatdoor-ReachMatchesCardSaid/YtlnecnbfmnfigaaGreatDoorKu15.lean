/-
  Lemmas and walks, put together: C3 C4 C5 C6.
-/
import Derived.Test.YtlnecnbfmnfigaaGreatDoorKu14
set_option linter.unusedSimpArgs false
set_option linter.unusedVariables false
set_option maxRecDepth 20000
namespace Go.SL
open Go Go.Proofs
attribute [local irreducible] W WL WQ WG WA WX WLI WR WT VOp thn blk bZ scp bA bV ck FnAt FnIn FnP
def tQ (g g2 g3:Nat) (k:Int) (R:List Blk):List Blk:= .box g2 287 [.pointer (some ⟨g,0,none⟩)]:: .box g3 3 [.int .i64 k]::R
theorem HR (f:Nat) (k:Int) (h1:1≤k) (h4:k≤3) (ih:POK f (.level (k+1)) 250 [.int .i64 (k+1)]) (toks:List Tk) (A:Option Nat) (cap:Nat) (fin:Int) (g:Nat) (p:PS) (lv:Value) (B:Option Nat) (cb:Nat) (r:Out) (R:List Blk) (w0:World) (g2 g3:Nat) (hc:toks.length≤cap) (hl:toks.length≤1000) (hat:At toks A cap p lv) (hr:bD fin f (.level (k+1)) p=some r):
  FnP Tryz.prog 289 [.pointer (some ⟨g2,0,none⟩),.pointer (some ⟨g3,0,none⟩)] w0 (pB g lv A cap fin toks B cb p.out++tQ g g2 g3 k R) (PR toks A cap fin g (tQ g g2 g3 k R) r) (PD (tQ g g2 g3 k R) r):=by
 refine wy Tryz.func289 rfl Tryz.ntmps289 rfl ?_
 repeat' (first|(refine bS (f:=250) rfl rfl (ih toks A cap fin g p lv B cb r _ w0 hc hl hat hr) ?_ ?_)|(rintro _ _ ⟨rfl,n,p',lv',B',cb',rfl,h2,rfl⟩)|(rintro _ _ ⟨e,rfl,rfl,h3⟩)|refine sT ?_|refine sP ?_|refine sJ ?_|refine sM fun _=> ?_|(refine sC ?_ ?_<;>intro hb<;>try omega)|exact cT|fail)
 ·
  exact eM (by first|exact .inr rfl|exact .inl rfl) rfl rfl h2 (.refl _)
 ·
  exact dc rfl h3
def MF (f:Nat) (k:Int) (toks:List Tk) (A:Option Nat) (cap:Nat) (fin:Int) (g g2 g3:Nat) (w0:World) (bv:Value):Prop:=
 ∃ (fid:FuncId) (bs caps:List Value),bv= .func (.func fid) bs.toArray caps.toArray∧Callable Tryz.prog fid∧ ∀ (f' :Nat) (p:PS) (lv:Value) (B:Option Nat) (cb:Nat) (r:Out) (R:List Blk),f' ≤f→At toks A cap p lv→bD fin f' (.level (k+1)) p=some r→
  FnP Tryz.prog fid (bs++([]++caps)) w0 (pB g lv A cap fin toks B cb p.out++tQ g g2 g3 k R) (PR toks A cap fin g (tQ g g2 g3 k R) r) (PD (tQ g g2 g3 k R) r)
set_option maxHeartbeats 2000000 in
theorem J6 (f:Nat) (k:Int) (h1:1≤k) (h4:k≤4) (ihL:k≤3→ ∀ f' ≤f,POK f' (.level (k+1)) 250 [.int .i64 (k+1)]) (ihS: ∀ f' ≤f,POK f' .sign 288 []):POK (f+1) (.level k) 250 [.int .i64 k]:=by
  intro toks A cap fin g p lv B cb r R w0 hc hl hat hrun
  refine wy Tryz.func250 rfl Tryz.ntmps250 rfl ?_
  rw [bD,if_neg (by omega)] at hrun
  obtain ⟨r1,hr1,hr2⟩:=bP hrun
  repeat' (first|(apply aj;exact rfl;apply mB;exact rfl)|(rename_i g2 g3;refine FJ (id:=2) [2,3] rfl (ι:=Value) (fun bv=> [(4,bv)]) (fun bv=>MF f k toks A cap fin g g2 g3 w0 bv) ?_ ?_)|refine cL (_) ?_ sB mS|refine sT ?_|refine sP ?_|refine sM fun _=> ?_|(refine sC ?_ ?_<;>intro hb<;>try omega)|exact cT|fail)
  · exact ⟨_,[],_,rfl,inferInstance,fun f' p lv B cb r R hf' hat' hr' =>HR f' k h1 (by omega) (ihL (by omega) f' hf') toks A cap fin g p lv B cb r R w0 _ _ hc hl hat' hr'⟩
  · have hk:k=4:=by omega
    subst hk
    refine ⟨_,_,[],rfl,inferInstance,fun f' p lv B cb r R hf' hat' hr' => ?_⟩
    cases f' with
    |zero=>cases hr'
    |succ f'' =>
      rw [bD,if_pos (by decide)] at hr'
      exact ihS f'' (by omega) toks A cap fin g p lv B cb r _ w0 hc hl hat' hr'
  · rintro bv ⟨fid,bs,caps,rfl,hcl,hbel⟩
    repeat' (first|(refine xF (f:=fid) rfl rfl hcl rfl (FnP.msub (hbel f p lv B cb r1 _ (Ph _) hat hr1) (MSub.pick pK (MSub.pick pK (MSub.pick pK (MSub.pick pK (MSub.pick pK (MSub.refl _))))))) ?_ ?_)|(rintro _ _ ⟨rfl,n,p',lv',B',cb',rfl,h2,rfl⟩)|(rintro _ _ ⟨e,rfl,rfl,h3⟩)|refine sT ?_|refine sP ?_|refine sM fun _=> ?_|(refine sC ?_ ?_<;>intro hb<;>try omega)|exact cT|fail)
    · rcases hr2 with ⟨e,h,_⟩|⟨n1,p1,h,h5⟩
      · cases h
      cases h
      refine ax [2,3,4] rfl (fun _:Nat × PS × Value × Option Nat × Nat=> []) (fun x=>pB g x.2.2.1 A cap fin toks x.2.2.2.1 x.2.2.2.2 x.2.1.out++tQ g g2 g3 k R) (fun x=>x.1≤f∧At toks A cap x.2.1 x.2.2.1∧bD fin x.1 (.loop k) x.2.1=some r) (fun x=>x.1) (f,p',lv',B',cb') ⟨Ph _,h2,h5⟩ sB (.refl _) ?_
      rintro ⟨f',q,lq,Bq,cq⟩ ⟨hf',hq1,hq2⟩
      dsimp only at hf' hq1 hq2 ⊢
      cases f' with
      |zero=>cases hq2
      |succ f' =>
        rw [bD] at hq2
        have hh:=fun w hm=>hq1.head (fin:=fin) (g:=g) (B:=Bq) (cb:=cq) (out:=q.out) (H:=pB g lq A cap fin toks Bq cq q.out++tQ g g2 g3 k R) (w0:=w0) (MSub.pick .hd (.pick .hd (.pick .hd (.nil _)))) w hm
        obtain ⟨t,ht⟩: ∃ t,hdT fin q.l=t:=⟨_,rfl⟩
        rw [ht] at hq2 hh
        by_cases hs:t.kind=8∧gS t.num=k
        · rw [if_pos hs] at hq2
          obtain ⟨hs8,hsk⟩:=hs
          obtain ⟨r2,hr3,hr4⟩:=bP hq2
          repeat' (first|(apply aa (f:=202);exact rfl;exact rfl;exact hh)|(apply aa (f:=290);exact rfl;exact rfl;(intro w' _;exact ye _ w'))|(apply ak (f:=291);exact rfl;exact rfl;exact hq1.skip hc (ht ▸ hs8) (by decide) (MSub.pick pK (MSub.pick pK (MSub.pick pK (MSub.refl _))));rintro _ _ ⟨rfl,lv1,h1',rfl⟩)|(refine xF (f:=fid) rfl rfl hcl rfl (FnP.msub (hbel f' q.skip lv1 Bq cq r2 _ (by omega) (At1.at h1') hr3) (MSub.pick pK (MSub.pick pK (MSub.pick pK (MSub.pick pK (MSub.pick pK (MSub.refl _))))))) ?_ ?_)|(rintro _ _ ⟨rfl,n2,p2,lv2,B2,cb2,rfl,h6,rfl⟩)|(rintro _ _ ⟨e,rfl,rfl,h3⟩)|(apply ak (f:=292);exact rfl;exact rfl;exact FnIn.msub (li (dK 6 t.num) _ _ _ _ _ _ _ _ _ (At.len h6 hl) _ _) (MSub.pick pK (MSub.pick pK (MSub.pick pK (MSub.refl _))));rintro _ _ ⟨rfl,B3,cb3,rfl⟩)|refine sT ?_|refine sP ?_|refine sM fun _=> ?_|(refine sC ?_ ?_<;>intro hb<;>try omega)|exact cT|fail)
          · rcases hr4 with ⟨e,h,_⟩|⟨n3,p3,h,h7⟩
            · cases h
            · cases h
              refine ⟨(f',p2.put (dK 6 t.num),lv2,B3,cb3),⟨by omega,(h1'.grew h6 (jX _ _ _ _ _ _ hr3)).put _,h7⟩,RY _,sB,sB,?_⟩
              dsimp only [tQ,List.cons_append,List.nil_append,pB]
              exact mS
          · rcases hr4 with ⟨e',h,h7⟩|⟨n3,p3,h,h7⟩
            · cases h
              exact dc h7 (MSub.trans (by unfold tQ;exact .drop (.tl (.tl .hd)) (.drop .hd (.drop .hd (.refl _)))) h3)
            · cases h
        · rw [if_neg hs] at hq2
          cases hq2
          repeat' (first|(apply aa (f:=202);exact rfl;exact rfl;exact hh)|(apply aa (f:=290);exact rfl;exact rfl;(intro w' _;exact ye _ w'))|refine sT ?_|refine sP ?_|refine sM fun _=> ?_|(refine sC ?_ ?_<;>intro hb<;>try omega)|exact cT|fail)
          all_goals first
            |(exfalso;omega)
            | (refine eM (B' := Bq) (cb' := cq) (by first | exact .inr rfl | exact .inl rfl) rfl rfl hq1 ?_
               dsimp only [tQ,List.cons_append,List.nil_append,pB]
               exact mS)
    · rcases hr2 with ⟨e',h,h5⟩|⟨n1,p1,h,h5⟩
      · cases h
        exact dc h5 (MSub.trans (by unfold tQ;exact .drop .hd (.drop .hd (.refl _))) h3)
      · cases h
def Mz (F:Int→PS→Option Out) (fid:FuncId) (args:List Value):Prop:=
 ∀ (toks:List Tk) (A:Option Nat) (cap:Nat) (fin:Int) (g:Nat) (p:PS) (lv:Value) (B:Option Nat) (cb:Nat) (r:Out) (R:List Blk) (w0:World),toks.length≤cap→toks.length≤1000→At toks A cap p lv→F fin p=some r→
  FnP Tryz.prog fid (.pointer (some ⟨g,0,none⟩)::args) w0 (pB g lv A cap fin toks B cb p.out++R) (PR toks A cap fin g R r) (PD R r)
def FF (c:Int) (fin:Int) (p:PS):Option Out:=if (hdT fin p.l).kind≠c then some (.error ((hdT fin p.l).at_,4)) else some (.ok (0,p.skip))
theorem zi (c:Int) (h0:c≠0):Mz (FF c) 347 [.int .u8 c]:=by
  intro toks A cap fin g p lv B cb r R w0 hc hl hat hrun
  refine wy Tryz.func347 rfl Tryz.ntmps347 rfl ?_
  have hh:=fun w hm=>hat.head (fin:=fin) (g:=g) (B:=B) (cb:=cb) (out:=p.out) (H:=pB g lv A cap fin toks B cb p.out++R) (w0:=w0) (MSub.pick .hd (.pick .hd (.pick .hd (.nil _)))) w hm
  unfold FF at hrun
  obtain ⟨t,ht⟩: ∃ t,hdT fin p.l=t:=⟨_,rfl⟩
  rw [ht] at hrun hh
  by_cases hk:t.kind≠c
  · rw [if_pos hk] at hrun
    cases hrun
    repeat' (first|(apply aa (f:=202);exact rfl;exact rfl;exact hh)|(refine bS (f:=203) rfl rfl (jy _ _ _ _ _ (fun _ _=>False)) ?_ ?_)|(exact fun _ _ h=>h.elim)|(rintro _ _ ⟨rfl,rfl⟩)|refine sT ?_|refine sP ?_|refine sT2 ?_|refine sM fun _=> ?_|(refine sC ?_ ?_<;>intro hb<;>try omega)|fail)
    all_goals first
      |(exfalso;omega)
      | (refine dc rfl ?_
         dsimp only [List.cons_append,List.nil_append,pB]
         exact mS)
  · rw [if_neg hk] at hrun
    cases hrun
    repeat' (first|(apply aa (f:=202);exact rfl;exact rfl;exact hh)|(apply ak (f:=291);exact rfl;exact rfl;exact hat.skip hc (c:=c) (by rw [ht];omega) h0 (MSub.pick pK (MSub.pick pK (MSub.pick pK (MSub.refl _))));rintro _ _ ⟨rfl,lv1,h1,rfl⟩)|refine sT ?_|refine sP ?_|refine sT2 ?_|refine sM fun _=> ?_|(refine sC ?_ ?_<;>intro hb<;>try omega)|fail)
    all_goals first
      |(exfalso;omega)
      | (refine eM (B' := B) (cb' := cb) (by first | exact .inr rfl | exact .inl rfl) rfl rfl (At1.at h1) ?_
         dsimp only [List.cons_append,List.nil_append,pB]
         exact mS)
theorem qe (v:Vl):Mz (fun fin p=>if (hdT fin p.l).kind=0 then none else some (.ok (0,p.skip.put ⟨1,v,aW,0,0,0⟩))) 346 [.agg (dN v).toArray]:=by
 intro toks A cap fin g p lv B cb r R w0 hc hl hat hrun
 refine wy Tryz.func346 rfl Tryz.ntmps346 rfl ?_
 dsimp only at hrun
 by_cases hk:(hdT fin p.l).kind=0
 ·
  rw [if_pos hk] at hrun;cases hrun
 rw [if_neg hk] at hrun
 cases hrun
 repeat' (first|(apply ak (f:=291);exact rfl;exact rfl;exact hat.skip hc rfl hk (MSub.pick pK (MSub.pick pK (MSub.pick pK (MSub.refl _))));rintro _ _ ⟨rfl,lv1,h1,rfl⟩)|(apply ak (f:=292);exact rfl;exact rfl;exact FnIn.msub (li ⟨1,v,aW,0,0,0⟩ _ _ _ _ _ _ _ _ _ (At.len hat hl) _ _) (MSub.pick pK (MSub.pick pK (MSub.pick pK (MSub.refl _))));rintro _ _ ⟨rfl,B3,cb3,rfl⟩)|refine sT ?_|refine sP ?_|refine sT2 ?_|refine sM fun _=> ?_|(refine sC ?_ ?_<;>intro hb<;>try omega)|fail)
 all_goals
  refine eM (p' :=p.skip.put ⟨1,v,aW,0,0,0⟩) (B' :=B3) (cb' :=cb3) (by first|exact .inr rfl|exact .inl rfl) rfl rfl (h1.put _) ?_
  dsimp only [List.cons_append,List.nil_append,pB]
  exact mS
theorem EY (f:Nat) (ih:POK f (.level 1) 250 [.int .i64 1]):POK f (.level 1) 201 []:=by
 intro toks A cap fin g p lv B cb r R w0 hc hl hat hrun
 refine wy Tryz.func201 rfl Tryz.ntmps201 rfl ?_
 repeat' (first|(refine bS (f:=250) rfl rfl (FnP.msub (ih toks A cap fin g p _ B cb r _ w0 hc hl hat hrun) (MSub.pick pK (MSub.pick pK (MSub.pick pK (MSub.refl _))))) ?_ ?_)|(rintro _ _ ⟨rfl,n,p',lv',B',cb',rfl,h2,rfl⟩)|(rintro _ _ ⟨e,rfl,rfl,h3⟩)|refine sT ?_|refine sP ?_|refine sM fun _=> ?_|(refine sC ?_ ?_<;>intro hb<;>try omega)|fail)
 ·
  exact eM (by first|exact .inr rfl|exact .inl rfl) rfl rfl h2 (.refl _)
 ·
  exact dc rfl h3
def Ao (f:Nat) (fn:Int) (n:Nat) (fin:Int) (p:PS):Option Out:=
 if (hdT fin p.l).kind≠6 then fU (bD fin f (.level 1) p) fun _ p=>some (.ok (0,p))
 else if (kf fn n).1=false∨(kf fn n).2≠0 then some (.error ((hdT fin p.l).at_,4))
 else some (.ok (0,p.skip.put ⟨3,bR,(hdT fin p.l).rect,0,0,0⟩))
theorem Bu {o:Option Out} {k k' :Nat→PS→Option Out}:fU (fU o k) k' =fU o fun n p=>fU (k n p) k' :=by
 match o with
 |none=>rfl
 |some (.ok (n,p))=>rfl
 |some (.error e)=>rfl
theorem Ak (fin:Int) (f:Nat) (fn:Int) (n:Nat) (p:PS):bD fin (f+1) (.args fn n) p=fU (Ao f fn n fin p) fun _ p=>if (hdT fin p.l).kind=11 then bD fin f (.args fn (n+1)) p.skip else some (.ok (n+1,p)):=by
 rw [bD]
 unfold Ao
 split
 ·
  rw [Bu];rfl
 ·
  split<;>rfl
set_option maxHeartbeats 1000000 in
theorem Dm (f:Nat) (fn:Int) (n:Nat) (ih:POK f (.level 1) 201 []):Mz (Ao f fn n) 359 [.int .u8 fn,.int .i64 n]:=by
  intro toks A cap fin g p lv B cb r R w0 hc hl hat hrun
  refine wy Tryz.func359 rfl Tryz.ntmps359 rfl ?_
  have hh:=fun w hm=>hat.head (fin:=fin) (g:=g) (B:=B) (cb:=cb) (out:=p.out) (H:=pB g lv A cap fin toks B cb p.out++R) (w0:=w0) (MSub.pick .hd (.pick .hd (.pick .hd (.nil _)))) w hm
  unfold Ao at hrun
  obtain ⟨t,ht⟩: ∃ t,hdT fin p.l=t:=⟨_,rfl⟩
  rw [ht] at hrun hh
  by_cases hk:t.kind≠6
  · rw [if_pos hk] at hrun
    obtain ⟨r1,hr1,hr2⟩:=bP hrun
    repeat' (first|(apply aa (f:=202);exact rfl;exact rfl;exact hh)|(refine bS (f:=201) rfl rfl (FnP.msub (ih toks A cap fin g p _ B cb r1 _ w0 hc hl hat hr1) (MSub.pick pK (MSub.pick pK (MSub.pick pK (MSub.refl _))))) ?_ ?_)|(rintro _ _ ⟨rfl,n,p',lv',B',cb',rfl,h2,rfl⟩)|(rintro _ _ ⟨e,rfl,rfl,h3⟩)|refine sT ?_|refine sP ?_|refine sT2 ?_|refine sM fun _=> ?_|(refine sC ?_ ?_<;>intro hb<;>try omega)|fail)
    · rcases hr2 with ⟨e,h,_⟩|⟨n1,p1,h,h5⟩
      · cases h
      · cases h
        cases h5
        refine eM (B' :=B') (cb' :=cb') (by first|exact .inr rfl|exact .inl rfl) rfl rfl h2 ?_
        simp only [O8,O3,O4,pB]
        exact mS
    · rcases hr2 with ⟨e',h,h5⟩|⟨n1,p1,h,h5⟩
      · cases h
        exact dc h5 (MSub.trans (.drop .hd (.refl _)) h3)
      · cases h
  · rw [if_neg hk] at hrun
    have hw:=fun w=>FC fn n w
    obtain ⟨wb,we,hwe⟩: ∃ wb we,kf fn n=(wb,we):=⟨_,_,rfl⟩
    rw [hwe] at hrun hw
    by_cases hwk:wb=false∨we≠0
    · rw [if_pos hwk] at hrun
      cases hrun
      repeat' (first|(apply aa (f:=202);exact rfl;exact rfl;exact hh)|(apply aa (f:=317);exact rfl;exact rfl;(intro w' _;exact hw w'))|(refine bS (f:=203) rfl rfl (jy _ _ _ _ _ (fun _ _=>False)) ?_ ?_)|(exact fun _ _ h=>h.elim)|(rintro _ _ ⟨rfl,rfl⟩)|refine sT ?_|refine sP ?_|refine sT2 ?_|refine sM fun _=> ?_|(refine sC ?_ ?_<;>intro hb<;>try omega)|fail)
      all_goals first
        |(exfalso;simp_all<;>omega)
        |(exfalso;omega)
        | (refine dc rfl ?_
           simp only [O8,O3,O4,pB]
           exact mS)
    · rw [if_neg hwk] at hrun
      cases hrun
      repeat' (first|(apply aa (f:=202);exact rfl;exact rfl;exact hh)|(apply aa (f:=317);exact rfl;exact rfl;(intro w' _;exact hw w'))|(apply ak (f:=291);exact rfl;exact rfl;exact hat.skip hc (c:=6) (by rw [ht];omega) (by decide) (MSub.pick pK (MSub.pick pK (MSub.pick pK (MSub.refl _))));rintro _ _ ⟨rfl,lv1,h1,rfl⟩)|(apply ak (f:=292);exact rfl;exact rfl;exact FnIn.msub (li ⟨3,bR,t.rect,0,0,0⟩ _ _ _ _ _ _ _ _ _ (At.len hat hl) _ _) (MSub.pick pK (MSub.pick pK (MSub.pick pK (MSub.refl _))));rintro _ _ ⟨rfl,B3,cb3,rfl⟩)|refine sT ?_|refine sP ?_|refine sT2 ?_|refine sM fun _=> ?_|(refine sC ?_ ?_<;>intro hb<;>try omega)|fail)
      all_goals first
        |(exfalso;simp_all<;>omega)
        |(exfalso;omega)
        | (refine eM (p' := p.skip.put ⟨3, bR, t.rect, 0, 0, 0⟩) (B' := B3) (cb' := cb3) (by first | exact .inr rfl | exact .inl rfl) rfl rfl (h1.put _) ?_
           simp only [O8,O3,O4,pB]
           exact mS)
instance:FldT Tryz.prog 291 0 5 0:=⟨_,_,Tryz.underlying291,rfl,rfl,rfl⟩
theorem sn {f:Nat} {fn:Int} {n:Nat} {fin:Int} {p p' :PS} {m:Nat} (h:Ao f fn n fin p=some (.ok (m,p'))):p.out.length<p'.out.length:=by
 unfold Ao at h
 split at h
 ·
  obtain ⟨m',q,h1,h2⟩:=cJ h
  cases h2
  exact (jX _ _ _ _ _ _ h1).some trivial
 ·
  split at h
  ·
   cases h
  ·
   cases h
   simp [PS.put,PS.skip]
theorem wI {fin:Int} {name:Tk} {fn:Int} {n:Nat} {p:PS} {x:Nd} (hx:p.out[p.out.length - 1]? =some x):dl fin name fn n p=
  if (hdT fin p.l).kind≠10 then some (.error ((hdT fin p.l).at_,4))
  else if (n:Int)<(eG fn).1∨(eG fn).2.1<(n:Int) then some (.error (name.at_,11))
  else if 46≤fn∧x.kind≠2∧x.kind≠3 then some (.error (name.at_,4))
  else some (.ok (0,p.skip.put ⟨7,bR,aW,0,fn,n⟩)):=by
 have hx' :p.out.getLast? =some x:=by rw [QT];exact hx
 unfold dl
 simp only [hx',Qb,Option.some.injEq,decide_eq_true_eq,ne_eq,not_or]
theorem yU {fn:Int} (h1:1≤fn) (h2:fn≤50):1≤(eG fn).1:=by
 unfold eG
 repeat' split
 all_goals first
  |decide
  |(rename_i h;simp [cW,h1,h2] at h)
theorem At.head' {toks:List Tk} {A:Option Nat} {cap:Nat} {fin:Int} {g:Nat} {p:PS} {lv:Value} (h:At toks A cap p lv) {u:Tk} (hu:hdT fin p.l=u) {B:Option Nat} {cb:Nat} {out:List Nd} {H:List Blk} {w0:World} (hH:MSub (pB g lv A cap fin toks B cb out) H) (w:World) (hm:Mem w0 w H):
  aF Tryz.prog 202 [.pointer (some ⟨g,0,none⟩)] w (.agg (bk u).toArray):=hu ▸ At.head h hH w hm
open Classical in
noncomputable def Ah (f:Nat) (t:Tk) (wO:Nat→Tk→Int→PS→Option Out) (fin:Int) (p:PS):Option Out:=if hdT fin p.l=t∧t.kind=7 then wO f t fin p else none
def wO (f:Nat) (t:Tk) (fin:Int) (p:PS):Option Out:=
 if (bf t.text).2≠0 then some (.error (t.at_,10))
 else
  let u:=hdT fin p.skip.l
  if u.kind≠9 then some (.error (u.at_,4))
  else if (hdT fin p.skip.skip.l).kind=10 then dl fin t (bf t.text).1 0 p.skip.skip
  else fU (bD fin f (.args (bf t.text).1 0) p.skip.skip) fun n p=>dl fin t (bf t.text).1 n p
set_option maxHeartbeats 4000000 in
theorem Mo (f:Nat) (t:Tk) (ih: ∀ f' ≤f,POK f' (.level 1) 201 []):Mz (Ah f t wO) 348 [.agg (bk t).toArray]:=by
  intro toks A cap fin g p lv B cb r R w0 hc hl hat hrun
  refine wy Tryz.func348 rfl Tryz.ntmps348 rfl ?_
  unfold Ah at hrun
  by_cases ht: ¬ (hdT fin p.l=t∧t.kind=7)
  · rw [if_neg ht] at hrun;cases hrun
  have ht:=Classical.not_not.1 ht
  rw [if_pos ht] at hrun
  obtain ⟨ht,ht7⟩:=ht
  have hF:=fun w=>Dq t.text w
  unfold wO at hrun
  obtain ⟨fn,fe,hfe⟩: ∃ fn fe,bf t.text=(fn,fe):=⟨_,_,rfl⟩
  have hfn:fe=0→1≤fn∧fn≤50:=by
    intro h
    subst h
    have hb1:=jp du t.text 0 (by omega)
    rw [jn] at hb1
    unfold bf at hfe
    split at hfe<;>cases hfe
    omega
  rw [hfe] at hrun hF
  dsimp only at hF
  by_cases h0:fe≠0
  · rw [if_pos h0] at hrun
    cases hrun
    repeat' (first|(apply aa (f:=358);exact rfl;exact rfl;(intro w' _;exact hF w'))|(refine bS (f:=203) rfl rfl (jy _ _ _ _ _ (fun _ _=>False)) ?_ ?_)|(exact fun _ _ h=>h.elim)|(rintro _ _ ⟨rfl,rfl⟩)|refine sT ?_|refine sP ?_|refine sT2 ?_|refine sM fun _=> ?_|(refine sC ?_ ?_<;>intro hb<;>try omega)|exact cT|fail)
    all_goals first
      |(exfalso;omega)
      | (refine dc rfl ?_
         simp only [O8,O3,O4,pB]
         exact mS)
  rw [if_neg h0] at hrun
  dsimp only at hrun
  obtain ⟨hfn1,hfn2⟩:=hfn (by omega)
  by_cases hw9:(hdT fin p.skip.l).kind≠9
  · rw [if_pos hw9] at hrun
    cases hrun
    repeat' (first|(apply aa (f:=358);exact rfl;exact rfl;(intro w' _;exact hF w'))|(apply ak (f:=291);exact rfl;exact rfl;exact hat.skip hc (c:=7) (by rw [ht];exact ht7) (by decide) (MSub.pick pK (MSub.pick pK (MSub.pick pK (MSub.refl _))));rintro _ _ ⟨rfl,lv1,h1,rfl⟩)|(refine bS (f:=347) rfl rfl (FnP.msub (zi 9 (by decide) toks A cap fin g p.skip lv1 B cb _ _ w0 hc hl (At1.at h1) (by unfold FF;rw [if_pos hw9])) (MSub.pick pK (MSub.pick pK (MSub.pick pK (MSub.refl _))))) ?_ ?_)|(rintro _ _ ⟨rfl,n,p',lv',B',cb',h,h2,rfl⟩;cases h)|(rintro _ _ ⟨e,h,rfl,h3⟩;cases h)|refine sT ?_|refine sP ?_|refine sT2 ?_|refine sM fun _=> ?_|(refine sC ?_ ?_<;>intro hb<;>try omega)|exact cT|fail)
    all_goals first
      |(exfalso;omega)
      | (refine dc rfl (MSub.trans ?_ h3)
         simp only [O8,O3,O4,pB]
         exact mS)
  rw [if_neg hw9] at hrun
  repeat' (first|(apply aa (f:=358);exact rfl;exact rfl;(intro w' _;exact hF w'))|(apply ak (f:=291);exact rfl;exact rfl;exact hat.skip hc (c:=7) (by rw [ht];exact ht7) (by decide) (MSub.pick pK (MSub.pick pK (MSub.pick pK (MSub.refl _))));rintro _ _ ⟨rfl,lv1,h1,rfl⟩)|(refine bS (f:=347) rfl rfl (FnP.msub (zi 9 (by decide) toks A cap fin g p.skip lv1 B cb _ _ w0 hc hl (At1.at h1) (by unfold FF;rw [if_neg hw9])) (MSub.pick pK (MSub.pick pK (MSub.pick pK (MSub.refl _))))) ?_ ?_)|(rintro _ _ ⟨rfl,n,p',lv',B',cb',h,h2,rfl⟩;cases h)|(rintro _ _ ⟨e,h,rfl,h3⟩;cases h)|(rename_i g3;refine FI (id:=7) (ι:=Nat × PS × Value × Option Nat × Nat) [0,3,4] rfl (fun x=> [(6,.int .i64 (x.1:Int))]) (fun x=> .box g3 291 (bk t)::(pB g x.2.2.1 A cap fin toks x.2.2.2.1 x.2.2.2.2 x.2.1.out++R)) (fun x=>x.1≤x.2.1.out.length∧At toks A cap x.2.1 x.2.2.1∧dl fin t fn x.1 x.2.1=some r) ?_ ?_)|refine sT ?_|refine sP ?_|refine sT2 ?_|refine sM fun _=> ?_|(refine sC ?_ ?_<;>intro hb<;>try omega)|exact cT|fail)
  · obtain ⟨u,hu⟩: ∃ u,hdT fin p.skip.skip.l=u:=⟨_,rfl⟩
    rw [hu] at hrun
    by_cases h10:u.kind=10
    · rw [if_pos h10] at hrun
      repeat' (first|(apply aj;exact rfl;apply dz;exact rfl;exact rfl)|(apply aa (f:=202);exact rfl;exact rfl;(intro w' hm';exact At.head' (B:=B') (cb:=cb') (out:=p.skip.skip.out) (g:=g) (fin:=fin) h2 hu (MSub.pick pK (MSub.pick pK (MSub.pick pK (MSub.nil _)))) w' hm'))|refine cL ((0,p.skip.skip,lv',B',cb')) ?_ sB mS|refine sT ?_|refine sP ?_|refine sT2 ?_|refine sM fun _=> ?_|(refine sC ?_ ?_<;>intro hb<;>try omega)|exact cT|fail)
      all_goals first|(exfalso;omega)|exact ⟨Pb _,h2,hrun⟩
    · rw [if_neg h10] at hrun
      obtain ⟨r1,hr1,hr2⟩:=bP hrun
      repeat' (first|(apply aj;exact rfl;apply dz;exact rfl;exact rfl)|(apply aa (f:=202);exact rfl;exact rfl;(intro w' hm';exact At.head' (B:=B') (cb:=cb') (out:=p.skip.skip.out) (g:=g) (fin:=fin) h2 hu (MSub.pick pK (MSub.pick pK (MSub.pick pK (MSub.nil _)))) w' hm'))|refine sT ?_|refine sP ?_|refine sT2 ?_|refine sM fun _=> ?_|(refine sC ?_ ?_<;>intro hb<;>try omega)|exact cT|fail)
      all_goals first
        |(exfalso;omega)
        |skip
      refine ax [0,3,4] rfl (fun x:Nat × Nat × PS × Value × Option Nat × Nat=> [(6,.int .i64 (x.2.1:Int))]) (fun x=> .box g3 291 (bk t)::(pB g x.2.2.2.1 A cap fin toks x.2.2.2.2.1 x.2.2.2.2.2 x.2.2.1.out++R)) (fun x=>x.1≤f∧x.2.1≤x.2.2.1.out.length∧At toks A cap x.2.2.1 x.2.2.2.1∧bD fin x.1 (.args fn x.2.1) x.2.2.1=some r1) (fun x=>x.1) (f,0,p.skip.skip,lv',B',cb') ⟨Ph _,Pb _,h2,hr1⟩ sB ?_ ?_
      · simp only [O8,O3,O4,pB]
        exact mS
      rintro ⟨f',n',q,lq,Bq,cq⟩ ⟨hf',hn',hq1,hq2⟩
      dsimp only at hf' hn' hq1 hq2 ⊢
      cases f' with
      |zero=>cases hq2
      |succ f' =>
        rw [Ak] at hq2
        have hn6:n' ≤1000000:=PK hn' (At.len hq1 hl)
        obtain ⟨r2,hr3,hr4⟩:=bP hq2
        repeat' (first|(refine bS (f:=359) rfl rfl (FnP.msub (Dm f' fn n' (ih f' (by omega)) toks A cap fin g q lq Bq cq r2 _ w0 hc hl hq1 hr3) (MSub.pick pK (MSub.pick pK (MSub.pick pK (MSub.refl _))))) ?_ ?_)|(rintro _ _ ⟨rfl,n2,q2,lv2,B2,cb2,rfl,h6,rfl⟩;obtain ⟨u2,hu2⟩: ∃ u,hdT fin q2.l=u:=⟨_,rfl⟩)|(rintro _ _ ⟨e,rfl,rfl,h3⟩)|(apply aj;exact rfl;apply dz;exact rfl;exact rfl)|(apply aa (f:=202);exact rfl;exact rfl;(intro w' hm';exact At.head' (B:=B2) (cb:=cb2) (out:=q2.out) (g:=g) (fin:=fin) h6 hu2 (MSub.pick pK (MSub.pick pK (MSub.pick pK (MSub.nil _)))) w' hm'))|(apply ak (f:=291);exact rfl;exact rfl;exact h6.skip hc (c:=11) (by rw [hu2];omega) (by decide) (MSub.pick pK (MSub.pick pK (MSub.pick pK (MSub.refl _))));rintro _ _ ⟨rfl,lv3,h7,rfl⟩)|refine cL ((n' +1,q2,lv2,B2,cb2)) ?_ sB mS|refine sT ?_|refine sP ?_|refine sT2 ?_|refine sN ?_|refine sM fun _=> ?_|(refine sC ?_ ?_<;>intro hb<;>try omega)|exact cT|fail)
        · rcases hr4 with ⟨e,h,_⟩|⟨n3,p3,h,h7⟩
          · cases h
          · cases h
            rw [hu2,if_neg (by omega)] at h7
            rcases hr2 with ⟨e,h,_⟩|⟨n4,p4,h,h8⟩
            · rw [h] at h7;cases h7
            · rw [h] at h7
              cases h7
              have:=sn hr3
              exact ⟨by dsimp only;omega,h6,h8⟩
        · rcases hr4 with ⟨e,h,_⟩|⟨n3,p3,h,h7'⟩
          · cases h
          · cases h
            rw [hu2,if_pos (by omega)] at h7'
            have:=sn hr3
            refine ⟨(f',n' +1,q2.skip,lv3,B2,cb2),⟨by dsimp only;omega,by dsimp only [PS.skip];omega,At1.at h7,h7'⟩,Nat.lt_succ_self _,sB,sB,?_⟩
            simp only [O8,O3,O4,pB]
            exact mS
        · rcases hr4 with ⟨e',h,h7⟩|⟨n3,p3,h,h7⟩
          · cases h
            rcases hr2 with ⟨e4,h,h8⟩|⟨n4,p4,h,h8⟩
            · rw [h] at h7
              cases h7
              exact dc h8 (MSub.trans (.drop .hd (.refl _)) h3)
            · rw [h] at h7;cases h7
          · cases h
  · rintro ⟨n,q,lq,Bq,cq⟩ ⟨hn',hq1,hq2⟩
    dsimp only at hn' hq1 hq2 ⊢
    obtain ⟨u,hu⟩: ∃ u,hdT fin q.l=u:=⟨_,rfl⟩
    have hap:=yU hfn1 hfn2
    have hA:=fun w=>wS fn w
    obtain ⟨least,most,ae,hae⟩: ∃ a b c,eG fn=(a,b,c):=⟨_,_,_,rfl⟩
    rw [hae] at hA hap
    dsimp only at hA hap
    by_cases h10:u.kind≠10
    · simp only [dl,hu,if_pos h10] at hq2
      cases hq2
      repeat' (first|(apply aj;exact rfl;apply dz;exact rfl;exact rfl)|(apply aa (f:=202);exact rfl;exact rfl;(intro w' hm';exact At.head' (B:=Bq) (cb:=cq) (out:=q.out) (g:=g) (fin:=fin) hq1 hu (MSub.pick pK (MSub.pick pK (MSub.pick pK (MSub.nil _)))) w' hm'))|(refine bS (f:=203) rfl rfl (jy _ _ _ _ _ (fun _ _=>False)) ?_ ?_)|(exact fun _ _ h=>h.elim)|(rintro _ _ ⟨rfl,rfl⟩)|refine sT ?_|refine sP ?_|refine sT2 ?_|refine sM fun _=> ?_|(refine sC ?_ ?_<;>intro hb<;>try omega)|exact cT|fail)
      all_goals first
        |(exfalso;omega)
        | (refine dc rfl ?_
           simp only [O8,O3,O4,pB]
           exact mS)
    by_cases hlm:(n:Int)<least∨most<(n:Int)
    · simp only [dl,hu,if_neg h10,hae,if_pos hlm] at hq2
      cases hq2
      repeat' (first|(apply aj;exact rfl;apply dz;exact rfl;exact rfl)|(apply aa (f:=202);exact rfl;exact rfl;(intro w' hm';exact At.head' (B:=Bq) (cb:=cq) (out:=q.out) (g:=g) (fin:=fin) hq1 hu (MSub.pick pK (MSub.pick pK (MSub.pick pK (MSub.nil _)))) w' hm'))|(apply aa (f:=316);exact rfl;exact rfl;(intro w' _;exact hA w'))|(refine bS (f:=203) rfl rfl (jy _ _ _ _ _ (fun _ _=>False)) ?_ ?_)|(exact fun _ _ h=>h.elim)|(rintro _ _ ⟨rfl,rfl⟩)|refine sT ?_|refine sP ?_|refine sT2 ?_|refine sM fun _=> ?_|(refine sC ?_ ?_<;>intro hb<;>try omega)|exact cT|fail)
      all_goals first
        |(exfalso;omega)
        | (refine dc rfl ?_
           simp only [O8,O3,O4,pB]
           exact mS)
    have hpos:0<q.out.length:=by omega
    have hol:q.out.length≤1000000:=At.len hq1 hl
    obtain ⟨x,hx⟩: ∃ x,q.out[q.out.length - 1]? =some x:=⟨_,O5 (by omega)⟩
    rw [wI hx,hu,hae,if_neg h10] at hq2
    dsimp only at hq2
    rw [if_neg hlm] at hq2
    refine bW (A:=Bq) (by simp only [O8,O3,O4,pB];exact pK) hpos fun gb hB=> ?_
    subst hB
    by_cases hkx:46≤fn∧x.kind≠2∧x.kind≠3
    · rw [if_pos hkx] at hq2
      cases hq2
      repeat' (first|(apply aj;exact rfl;apply dz;exact rfl;exact rfl)|(apply aa (f:=202);exact rfl;exact rfl;(intro w' hm';exact At.head' (B:=some gb) (cb:=cq) (out:=q.out) (g:=g) (fin:=fin) hq1 hu (MSub.pick pK (MSub.pick pK (MSub.pick pK (MSub.nil _)))) w' hm'))|(apply aa (f:=316);exact rfl;exact rfl;(intro w' _;exact hA w'))|(apply aP;exact rfl;apply dX;exact rfl;exact rfl;exact hpos;(simp only [maxLen];omega))|(apply aP;exact rfl;apply ag;exact rfl;exact rfl;omega)|(apply aP;exact rfl;apply kX (k:=0);exact cE;exact rfl;exact pK;decide;exact hx;exact rfl)|(refine bS (f:=203) rfl rfl (jy _ _ _ _ _ (fun _ _=>False)) ?_ ?_)|(exact fun _ _ h=>h.elim)|(rintro _ _ ⟨rfl,rfl⟩)|refine sT ?_|refine sP ?_|refine sQ ?_|refine sT2 ?_|refine sQ2 ?_|refine sN ?_|refine sNQ ?_|refine sD ?_|refine sM fun _=> ?_|(refine sC ?_ ?_<;>intro hb<;>try omega)|(refine sCQ ?_ ?_<;>intro hb<;>try omega)|exact cT|fail)
      all_goals first
        |(exfalso;omega)
        | (refine dc rfl ?_
           simp only [O8,O3,O4,pB]
           exact mS)
    · rw [if_neg hkx] at hq2
      cases hq2
      repeat' (first|(apply aj;exact rfl;apply dz;exact rfl;exact rfl)|(apply aa (f:=202);exact rfl;exact rfl;(intro w' hm';exact At.head' (B:=some gb) (cb:=cq) (out:=q.out) (g:=g) (fin:=fin) hq1 hu (MSub.pick pK (MSub.pick pK (MSub.pick pK (MSub.nil _)))) w' hm'))|(apply aa (f:=316);exact rfl;exact rfl;(intro w' _;exact hA w'))|(apply aP;exact rfl;apply dX;exact rfl;exact rfl;exact hpos;(simp only [maxLen];omega))|(apply aP;exact rfl;apply ag;exact rfl;exact rfl;omega)|(apply aP;exact rfl;apply kX (k:=0);exact cE;exact rfl;exact pK;decide;exact hx;exact rfl)|(apply ak (f:=291);exact rfl;exact rfl;exact hq1.skip hc (c:=10) (by rw [hu];omega) (by decide) (MSub.pick pK (MSub.pick pK (MSub.pick pK (MSub.refl _))));rintro _ _ ⟨rfl,lv1,h1',rfl⟩)|(apply ak (f:=292);exact rfl;exact rfl;exact FnIn.msub (li ⟨7,bR,aW,0,fn,n⟩ _ _ _ _ _ _ _ _ _ (At.len hq1 hl) _ _) (MSub.pick pK (MSub.pick pK (MSub.pick pK (MSub.refl _))));rintro _ _ ⟨rfl,B3,cb3,rfl⟩)|refine sT ?_|refine sP ?_|refine sQ ?_|refine sT2 ?_|refine sQ2 ?_|refine sN ?_|refine sNQ ?_|refine sD ?_|refine sM fun _=> ?_|(refine sC ?_ ?_<;>intro hb<;>try omega)|(refine sCQ ?_ ?_<;>intro hb<;>try omega)|exact cT|fail)
      all_goals first
        |(exfalso;omega)
        | (refine eM (p' := q.skip.put ⟨7, bR, aW, 0, fn, n⟩) (B' := B3) (cb' := cb3) (by first | exact .inr rfl | exact .inl rfl) rfl rfl (h1'.put _) ?_
           simp only [O8,O3,O4,pB]
           exact mS)
theorem yc (fin:Int) (f:Nat) (p:PS) (h:(hdT fin p.l).kind=7):bD fin (f+1) .prim p=wO f (hdT fin p.l) fin p:=by
 rw [bD]
 dsimp only
 rw [if_neg (by omega),if_neg (by omega),if_neg (by omega),if_pos h]
 rfl
set_option maxHeartbeats 4000000 in
theorem EE (f:Nat) (ih: ∀ f' ≤f,POK f' (.level 1) 201 []):POK (f+1) .prim 335 []:=by
  intro toks A cap fin g p lv B cb r R w0 hc hl hat hrun
  refine wy Tryz.func335 rfl Tryz.ntmps335 rfl ?_
  obtain ⟨t,ht⟩: ∃ t,hdT fin p.l=t:=⟨_,rfl⟩
  have hh:=fun w hm=>At.head' (fin:=fin) (g:=g) (B:=B) (cb:=cb) (out:=p.out) (H:=pB g lv A cap fin toks B cb p.out++R) (w0:=w0) hat ht (MSub.pick .hd (.pick .hd (.pick .hd (.nil _)))) w hm
  by_cases h7:t.kind=7
  · rw [yc _ _ _ (by rw [ht];exact h7),ht] at hrun
    have hcl:=Mo f t ih toks A cap fin g p lv B cb r
    unfold Ah at hcl
    rw [if_pos ⟨ht,h7⟩] at hcl
    repeat' (first|(apply aa (f:=202);exact rfl;exact rfl;exact hh)|(refine bS (f:=348) rfl rfl (FnP.msub (hcl _ w0 hc hl hat hrun) (MSub.pick pK (MSub.pick pK (MSub.pick pK (MSub.refl _))))) ?_ ?_)|(rintro _ _ ⟨rfl,n,p',lv',B',cb',rfl,h2,rfl⟩)|(rintro _ _ ⟨e,rfl,rfl,h3⟩)|refine sT ?_|refine sP ?_|refine sT2 ?_|refine sM fun _=> ?_|(refine sC ?_ ?_<;>intro hb<;>try omega)|fail)
    · refine eM (B' :=B') (cb' :=cb') (by first|exact .inr rfl|exact .inl rfl) rfl rfl h2 ?_
      simp only [O8,O3,O4,pB]
      exact mS
    · exact dc rfl (MSub.trans (.drop .hd (.refl _)) h3)
  rw [bD] at hrun
  dsimp only at hrun
  rw [ht] at hrun
  by_cases h14:1≤t.kind∧t.kind≤4
  · rw [if_pos h14] at hrun
    cases hrun
    rcases (by omega:t.kind=1∨t.kind=2∨t.kind=3∨t.kind=4) with hk|hk|hk|hk
    · repeat' (first|(apply aa (f:=202);exact rfl;exact rfl;exact hh)|(refine bS (f:=346) rfl rfl (FnP.msub (qe ⟨1,t.num,ay⟩ toks A cap fin g p _ B cb (.ok (0,p.skip.put (mP t))) _ w0 hc hl hat (by dsimp only;rw [if_neg (by rw [ht];omega)];simp [mP,hk])) (MSub.pick pK (MSub.pick pK (MSub.pick pK (MSub.refl _))))) ?_ ?_)|(rintro _ _ ⟨rfl,n,p',lv',B',cb',h,h2,rfl⟩)|(rintro _ _ ⟨e,h,rfl,h3⟩;cases h)|refine sT ?_|refine sP ?_|refine sT2 ?_|refine sM fun _=> ?_|(refine sC ?_ ?_<;>intro hb<;>try omega)|fail)
      all_goals first
        |(exfalso;omega)
        | (refine eM (B' := B') (cb' := cb') (by first | exact .inr rfl | exact .inl rfl) rfl h h2 ?_
           simp only [O8,O3,O4,pB]
           exact mS)
    · repeat' (first|(apply aa (f:=202);exact rfl;exact rfl;exact hh)|(refine bS (f:=346) rfl rfl (FnP.msub (qe ⟨3,0,t.text⟩ toks A cap fin g p _ B cb (.ok (0,p.skip.put (mP t))) _ w0 hc hl hat (by dsimp only;rw [if_neg (by rw [ht];omega)];simp [mP,hk])) (MSub.pick pK (MSub.pick pK (MSub.pick pK (MSub.refl _))))) ?_ ?_)|(rintro _ _ ⟨rfl,n,p',lv',B',cb',h,h2,rfl⟩)|(rintro _ _ ⟨e,h,rfl,h3⟩;cases h)|refine sT ?_|refine sP ?_|refine sT2 ?_|refine sM fun _=> ?_|(refine sC ?_ ?_<;>intro hb<;>try omega)|fail)
      all_goals first
        |(exfalso;omega)
        | (refine eM (B' := B') (cb' := cb') (by first | exact .inr rfl | exact .inl rfl) rfl h h2 ?_
           simp only [O8,O3,O4,pB]
           exact mS)
    · repeat' (first|(apply aa (f:=202);exact rfl;exact rfl;exact hh)|(refine bS (f:=346) rfl rfl (FnP.msub (qe ⟨2,t.num,ay⟩ toks A cap fin g p _ B cb (.ok (0,p.skip.put (mP t))) _ w0 hc hl hat (by dsimp only;rw [if_neg (by rw [ht];omega)];simp [mP,hk])) (MSub.pick pK (MSub.pick pK (MSub.pick pK (MSub.refl _))))) ?_ ?_)|(rintro _ _ ⟨rfl,n,p',lv',B',cb',h,h2,rfl⟩)|(rintro _ _ ⟨e,h,rfl,h3⟩;cases h)|refine sT ?_|refine sP ?_|refine sT2 ?_|refine sM fun _=> ?_|(refine sC ?_ ?_<;>intro hb<;>try omega)|fail)
      all_goals first
        |(exfalso;omega)
        | (refine eM (B' := B') (cb' := cb') (by first | exact .inr rfl | exact .inl rfl) rfl h h2 ?_
           simp only [O8,O3,O4,pB]
           exact mS)
    · repeat' (first|(apply aa (f:=202);exact rfl;exact rfl;exact hh)|(refine bS (f:=346) rfl rfl (FnP.msub (qe ⟨4,t.num,ay⟩ toks A cap fin g p _ B cb (.ok (0,p.skip.put (mP t))) _ w0 hc hl hat (by dsimp only;rw [if_neg (by rw [ht];omega)];simp [mP,hk])) (MSub.pick pK (MSub.pick pK (MSub.pick pK (MSub.refl _))))) ?_ ?_)|(rintro _ _ ⟨rfl,n,p',lv',B',cb',h,h2,rfl⟩)|(rintro _ _ ⟨e,h,rfl,h3⟩;cases h)|refine sT ?_|refine sP ?_|refine sT2 ?_|refine sM fun _=> ?_|(refine sC ?_ ?_<;>intro hb<;>try omega)|fail)
      all_goals first
        |(exfalso;omega)
        | (refine eM (B' := B') (cb' := cb') (by first | exact .inr rfl | exact .inl rfl) rfl h h2 ?_
           simp only [O8,O3,O4,pB]
           exact mS)
  rw [if_neg h14] at hrun
  by_cases h5:t.kind=5
  · rw [if_pos h5] at hrun
    cases hrun
    repeat' (first|(apply aa (f:=202);exact rfl;exact rfl;exact hh)|(apply ak (f:=291);exact rfl;exact rfl;exact hat.skip hc (c:=5) (by rw [ht];exact h5) (by decide) (MSub.pick pK (MSub.pick pK (MSub.pick pK (MSub.refl _))));rintro _ _ ⟨rfl,lv1,h1,rfl⟩)|(apply ak (f:=292);exact rfl;exact rfl;exact FnIn.msub (li ⟨2,bR,t.rect,0,0,0⟩ _ _ _ _ _ _ _ _ _ (At.len hat hl) _ _) (MSub.pick pK (MSub.pick pK (MSub.pick pK (MSub.refl _))));rintro _ _ ⟨rfl,B3,cb3,rfl⟩)|refine sT ?_|refine sP ?_|refine sT2 ?_|refine sM fun _=> ?_|(refine sC ?_ ?_<;>intro hb<;>try omega)|fail)
    all_goals first
      |(exfalso;omega)
      | (refine eM (p' := p.skip.put ⟨2, bR, t.rect, 0, 0, 0⟩) (B' := B3) (cb' := cb3) (by first | exact .inr rfl | exact .inl rfl) rfl rfl (h1.put _) ?_
         simp only [O8,O3,O4,pB]
         exact mS)
  rw [if_neg h5] at hrun
  by_cases h9:t.kind=9
  · rw [if_pos h9] at hrun
    obtain ⟨r1,hr1,hr2⟩:=bP hrun
    repeat' (first|(apply aa (f:=202);exact rfl;exact rfl;exact hh)|(apply ak (f:=291);exact rfl;exact rfl;exact hat.skip hc (c:=9) (by rw [ht];exact h9) (by decide) (MSub.pick pK (MSub.pick pK (MSub.pick pK (MSub.refl _))));rintro _ _ ⟨rfl,lv1,h1,rfl⟩)|(refine bS (f:=201) rfl rfl (FnP.msub (ih f (Ph _) toks A cap fin g p.skip _ B cb r1 _ w0 hc hl (At1.at h1) hr1) (MSub.pick pK (MSub.pick pK (MSub.pick pK (MSub.refl _))))) ?_ ?_)|(rintro _ _ ⟨rfl,n,p',lv',B',cb',rfl,h2,rfl⟩)|(rintro _ _ ⟨e,rfl,rfl,h3⟩)|(rcases hr2 with ⟨e,h,_⟩|⟨n1,p1,h,hw⟩;cases h;cases h;refine bS (f:=347) rfl rfl (FnP.msub (zi 10 (by decide) toks A cap fin g p' _ B' cb' r _ w0 hc hl h2 hw) (MSub.pick pK (MSub.pick pK (MSub.pick pK (MSub.refl _))))) ?_ ?_)|refine sT ?_|refine sP ?_|refine sT2 ?_|refine sM fun _=> ?_|(refine sC ?_ ?_<;>intro hb<;>try omega)|fail)
    · refine eM (B' :=B') (cb' :=cb') (by first|exact .inr rfl|exact .inl rfl) rfl rfl h2 ?_
      simp only [O8,O3,O4,pB]
      exact mS
    · exact dc rfl (MSub.trans (.drop .hd (.refl _)) h3)
    · rcases hr2 with ⟨e',h,h5⟩|⟨n1,p1,h,h5⟩
      · cases h
        exact dc h5 (MSub.trans (.drop .hd (.refl _)) h3)
      · cases h
  rw [if_neg h9,if_neg h7] at hrun
  cases hrun
  repeat' (first|(apply aa (f:=202);exact rfl;exact rfl;exact hh)|(refine bS (f:=203) rfl rfl (jy _ _ _ _ _ (fun _ _=>False)) ?_ ?_)|(exact fun _ _ h=>h.elim)|(rintro _ _ ⟨rfl,rfl⟩)|refine sT ?_|refine sP ?_|refine sT2 ?_|refine sM fun _=> ?_|(refine sC ?_ ?_<;>intro hb<;>try omega)|fail)
  all_goals first
    |(exfalso;omega)
    | (refine dc rfl ?_
       simp only [O8,O3,O4,pB]
       exact mS)
theorem HG (f:Nat):(∀ k:Int,1≤k→k≤4→POK f (.level k) 250 [.int .i64 k])∧POK f .sign 288 []∧POK f .pct 315 []∧POK f .prim 335 []∧POK f (.level 1) 201 []:=by
 induction f using Nat.strongRecOn with
 |_ f ih=>
  cases f with
  |zero=>
   refine ⟨fun k _ _=> ?_,?_,?_,?_,?_⟩
   all_goals exact fun toks A cap fin g p lv B cb r R w0 hc hl hat h=>by cases h
  |succ f=>
   have hL: ∀ k:Int,1≤k→k≤4→POK (f+1) (.level k) 250 [.int .i64 k]:=fun k h1 h4=>
    J6 f k h1 h4 (fun h3 f' hf' =>(ih f' (by omega)).1 (k+1) (by omega) (by omega)) (fun f' hf' =>(ih f' (by omega)).2.1)
   refine ⟨hL,LC f (ih f (by omega)).2.1 (ih f (by omega)).2.2.1,EG f (ih f (by omega)).2.2.2.1,EE f (fun f' hf' =>(ih f' (by omega)).2.2.2.2),EY (f+1) (hL 1 (by omega) (by omega))⟩
end Go.SL
