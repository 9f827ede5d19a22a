/-
  Lemmas and walks, put together: C3 C4 C5 C6.
-/
import Derived.Test.YtoanpdoacdpgeaaGreatDoorKr09
set_option linter.unusedSimpArgs false
set_option linter.unusedVariables false
set_option maxRecDepth 20000
namespace Go.SL
open Go Go.Proofs
attribute [local irreducible] W WL WQ WG WA WX WLI WR WT VOp thn blk bo scp aN bf bi aF FnIn FnP
def nF (g g2 g3:Nat) (k:Int) (R:List Blk):List Blk:= .box g2 224 [.pointer (some ⟨g,0,none⟩)]:: .box g3 3 [.int .i64 k]::R
theorem zB (f:Nat) (k:Int) (h1:1≤k) (h4:k≤3) (ih:POK f (.level (k+1)) 226 [.int .i64 (k+1)]) (toks:List Tk) (A:Option Nat) (cap:Nat) (fin:Int) (g:Nat) (p:PS) (lv:Value) (B:Option Nat) (cb:Nat) (r:Out) (R:List Blk) (w0:World) (g2 g3:Nat) (hc:toks.length≤cap) (hl:toks.length≤1000) (hat:At toks A cap p lv) (hr:aX fin f (.level (k+1)) p=some r):
  FnP Tryz.prog 273 [.pointer (some ⟨g2,0,none⟩),.pointer (some ⟨g3,0,none⟩)] w0 (pB g lv A cap fin toks B cb p.out++nF g g2 g3 k R) (PR toks A cap fin g (nF g g2 g3 k R) r) (PD (nF g g2 g3 k R) r):=by
 refine pG Tryz.func273 rfl Tryz.ntmps273 rfl ?_
 repeat' (first|(refine aL (f:=226) rfl rfl (ih toks A cap fin g p lv B cb r _ w0 hc hl hat hr) ?_ ?_)|(rintro _ _ ⟨rfl,n,p',lv',B',cb',rfl,h2,rfl⟩)|(rintro _ _ ⟨e,rfl,rfl,h3⟩)|refine sT ?_|refine sP ?_|refine sJ ?_|refine sM fun _=> ?_|(refine sC ?_ ?_<;>intro hb<;>try omega)|exact cT|fail)
 ·
  exact cB (by first|exact .inr rfl|exact .inl rfl) rfl rfl h2 (.refl _)
 ·
  exact bz rfl h3
def ET (f:Nat) (k:Int) (toks:List Tk) (A:Option Nat) (cap:Nat) (fin:Int) (g g2 g3:Nat) (w0:World) (bv:Value):Prop:=
 ∃ (fid:FuncId) (bs caps:List Value),bv= .func (.func fid) bs.toArray caps.toArray∧Callable Tryz.prog fid∧ ∀ (f' :Nat) (p:PS) (lv:Value) (B:Option Nat) (cb:Nat) (r:Out) (R:List Blk),f' ≤f→At toks A cap p lv→aX fin f' (.level (k+1)) p=some r→
  FnP Tryz.prog fid (bs++([]++caps)) w0 (pB g lv A cap fin toks B cb p.out++nF g g2 g3 k R) (PR toks A cap fin g (nF g g2 g3 k R) r) (PD (nF g g2 g3 k R) r)
set_option maxHeartbeats 2000000 in
theorem Ch (f:Nat) (k:Int) (h1:1≤k) (h4:k≤4) (ihL:k≤3→ ∀ f' ≤f,POK f' (.level (k+1)) 226 [.int .i64 (k+1)]) (ihS: ∀ f' ≤f,POK f' .sign 272 []):POK (f+1) (.level k) 226 [.int .i64 k]:=by
  intro toks A cap fin g p lv B cb r R w0 hc hl hat hrun
  refine pG Tryz.func226 rfl Tryz.ntmps226 rfl ?_
  rw [aX,if_neg (by omega)] at hrun
  obtain ⟨r1,hr1,hr2⟩:=bX hrun
  repeat' (first|(apply aj;exact rfl;apply iB;exact rfl)|(rename_i g2 g3;refine xW (id:=2) [2,3] rfl (ι:=Value) (fun bv=> [(4,bv)]) (fun bv=>ET f k toks A cap fin g g2 g3 w0 bv) ?_ ?_)|refine cH (_) ?_ sB mS|refine sT ?_|refine sP ?_|refine sM fun _=> ?_|(refine sC ?_ ?_<;>intro hb<;>try omega)|exact cT|fail)
  · exact ⟨_,[],_,rfl,inferInstance,fun f' p lv B cb r R hf' hat' hr' =>zB f' k h1 (by omega) (ihL (by omega) f' hf') toks A cap fin g p lv B cb r R w0 _ _ hc hl hat' hr'⟩
  · have hk:k=4:=by omega
    subst hk
    refine ⟨_,_,[],rfl,inferInstance,fun f' p lv B cb r R hf' hat' hr' => ?_⟩
    cases f' with
    |zero=>cases hr'
    |succ f'' =>
      rw [aX,if_pos (by decide)] at hr'
      exact ihS f'' (by omega) toks A cap fin g p lv B cb r _ w0 hc hl hat' hr'
  · rintro bv ⟨fid,bs,caps,rfl,hcl,hbel⟩
    repeat' (first|(refine qx (f:=fid) rfl rfl hcl rfl (FnP.msub (hbel f p lv B cb r1 _ (Ih _) hat hr1) (MSub.pick pK (MSub.pick pK (MSub.pick pK (MSub.pick pK (MSub.pick pK (MSub.refl _))))))) ?_ ?_)|(rintro _ _ ⟨rfl,n,p',lv',B',cb',rfl,h2,rfl⟩)|(rintro _ _ ⟨e,rfl,rfl,h3⟩)|refine sT ?_|refine sP ?_|refine sM fun _=> ?_|(refine sC ?_ ?_<;>intro hb<;>try omega)|exact cT|fail)
    · rcases hr2 with ⟨e,h,_⟩|⟨n1,p1,h,h5⟩
      · cases h
      cases h
      refine ax [2,3,4] rfl (fun _:Nat × PS × Value × Option Nat × Nat=> []) (fun x=>pB g x.2.2.1 A cap fin toks x.2.2.2.1 x.2.2.2.2 x.2.1.out++nF g g2 g3 k R) (fun x=>x.1≤f∧At toks A cap x.2.1 x.2.2.1∧aX fin x.1 (.loop k) x.2.1=some r) (fun x=>x.1) (f,p',lv',B',cb') ⟨Ih _,h2,h5⟩ sB (.refl _) ?_
      rintro ⟨f',q,lq,Bq,cq⟩ ⟨hf',hq1,hq2⟩
      dsimp only at hf' hq1 hq2 ⊢
      cases f' with
      |zero=>cases hq2
      |succ f' =>
        rw [aX] at hq2
        have hh:=fun w hm=>hq1.head (fin:=fin) (g:=g) (B:=Bq) (cb:=cq) (out:=q.out) (H:=pB g lq A cap fin toks Bq cq q.out++nF g g2 g3 k R) (w0:=w0) (MSub.pick .hd (.pick .hd (.pick .hd (.nil _)))) w hm
        obtain ⟨t,ht⟩: ∃ t,hdT fin q.l=t:=⟨_,rfl⟩
        rw [ht] at hq2 hh
        by_cases hs:t.kind=8∧pX t.num=k
        · rw [if_pos hs] at hq2
          obtain ⟨hs8,hsk⟩:=hs
          obtain ⟨r2,hr3,hr4⟩:=bX hq2
          repeat' (first|(apply ah (f:=177);exact rfl;exact rfl;exact hh)|(apply ah (f:=274);exact rfl;exact rfl;(intro w' _;exact qY _ w'))|(apply aB (f:=275);exact rfl;exact rfl;exact hq1.skip hc (ht ▸ hs8) (by decide) (MSub.pick pK (MSub.pick pK (MSub.pick pK (MSub.refl _))));rintro _ _ ⟨rfl,lv1,h1',rfl⟩)|(refine qx (f:=fid) rfl rfl hcl rfl (FnP.msub (hbel f' q.skip lv1 Bq cq r2 _ (by omega) (At1.at h1') hr3) (MSub.pick pK (MSub.pick pK (MSub.pick pK (MSub.pick pK (MSub.pick pK (MSub.refl _))))))) ?_ ?_)|(rintro _ _ ⟨rfl,n2,p2,lv2,B2,cb2,rfl,h6,rfl⟩)|(rintro _ _ ⟨e,rfl,rfl,h3⟩)|(apply aB (f:=276);exact rfl;exact rfl;exact FnIn.msub (gk (dw 6 t.num) _ _ _ _ _ _ _ _ _ (At.len h6 hl) _ _) (MSub.pick pK (MSub.pick pK (MSub.pick pK (MSub.refl _))));rintro _ _ ⟨rfl,B3,cb3,rfl⟩)|refine sT ?_|refine sP ?_|refine sM fun _=> ?_|(refine sC ?_ ?_<;>intro hb<;>try omega)|exact cT|fail)
          · rcases hr4 with ⟨e,h,_⟩|⟨n3,p3,h,h7⟩
            · cases h
            · cases h
              refine ⟨(f',p2.put (dw 6 t.num),lv2,B3,cb3),⟨by omega,(h1'.grew h6 (fB _ _ _ _ _ _ hr3)).put _,h7⟩,Kl _,sB,sB,?_⟩
              dsimp only [nF,List.cons_append,List.nil_append,pB]
              exact mS
          · rcases hr4 with ⟨e',h,h7⟩|⟨n3,p3,h,h7⟩
            · cases h
              exact bz h7 (MSub.trans (by unfold nF;exact .drop (.tl (.tl .hd)) (.drop .hd (.drop .hd (.refl _)))) h3)
            · cases h
        · rw [if_neg hs] at hq2
          cases hq2
          repeat' (first|(apply ah (f:=177);exact rfl;exact rfl;exact hh)|(apply ah (f:=274);exact rfl;exact rfl;(intro w' _;exact qY _ w'))|refine sT ?_|refine sP ?_|refine sM fun _=> ?_|(refine sC ?_ ?_<;>intro hb<;>try omega)|exact cT|fail)
          all_goals first
            |(exfalso;omega)
            | (refine cB (B' := Bq) (cb' := cq) (by first | exact .inr rfl | exact .inl rfl) rfl rfl hq1 ?_
               dsimp only [nF,List.cons_append,List.nil_append,pB]
               exact mS)
    · rcases hr2 with ⟨e',h,h5⟩|⟨n1,p1,h,h5⟩
      · cases h
        exact bz h5 (MSub.trans (by unfold nF;exact .drop .hd (.drop .hd (.refl _))) h3)
      · cases h
def EO (F:Int→PS→Option Out) (fid:FuncId) (args:List Value):Prop:=
 ∀ (toks:List Tk) (A:Option Nat) (cap:Nat) (fin:Int) (g:Nat) (p:PS) (lv:Value) (B:Option Nat) (cb:Nat) (r:Out) (R:List Blk) (w0:World),toks.length≤cap→toks.length≤1000→At toks A cap p lv→F fin p=some r→
  FnP Tryz.prog fid (.pointer (some ⟨g,0,none⟩)::args) w0 (pB g lv A cap fin toks B cb p.out++R) (PR toks A cap fin g R r) (PD R r)
def xT (c:Int) (fin:Int) (p:PS):Option Out:=if (hdT fin p.l).kind≠c then some (.error ((hdT fin p.l).at_,4)) else some (.ok (0,p.skip))
theorem rO (c:Int) (h0:c≠0):EO (xT c) 355 [.int .u8 c]:=by
  intro toks A cap fin g p lv B cb r R w0 hc hl hat hrun
  refine pG Tryz.func355 rfl Tryz.ntmps355 rfl ?_
  have hh:=fun w hm=>hat.head (fin:=fin) (g:=g) (B:=B) (cb:=cb) (out:=p.out) (H:=pB g lv A cap fin toks B cb p.out++R) (w0:=w0) (MSub.pick .hd (.pick .hd (.pick .hd (.nil _)))) w hm
  unfold xT at hrun
  obtain ⟨t,ht⟩: ∃ t,hdT fin p.l=t:=⟨_,rfl⟩
  rw [ht] at hrun hh
  by_cases hk:t.kind≠c
  · rw [if_pos hk] at hrun
    cases hrun
    repeat' (first|(apply ah (f:=177);exact rfl;exact rfl;exact hh)|(refine aL (f:=178) rfl rfl (eO _ _ _ _ _ (fun _ _=>False)) ?_ ?_)|(exact fun _ _ h=>h.elim)|(rintro _ _ ⟨rfl,rfl⟩)|refine sT ?_|refine sP ?_|refine sM fun _=> ?_|(refine sC ?_ ?_<;>intro hb<;>try omega)|fail)
    all_goals first
      |(exfalso;omega)
      | (refine bz rfl ?_
         dsimp only [List.cons_append,List.nil_append,pB]
         exact mS)
  · rw [if_neg hk] at hrun
    cases hrun
    repeat' (first|(apply ah (f:=177);exact rfl;exact rfl;exact hh)|(apply aB (f:=275);exact rfl;exact rfl;exact hat.skip hc (c:=c) (by rw [ht];omega) h0 (MSub.pick pK (MSub.pick pK (MSub.pick pK (MSub.refl _))));rintro _ _ ⟨rfl,lv1,h1,rfl⟩)|refine sT ?_|refine sP ?_|refine sM fun _=> ?_|(refine sC ?_ ?_<;>intro hb<;>try omega)|fail)
    all_goals first
      |(exfalso;omega)
      | (refine cB (B' := B) (cb' := cb) (by first | exact .inr rfl | exact .inl rfl) rfl rfl (At1.at h1) ?_
         dsimp only [List.cons_append,List.nil_append,pB]
         exact mS)
theorem kX (v:Vl):EO (fun fin p=>if (hdT fin p.l).kind=0 then none else some (.ok (0,p.skip.put ⟨1,v,aZ,0,0,0⟩))) 354 [.agg (cL v).toArray]:=by
 intro toks A cap fin g p lv B cb r R w0 hc hl hat hrun
 refine pG Tryz.func354 rfl Tryz.ntmps354 rfl ?_
 dsimp only at hrun
 by_cases hk:(hdT fin p.l).kind=0
 ·
  rw [if_pos hk] at hrun;cases hrun
 rw [if_neg hk] at hrun
 cases hrun
 repeat' (first|(apply aB (f:=275);exact rfl;exact rfl;exact hat.skip hc rfl hk (MSub.pick pK (MSub.pick pK (MSub.pick pK (MSub.refl _))));rintro _ _ ⟨rfl,lv1,h1,rfl⟩)|(apply aB (f:=276);exact rfl;exact rfl;exact FnIn.msub (gk ⟨1,v,aZ,0,0,0⟩ _ _ _ _ _ _ _ _ _ (At.len hat hl) _ _) (MSub.pick pK (MSub.pick pK (MSub.pick pK (MSub.refl _))));rintro _ _ ⟨rfl,B3,cb3,rfl⟩)|refine sT ?_|refine sP ?_|refine sM fun _=> ?_|(refine sC ?_ ?_<;>intro hb<;>try omega)|fail)
 all_goals
  refine cB (p' :=p.skip.put ⟨1,v,aZ,0,0,0⟩) (B' :=B3) (cb' :=cb3) (by first|exact .inr rfl|exact .inl rfl) rfl rfl (h1.put _) ?_
  dsimp only [List.cons_append,List.nil_append,pB]
  exact mS
theorem xe (f:Nat) (ih:POK f (.level 1) 226 [.int .i64 1]):POK f (.level 1) 176 []:=by
 intro toks A cap fin g p lv B cb r R w0 hc hl hat hrun
 refine pG Tryz.func176 rfl Tryz.ntmps176 rfl ?_
 repeat' (first|(refine aL (f:=226) rfl rfl (FnP.msub (ih toks A cap fin g p _ B cb r _ w0 hc hl hat hrun) (MSub.pick pK (MSub.pick pK (MSub.pick pK (MSub.refl _))))) ?_ ?_)|(rintro _ _ ⟨rfl,n,p',lv',B',cb',rfl,h2,rfl⟩)|(rintro _ _ ⟨e,rfl,rfl,h3⟩)|refine sT ?_|refine sP ?_|refine sM fun _=> ?_|(refine sC ?_ ?_<;>intro hb<;>try omega)|fail)
 ·
  exact cB (by first|exact .inr rfl|exact .inl rfl) rfl rfl h2 (.refl _)
 ·
  exact bz rfl h3
def z7 (f:Nat) (fn:Int) (n:Nat) (fin:Int) (p:PS):Option Out:=
 if (hdT fin p.l).kind≠6 then dq (aX fin f (.level 1) p) fun _ p=>some (.ok (0,p))
 else if (kW fn n).1=false∨(kW fn n).2≠0 then some (.error ((hdT fin p.l).at_,4))
 else some (.ok (0,p.skip.put ⟨3,bD,(hdT fin p.l).rect,0,0,0⟩))
theorem uk {o:Option Out} {k k' :Nat→PS→Option Out}:dq (dq o k) k' =dq o fun n p=>dq (k n p) k' :=by
 match o with
 |none=>rfl
 |some (.ok (n,p))=>rfl
 |some (.error e)=>rfl
theorem EG (fin:Int) (f:Nat) (fn:Int) (n:Nat) (p:PS):aX fin (f+1) (.args fn n) p=dq (z7 f fn n fin p) fun _ p=>if (hdT fin p.l).kind=11 then aX fin f (.args fn (n+1)) p.skip else some (.ok (n+1,p)):=by
 rw [aX]
 unfold z7
 split
 ·
  rw [uk];rfl
 ·
  split<;>rfl
set_option maxHeartbeats 1000000 in
theorem vN (f:Nat) (fn:Int) (n:Nat) (ih:POK f (.level 1) 176 []):EO (z7 f fn n) 371 [.int .u8 fn,.int .i64 n]:=by
  intro toks A cap fin g p lv B cb r R w0 hc hl hat hrun
  refine pG Tryz.func371 rfl Tryz.ntmps371 rfl ?_
  have hh:=fun w hm=>hat.head (fin:=fin) (g:=g) (B:=B) (cb:=cb) (out:=p.out) (H:=pB g lv A cap fin toks B cb p.out++R) (w0:=w0) (MSub.pick .hd (.pick .hd (.pick .hd (.nil _)))) w hm
  unfold z7 at hrun
  obtain ⟨t,ht⟩: ∃ t,hdT fin p.l=t:=⟨_,rfl⟩
  rw [ht] at hrun hh
  by_cases hk:t.kind≠6
  · rw [if_pos hk] at hrun
    obtain ⟨r1,hr1,hr2⟩:=bX hrun
    repeat' (first|(apply ah (f:=177);exact rfl;exact rfl;exact hh)|(refine aL (f:=176) rfl rfl (FnP.msub (ih toks A cap fin g p _ B cb r1 _ w0 hc hl hat hr1) (MSub.pick pK (MSub.pick pK (MSub.pick pK (MSub.refl _))))) ?_ ?_)|(rintro _ _ ⟨rfl,n,p',lv',B',cb',rfl,h2,rfl⟩)|(rintro _ _ ⟨e,rfl,rfl,h3⟩)|refine sT ?_|refine sP ?_|refine sM fun _=> ?_|(refine sC ?_ ?_<;>intro hb<;>try omega)|fail)
    · rcases hr2 with ⟨e,h,_⟩|⟨n1,p1,h,h5⟩
      · cases h
      · cases h
        cases h5
        refine cB (B' :=B') (cb' :=cb') (by first|exact .inr rfl|exact .inl rfl) rfl rfl h2 ?_
        simp only [Ij,HW,HZ,pB]
        exact mS
    · rcases hr2 with ⟨e',h,h5⟩|⟨n1,p1,h,h5⟩
      · cases h
        exact bz h5 (MSub.trans (.drop .hd (.refl _)) h3)
      · cases h
  · rw [if_neg hk] at hrun
    have hw:=fun w=>xQ fn n w
    obtain ⟨wb,we,hwe⟩: ∃ wb we,kW fn n=(wb,we):=⟨_,_,rfl⟩
    rw [hwe] at hrun hw
    by_cases hwk:wb=false∨we≠0
    · rw [if_pos hwk] at hrun
      cases hrun
      repeat' (first|(apply ah (f:=177);exact rfl;exact rfl;exact hh)|(apply ah (f:=337);exact rfl;exact rfl;(intro w' _;exact hw w'))|(refine aL (f:=178) rfl rfl (eO _ _ _ _ _ (fun _ _=>False)) ?_ ?_)|(exact fun _ _ h=>h.elim)|(rintro _ _ ⟨rfl,rfl⟩)|refine sT ?_|refine sP ?_|refine sM fun _=> ?_|(refine sC ?_ ?_<;>intro hb<;>try omega)|fail)
      all_goals first
        |(exfalso;simp_all<;>omega)
        |(exfalso;omega)
        | (refine bz rfl ?_
           simp only [Ij,HW,HZ,pB]
           exact mS)
    · rw [if_neg hwk] at hrun
      cases hrun
      repeat' (first|(apply ah (f:=177);exact rfl;exact rfl;exact hh)|(apply ah (f:=337);exact rfl;exact rfl;(intro w' _;exact hw w'))|(apply aB (f:=275);exact rfl;exact rfl;exact hat.skip hc (c:=6) (by rw [ht];omega) (by decide) (MSub.pick pK (MSub.pick pK (MSub.pick pK (MSub.refl _))));rintro _ _ ⟨rfl,lv1,h1,rfl⟩)|(apply aB (f:=276);exact rfl;exact rfl;exact FnIn.msub (gk ⟨3,bD,t.rect,0,0,0⟩ _ _ _ _ _ _ _ _ _ (At.len hat hl) _ _) (MSub.pick pK (MSub.pick pK (MSub.pick pK (MSub.refl _))));rintro _ _ ⟨rfl,B3,cb3,rfl⟩)|refine sT ?_|refine sP ?_|refine sM fun _=> ?_|(refine sC ?_ ?_<;>intro hb<;>try omega)|fail)
      all_goals first
        |(exfalso;simp_all<;>omega)
        |(exfalso;omega)
        | (refine cB (p' := p.skip.put ⟨3, bD, t.rect, 0, 0, 0⟩) (B' := B3) (cb' := cb3) (by first | exact .inr rfl | exact .inl rfl) rfl rfl (h1.put _) ?_
           simp only [Ij,HW,HZ,pB]
           exact mS)
instance:FldT Tryz.prog 228 0 5 0:=⟨_,_,Tryz.underlying228,rfl,rfl,rfl⟩
theorem rC {f:Nat} {fn:Int} {n:Nat} {fin:Int} {p p' :PS} {m:Nat} (h:z7 f fn n fin p=some (.ok (m,p'))):p.out.length<p'.out.length:=by
 unfold z7 at h
 split at h
 ·
  obtain ⟨m',q,h1,h2⟩:=dB h
  cases h2
  exact (fB _ _ _ _ _ _ h1).some trivial
 ·
  split at h
  ·
   cases h
  ·
   cases h
   simp [PS.put,PS.skip]
theorem xn {fin:Int} {name:Tk} {fn:Int} {n:Nat} {p:PS} {x:Nd} (hx:p.out[p.out.length - 1]? =some x):cC fin name fn n p=
  if (hdT fin p.l).kind≠10 then some (.error ((hdT fin p.l).at_,4))
  else if (n:Int)<(dP fn).1∨(dP fn).2.1<(n:Int) then some (.error (name.at_,11))
  else if 46≤fn∧x.kind≠2∧x.kind≠3 then some (.error (name.at_,4))
  else some (.ok (0,p.skip.put ⟨7,bD,aZ,0,fn,n⟩)):=by
 have hx' :p.out.getLast? =some x:=by rw [Kg];exact hx
 unfold cC
 simp only [hx',Jk,Option.some.injEq,decide_eq_true_eq,ne_eq,not_or]
theorem z6 {fn:Int} (h1:1≤fn) (h2:fn≤50):1≤(dP fn).1:=by
 unfold dP
 repeat' split
 all_goals first
  |decide
  |(rename_i h;simp [sL,h1,h2] at h)
theorem At.head' {toks:List Tk} {A:Option Nat} {cap:Nat} {fin:Int} {g:Nat} {p:PS} {lv:Value} (h:At toks A cap p lv) {u:Tk} (hu:hdT fin p.l=u) {B:Option Nat} {cb:Nat} {out:List Nd} {H:List Blk} {w0:World} (hH:MSub (pB g lv A cap fin toks B cb out) H) (w:World) (hm:Mem w0 w H):
  ay Tryz.prog 177 [.pointer (some ⟨g,0,none⟩)] w (.agg (cG u).toArray):=hu ▸ At.head h hH w hm
open Classical in
noncomputable def tu (f:Nat) (t:Tk) (vG:Nat→Tk→Int→PS→Option Out) (fin:Int) (p:PS):Option Out:=if hdT fin p.l=t∧t.kind=7 then vG f t fin p else none
def vG (f:Nat) (t:Tk) (fin:Int) (p:PS):Option Out:=
 if (bE t.text).2≠0 then some (.error (t.at_,10))
 else
  let u:=hdT fin p.skip.l
  if u.kind≠9 then some (.error (u.at_,4))
  else if (hdT fin p.skip.skip.l).kind=10 then cC fin t (bE t.text).1 0 p.skip.skip
  else dq (aX fin f (.args (bE t.text).1 0) p.skip.skip) fun n p=>cC fin t (bE t.text).1 n p
set_option maxHeartbeats 4000000 in
theorem EF (f:Nat) (t:Tk) (ih: ∀ f' ≤f,POK f' (.level 1) 176 []):EO (tu f t vG) 356 [.agg (cG t).toArray]:=by
  intro toks A cap fin g p lv B cb r R w0 hc hl hat hrun
  refine pG Tryz.func356 rfl Tryz.ntmps356 rfl ?_
  unfold tu at hrun
  by_cases ht: ¬ (hdT fin p.l=t∧t.kind=7)
  · rw [if_neg ht] at hrun;cases hrun
  have ht:=Classical.not_not.1 ht
  rw [if_pos ht] at hrun
  obtain ⟨ht,ht7⟩:=ht
  have hF:=fun w=>vX t.text w
  unfold vG at hrun
  obtain ⟨fn,fe,hfe⟩: ∃ fn fe,bE t.text=(fn,fe):=⟨_,_,rfl⟩
  have hfn:fe=0→1≤fn∧fn≤50:=by
    intro h
    subst h
    have hb1:=j3 gJ t.text 0 (by omega)
    rw [jY] at hb1
    unfold bE at hfe
    split at hfe<;>cases hfe
    omega
  rw [hfe] at hrun hF
  dsimp only at hF
  by_cases h0:fe≠0
  · rw [if_pos h0] at hrun
    cases hrun
    repeat' (first|(apply ah (f:=370);exact rfl;exact rfl;(intro w' _;exact hF w'))|(refine aL (f:=178) rfl rfl (eO _ _ _ _ _ (fun _ _=>False)) ?_ ?_)|(exact fun _ _ h=>h.elim)|(rintro _ _ ⟨rfl,rfl⟩)|refine sT ?_|refine sP ?_|refine sM fun _=> ?_|(refine sC ?_ ?_<;>intro hb<;>try omega)|exact cT|fail)
    all_goals first
      |(exfalso;omega)
      | (refine bz rfl ?_
         simp only [Ij,HW,HZ,pB]
         exact mS)
  rw [if_neg h0] at hrun
  dsimp only at hrun
  obtain ⟨hfn1,hfn2⟩:=hfn (by omega)
  by_cases hw9:(hdT fin p.skip.l).kind≠9
  · rw [if_pos hw9] at hrun
    cases hrun
    repeat' (first|(apply ah (f:=370);exact rfl;exact rfl;(intro w' _;exact hF w'))|(apply aB (f:=275);exact rfl;exact rfl;exact hat.skip hc (c:=7) (by rw [ht];exact ht7) (by decide) (MSub.pick pK (MSub.pick pK (MSub.pick pK (MSub.refl _))));rintro _ _ ⟨rfl,lv1,h1,rfl⟩)|(refine aL (f:=355) rfl rfl (FnP.msub (rO 9 (by decide) toks A cap fin g p.skip lv1 B cb _ _ w0 hc hl (At1.at h1) (by unfold xT;rw [if_pos hw9])) (MSub.pick pK (MSub.pick pK (MSub.pick pK (MSub.refl _))))) ?_ ?_)|(rintro _ _ ⟨rfl,n,p',lv',B',cb',h,h2,rfl⟩;cases h)|(rintro _ _ ⟨e,h,rfl,h3⟩;cases h)|refine sT ?_|refine sP ?_|refine sM fun _=> ?_|(refine sC ?_ ?_<;>intro hb<;>try omega)|exact cT|fail)
    all_goals first
      |(exfalso;omega)
      | (refine bz rfl (MSub.trans ?_ h3)
         simp only [Ij,HW,HZ,pB]
         exact mS)
  rw [if_neg hw9] at hrun
  repeat' (first|(apply ah (f:=370);exact rfl;exact rfl;(intro w' _;exact hF w'))|(apply aB (f:=275);exact rfl;exact rfl;exact hat.skip hc (c:=7) (by rw [ht];exact ht7) (by decide) (MSub.pick pK (MSub.pick pK (MSub.pick pK (MSub.refl _))));rintro _ _ ⟨rfl,lv1,h1,rfl⟩)|(refine aL (f:=355) rfl rfl (FnP.msub (rO 9 (by decide) toks A cap fin g p.skip lv1 B cb _ _ w0 hc hl (At1.at h1) (by unfold xT;rw [if_neg hw9])) (MSub.pick pK (MSub.pick pK (MSub.pick pK (MSub.refl _))))) ?_ ?_)|(rintro _ _ ⟨rfl,n,p',lv',B',cb',h,h2,rfl⟩;cases h)|(rintro _ _ ⟨e,h,rfl,h3⟩;cases h)|(rename_i g3;refine Dn (id:=7) (ι:=Nat × PS × Value × Option Nat × Nat) [0,3,4] rfl (fun x=> [(6,.int .i64 (x.1:Int))]) (fun x=> .box g3 228 (cG t)::(pB g x.2.2.1 A cap fin toks x.2.2.2.1 x.2.2.2.2 x.2.1.out++R)) (fun x=>x.1≤x.2.1.out.length∧At toks A cap x.2.1 x.2.2.1∧cC fin t fn x.1 x.2.1=some r) ?_ ?_)|refine sT ?_|refine sP ?_|refine sM fun _=> ?_|(refine sC ?_ ?_<;>intro hb<;>try omega)|exact cT|fail)
  · obtain ⟨u,hu⟩: ∃ u,hdT fin p.skip.skip.l=u:=⟨_,rfl⟩
    rw [hu] at hrun
    by_cases h10:u.kind=10
    · rw [if_pos h10] at hrun
      repeat' (first|(apply aj;exact rfl;apply f4;exact rfl;exact rfl)|(apply ah (f:=177);exact rfl;exact rfl;(intro w' hm';exact At.head' (B:=B') (cb:=cb') (out:=p.skip.skip.out) (g:=g) (fin:=fin) h2 hu (MSub.pick pK (MSub.pick pK (MSub.pick pK (MSub.nil _)))) w' hm'))|refine cH ((0,p.skip.skip,lv',B',cb')) ?_ sB mS|refine sT ?_|refine sP ?_|refine sM fun _=> ?_|(refine sC ?_ ?_<;>intro hb<;>try omega)|exact cT|fail)
      all_goals first|(exfalso;omega)|exact ⟨H5 _,h2,hrun⟩
    · rw [if_neg h10] at hrun
      obtain ⟨r1,hr1,hr2⟩:=bX hrun
      repeat' (first|(apply aj;exact rfl;apply f4;exact rfl;exact rfl)|(apply ah (f:=177);exact rfl;exact rfl;(intro w' hm';exact At.head' (B:=B') (cb:=cb') (out:=p.skip.skip.out) (g:=g) (fin:=fin) h2 hu (MSub.pick pK (MSub.pick pK (MSub.pick pK (MSub.nil _)))) w' hm'))|refine sT ?_|refine sP ?_|refine sM fun _=> ?_|(refine sC ?_ ?_<;>intro hb<;>try omega)|exact cT|fail)
      all_goals first
        |(exfalso;omega)
        |skip
      refine ax [0,3,4] rfl (fun x:Nat × Nat × PS × Value × Option Nat × Nat=> [(6,.int .i64 (x.2.1:Int))]) (fun x=> .box g3 228 (cG t)::(pB g x.2.2.2.1 A cap fin toks x.2.2.2.2.1 x.2.2.2.2.2 x.2.2.1.out++R)) (fun x=>x.1≤f∧x.2.1≤x.2.2.1.out.length∧At toks A cap x.2.2.1 x.2.2.2.1∧aX fin x.1 (.args fn x.2.1) x.2.2.1=some r1) (fun x=>x.1) (f,0,p.skip.skip,lv',B',cb') ⟨Ih _,H5 _,h2,hr1⟩ sB ?_ ?_
      · simp only [Ij,HW,HZ,pB]
        exact mS
      rintro ⟨f',n',q,lq,Bq,cq⟩ ⟨hf',hn',hq1,hq2⟩
      dsimp only at hf' hn' hq1 hq2 ⊢
      cases f' with
      |zero=>cases hq2
      |succ f' =>
        rw [EG] at hq2
        have hn6:n' ≤1000000:=IW hn' (At.len hq1 hl)
        obtain ⟨r2,hr3,hr4⟩:=bX hq2
        repeat' (first|(refine aL (f:=371) rfl rfl (FnP.msub (vN f' fn n' (ih f' (by omega)) toks A cap fin g q lq Bq cq r2 _ w0 hc hl hq1 hr3) (MSub.pick pK (MSub.pick pK (MSub.pick pK (MSub.refl _))))) ?_ ?_)|(rintro _ _ ⟨rfl,n2,q2,lv2,B2,cb2,rfl,h6,rfl⟩;obtain ⟨u2,hu2⟩: ∃ u,hdT fin q2.l=u:=⟨_,rfl⟩)|(rintro _ _ ⟨e,rfl,rfl,h3⟩)|(apply aj;exact rfl;apply f4;exact rfl;exact rfl)|(apply ah (f:=177);exact rfl;exact rfl;(intro w' hm';exact At.head' (B:=B2) (cb:=cb2) (out:=q2.out) (g:=g) (fin:=fin) h6 hu2 (MSub.pick pK (MSub.pick pK (MSub.pick pK (MSub.nil _)))) w' hm'))|(apply aB (f:=275);exact rfl;exact rfl;exact h6.skip hc (c:=11) (by rw [hu2];omega) (by decide) (MSub.pick pK (MSub.pick pK (MSub.pick pK (MSub.refl _))));rintro _ _ ⟨rfl,lv3,h7,rfl⟩)|refine cH ((n' +1,q2,lv2,B2,cb2)) ?_ sB mS|refine sT ?_|refine sP ?_|refine sN ?_|refine sM fun _=> ?_|(refine sC ?_ ?_<;>intro hb<;>try omega)|exact cT|fail)
        · rcases hr4 with ⟨e,h,_⟩|⟨n3,p3,h,h7⟩
          · cases h
          · cases h
            rw [hu2,if_neg (by omega)] at h7
            rcases hr2 with ⟨e,h,_⟩|⟨n4,p4,h,h8⟩
            · rw [h] at h7;cases h7
            · rw [h] at h7
              cases h7
              have:=rC hr3
              exact ⟨by dsimp only;omega,h6,h8⟩
        · rcases hr4 with ⟨e,h,_⟩|⟨n3,p3,h,h7'⟩
          · cases h
          · cases h
            rw [hu2,if_pos (by omega)] at h7'
            have:=rC hr3
            refine ⟨(f',n' +1,q2.skip,lv3,B2,cb2),⟨by dsimp only;omega,by dsimp only [PS.skip];omega,At1.at h7,h7'⟩,Nat.lt_succ_self _,sB,sB,?_⟩
            simp only [Ij,HW,HZ,pB]
            exact mS
        · rcases hr4 with ⟨e',h,h7⟩|⟨n3,p3,h,h7⟩
          · cases h
            rcases hr2 with ⟨e4,h,h8⟩|⟨n4,p4,h,h8⟩
            · rw [h] at h7
              cases h7
              exact bz h8 (MSub.trans (.drop .hd (.refl _)) h3)
            · rw [h] at h7;cases h7
          · cases h
  · rintro ⟨n,q,lq,Bq,cq⟩ ⟨hn',hq1,hq2⟩
    dsimp only at hn' hq1 hq2 ⊢
    obtain ⟨u,hu⟩: ∃ u,hdT fin q.l=u:=⟨_,rfl⟩
    have hap:=z6 hfn1 hfn2
    have hA:=fun w=>p6 fn w
    obtain ⟨least,most,ae,hae⟩: ∃ a b c,dP fn=(a,b,c):=⟨_,_,_,rfl⟩
    rw [hae] at hA hap
    dsimp only at hA hap
    by_cases h10:u.kind≠10
    · simp only [cC,hu,if_pos h10] at hq2
      cases hq2
      repeat' (first|(apply aj;exact rfl;apply f4;exact rfl;exact rfl)|(apply ah (f:=177);exact rfl;exact rfl;(intro w' hm';exact At.head' (B:=Bq) (cb:=cq) (out:=q.out) (g:=g) (fin:=fin) hq1 hu (MSub.pick pK (MSub.pick pK (MSub.pick pK (MSub.nil _)))) w' hm'))|(refine aL (f:=178) rfl rfl (eO _ _ _ _ _ (fun _ _=>False)) ?_ ?_)|(exact fun _ _ h=>h.elim)|(rintro _ _ ⟨rfl,rfl⟩)|refine sT ?_|refine sP ?_|refine sM fun _=> ?_|(refine sC ?_ ?_<;>intro hb<;>try omega)|exact cT|fail)
      all_goals first
        |(exfalso;omega)
        | (refine bz rfl ?_
           simp only [Ij,HW,HZ,pB]
           exact mS)
    by_cases hlm:(n:Int)<least∨most<(n:Int)
    · simp only [cC,hu,if_neg h10,hae,if_pos hlm] at hq2
      cases hq2
      repeat' (first|(apply aj;exact rfl;apply f4;exact rfl;exact rfl)|(apply ah (f:=177);exact rfl;exact rfl;(intro w' hm';exact At.head' (B:=Bq) (cb:=cq) (out:=q.out) (g:=g) (fin:=fin) hq1 hu (MSub.pick pK (MSub.pick pK (MSub.pick pK (MSub.nil _)))) w' hm'))|(apply ah (f:=336);exact rfl;exact rfl;(intro w' _;exact hA w'))|(refine aL (f:=178) rfl rfl (eO _ _ _ _ _ (fun _ _=>False)) ?_ ?_)|(exact fun _ _ h=>h.elim)|(rintro _ _ ⟨rfl,rfl⟩)|refine sT ?_|refine sP ?_|refine sM fun _=> ?_|(refine sC ?_ ?_<;>intro hb<;>try omega)|exact cT|fail)
      all_goals first
        |(exfalso;omega)
        | (refine bz rfl ?_
           simp only [Ij,HW,HZ,pB]
           exact mS)
    have hpos:0<q.out.length:=by omega
    have hol:q.out.length≤1000000:=At.len hq1 hl
    obtain ⟨x,hx⟩: ∃ x,q.out[q.out.length - 1]? =some x:=⟨_,HY (by omega)⟩
    rw [xn hx,hu,hae,if_neg h10] at hq2
    dsimp only at hq2
    rw [if_neg hlm] at hq2
    refine ez (A:=Bq) (by simp only [Ij,HW,HZ,pB];exact pK) hpos fun gb hB=> ?_
    subst hB
    by_cases hkx:46≤fn∧x.kind≠2∧x.kind≠3
    · rw [if_pos hkx] at hq2
      cases hq2
      repeat' (first|(apply aj;exact rfl;apply f4;exact rfl;exact rfl)|(apply ah (f:=177);exact rfl;exact rfl;(intro w' hm';exact At.head' (B:=some gb) (cb:=cq) (out:=q.out) (g:=g) (fin:=fin) hq1 hu (MSub.pick pK (MSub.pick pK (MSub.pick pK (MSub.nil _)))) w' hm'))|(apply ah (f:=336);exact rfl;exact rfl;(intro w' _;exact hA w'))|(apply aK;exact rfl;apply da;exact rfl;exact rfl;exact hpos;(simp only [maxLen];omega))|(apply aK;exact rfl;apply ai;exact rfl;exact rfl;omega)|(apply aK;exact rfl;apply mO (k:=0);exact fU;exact rfl;exact pK;decide;exact hx;exact rfl)|(refine aL (f:=178) rfl rfl (eO _ _ _ _ _ (fun _ _=>False)) ?_ ?_)|(exact fun _ _ h=>h.elim)|(rintro _ _ ⟨rfl,rfl⟩)|refine sT ?_|refine sP ?_|refine sQ ?_|refine sN ?_|refine sNQ ?_|refine sD ?_|refine sM fun _=> ?_|(refine sC ?_ ?_<;>intro hb<;>try omega)|(refine sCQ ?_ ?_<;>intro hb<;>try omega)|exact cT|fail)
      all_goals first
        |(exfalso;omega)
        | (refine bz rfl ?_
           simp only [Ij,HW,HZ,pB]
           exact mS)
    · rw [if_neg hkx] at hq2
      cases hq2
      repeat' (first|(apply aj;exact rfl;apply f4;exact rfl;exact rfl)|(apply ah (f:=177);exact rfl;exact rfl;(intro w' hm';exact At.head' (B:=some gb) (cb:=cq) (out:=q.out) (g:=g) (fin:=fin) hq1 hu (MSub.pick pK (MSub.pick pK (MSub.pick pK (MSub.nil _)))) w' hm'))|(apply ah (f:=336);exact rfl;exact rfl;(intro w' _;exact hA w'))|(apply aK;exact rfl;apply da;exact rfl;exact rfl;exact hpos;(simp only [maxLen];omega))|(apply aK;exact rfl;apply ai;exact rfl;exact rfl;omega)|(apply aK;exact rfl;apply mO (k:=0);exact fU;exact rfl;exact pK;decide;exact hx;exact rfl)|(apply aB (f:=275);exact rfl;exact rfl;exact hq1.skip hc (c:=10) (by rw [hu];omega) (by decide) (MSub.pick pK (MSub.pick pK (MSub.pick pK (MSub.refl _))));rintro _ _ ⟨rfl,lv1,h1',rfl⟩)|(apply aB (f:=276);exact rfl;exact rfl;exact FnIn.msub (gk ⟨7,bD,aZ,0,fn,n⟩ _ _ _ _ _ _ _ _ _ (At.len hq1 hl) _ _) (MSub.pick pK (MSub.pick pK (MSub.pick pK (MSub.refl _))));rintro _ _ ⟨rfl,B3,cb3,rfl⟩)|refine sT ?_|refine sP ?_|refine sQ ?_|refine sN ?_|refine sNQ ?_|refine sD ?_|refine sM fun _=> ?_|(refine sC ?_ ?_<;>intro hb<;>try omega)|(refine sCQ ?_ ?_<;>intro hb<;>try omega)|exact cT|fail)
      all_goals first
        |(exfalso;omega)
        | (refine cB (p' := q.skip.put ⟨7, bD, aZ, 0, fn, n⟩) (B' := B3) (cb' := cb3) (by first | exact .inr rfl | exact .inl rfl) rfl rfl (h1'.put _) ?_
           simp only [Ij,HW,HZ,pB]
           exact mS)
theorem zn (fin:Int) (f:Nat) (p:PS) (h:(hdT fin p.l).kind=7):aX fin (f+1) .prim p=vG f (hdT fin p.l) fin p:=by
 rw [aX]
 dsimp only
 rw [if_neg (by omega),if_neg (by omega),if_neg (by omega),if_pos h]
 rfl
set_option maxHeartbeats 4000000 in
theorem wP (f:Nat) (ih: ∀ f' ≤f,POK f' (.level 1) 176 []):POK (f+1) .prim 335 []:=by
  intro toks A cap fin g p lv B cb r R w0 hc hl hat hrun
  refine pG Tryz.func335 rfl Tryz.ntmps335 rfl ?_
  obtain ⟨t,ht⟩: ∃ t,hdT fin p.l=t:=⟨_,rfl⟩
  have hh:=fun w hm=>At.head' (fin:=fin) (g:=g) (B:=B) (cb:=cb) (out:=p.out) (H:=pB g lv A cap fin toks B cb p.out++R) (w0:=w0) hat ht (MSub.pick .hd (.pick .hd (.pick .hd (.nil _)))) w hm
  by_cases h7:t.kind=7
  · rw [zn _ _ _ (by rw [ht];exact h7),ht] at hrun
    have hcl:=EF f t ih toks A cap fin g p lv B cb r
    unfold tu at hcl
    rw [if_pos ⟨ht,h7⟩] at hcl
    repeat' (first|(apply ah (f:=177);exact rfl;exact rfl;exact hh)|(refine aL (f:=356) rfl rfl (FnP.msub (hcl _ w0 hc hl hat hrun) (MSub.pick pK (MSub.pick pK (MSub.pick pK (MSub.refl _))))) ?_ ?_)|(rintro _ _ ⟨rfl,n,p',lv',B',cb',rfl,h2,rfl⟩)|(rintro _ _ ⟨e,rfl,rfl,h3⟩)|refine sT ?_|refine sP ?_|refine sM fun _=> ?_|(refine sC ?_ ?_<;>intro hb<;>try omega)|fail)
    · refine cB (B' :=B') (cb' :=cb') (by first|exact .inr rfl|exact .inl rfl) rfl rfl h2 ?_
      simp only [Ij,HW,HZ,pB]
      exact mS
    · exact bz rfl (MSub.trans (.drop .hd (.refl _)) h3)
  rw [aX] at hrun
  dsimp only at hrun
  rw [ht] at hrun
  by_cases h14:1≤t.kind∧t.kind≤4
  · rw [if_pos h14] at hrun
    cases hrun
    rcases (by omega:t.kind=1∨t.kind=2∨t.kind=3∨t.kind=4) with hk|hk|hk|hk
    · repeat' (first|(apply ah (f:=177);exact rfl;exact rfl;exact hh)|(refine aL (f:=354) rfl rfl (FnP.msub (kX ⟨1,t.num,az⟩ toks A cap fin g p _ B cb (.ok (0,p.skip.put (sK t))) _ w0 hc hl hat (by dsimp only;rw [if_neg (by rw [ht];omega)];simp [sK,hk])) (MSub.pick pK (MSub.pick pK (MSub.pick pK (MSub.refl _))))) ?_ ?_)|(rintro _ _ ⟨rfl,n,p',lv',B',cb',h,h2,rfl⟩)|(rintro _ _ ⟨e,h,rfl,h3⟩;cases h)|refine sT ?_|refine sP ?_|refine sM fun _=> ?_|(refine sC ?_ ?_<;>intro hb<;>try omega)|fail)
      all_goals first
        |(exfalso;omega)
        | (refine cB (B' := B') (cb' := cb') (by first | exact .inr rfl | exact .inl rfl) rfl h h2 ?_
           simp only [Ij,HW,HZ,pB]
           exact mS)
    · repeat' (first|(apply ah (f:=177);exact rfl;exact rfl;exact hh)|(refine aL (f:=354) rfl rfl (FnP.msub (kX ⟨3,0,t.text⟩ toks A cap fin g p _ B cb (.ok (0,p.skip.put (sK t))) _ w0 hc hl hat (by dsimp only;rw [if_neg (by rw [ht];omega)];simp [sK,hk])) (MSub.pick pK (MSub.pick pK (MSub.pick pK (MSub.refl _))))) ?_ ?_)|(rintro _ _ ⟨rfl,n,p',lv',B',cb',h,h2,rfl⟩)|(rintro _ _ ⟨e,h,rfl,h3⟩;cases h)|refine sT ?_|refine sP ?_|refine sM fun _=> ?_|(refine sC ?_ ?_<;>intro hb<;>try omega)|fail)
      all_goals first
        |(exfalso;omega)
        | (refine cB (B' := B') (cb' := cb') (by first | exact .inr rfl | exact .inl rfl) rfl h h2 ?_
           simp only [Ij,HW,HZ,pB]
           exact mS)
    · repeat' (first|(apply ah (f:=177);exact rfl;exact rfl;exact hh)|(refine aL (f:=354) rfl rfl (FnP.msub (kX ⟨2,t.num,az⟩ toks A cap fin g p _ B cb (.ok (0,p.skip.put (sK t))) _ w0 hc hl hat (by dsimp only;rw [if_neg (by rw [ht];omega)];simp [sK,hk])) (MSub.pick pK (MSub.pick pK (MSub.pick pK (MSub.refl _))))) ?_ ?_)|(rintro _ _ ⟨rfl,n,p',lv',B',cb',h,h2,rfl⟩)|(rintro _ _ ⟨e,h,rfl,h3⟩;cases h)|refine sT ?_|refine sP ?_|refine sM fun _=> ?_|(refine sC ?_ ?_<;>intro hb<;>try omega)|fail)
      all_goals first
        |(exfalso;omega)
        | (refine cB (B' := B') (cb' := cb') (by first | exact .inr rfl | exact .inl rfl) rfl h h2 ?_
           simp only [Ij,HW,HZ,pB]
           exact mS)
    · repeat' (first|(apply ah (f:=177);exact rfl;exact rfl;exact hh)|(refine aL (f:=354) rfl rfl (FnP.msub (kX ⟨4,t.num,az⟩ toks A cap fin g p _ B cb (.ok (0,p.skip.put (sK t))) _ w0 hc hl hat (by dsimp only;rw [if_neg (by rw [ht];omega)];simp [sK,hk])) (MSub.pick pK (MSub.pick pK (MSub.pick pK (MSub.refl _))))) ?_ ?_)|(rintro _ _ ⟨rfl,n,p',lv',B',cb',h,h2,rfl⟩)|(rintro _ _ ⟨e,h,rfl,h3⟩;cases h)|refine sT ?_|refine sP ?_|refine sM fun _=> ?_|(refine sC ?_ ?_<;>intro hb<;>try omega)|fail)
      all_goals first
        |(exfalso;omega)
        | (refine cB (B' := B') (cb' := cb') (by first | exact .inr rfl | exact .inl rfl) rfl h h2 ?_
           simp only [Ij,HW,HZ,pB]
           exact mS)
  rw [if_neg h14] at hrun
  by_cases h5:t.kind=5
  · rw [if_pos h5] at hrun
    cases hrun
    repeat' (first|(apply ah (f:=177);exact rfl;exact rfl;exact hh)|(apply aB (f:=275);exact rfl;exact rfl;exact hat.skip hc (c:=5) (by rw [ht];exact h5) (by decide) (MSub.pick pK (MSub.pick pK (MSub.pick pK (MSub.refl _))));rintro _ _ ⟨rfl,lv1,h1,rfl⟩)|(apply aB (f:=276);exact rfl;exact rfl;exact FnIn.msub (gk ⟨2,bD,t.rect,0,0,0⟩ _ _ _ _ _ _ _ _ _ (At.len hat hl) _ _) (MSub.pick pK (MSub.pick pK (MSub.pick pK (MSub.refl _))));rintro _ _ ⟨rfl,B3,cb3,rfl⟩)|refine sT ?_|refine sP ?_|refine sM fun _=> ?_|(refine sC ?_ ?_<;>intro hb<;>try omega)|fail)
    all_goals first
      |(exfalso;omega)
      | (refine cB (p' := p.skip.put ⟨2, bD, t.rect, 0, 0, 0⟩) (B' := B3) (cb' := cb3) (by first | exact .inr rfl | exact .inl rfl) rfl rfl (h1.put _) ?_
         simp only [Ij,HW,HZ,pB]
         exact mS)
  rw [if_neg h5] at hrun
  by_cases h9:t.kind=9
  · rw [if_pos h9] at hrun
    obtain ⟨r1,hr1,hr2⟩:=bX hrun
    repeat' (first|(apply ah (f:=177);exact rfl;exact rfl;exact hh)|(apply aB (f:=275);exact rfl;exact rfl;exact hat.skip hc (c:=9) (by rw [ht];exact h9) (by decide) (MSub.pick pK (MSub.pick pK (MSub.pick pK (MSub.refl _))));rintro _ _ ⟨rfl,lv1,h1,rfl⟩)|(refine aL (f:=176) rfl rfl (FnP.msub (ih f (Ih _) toks A cap fin g p.skip _ B cb r1 _ w0 hc hl (At1.at h1) hr1) (MSub.pick pK (MSub.pick pK (MSub.pick pK (MSub.refl _))))) ?_ ?_)|(rintro _ _ ⟨rfl,n,p',lv',B',cb',rfl,h2,rfl⟩)|(rintro _ _ ⟨e,rfl,rfl,h3⟩)|(rcases hr2 with ⟨e,h,_⟩|⟨n1,p1,h,hw⟩;cases h;cases h;refine aL (f:=355) rfl rfl (FnP.msub (rO 10 (by decide) toks A cap fin g p' _ B' cb' r _ w0 hc hl h2 hw) (MSub.pick pK (MSub.pick pK (MSub.pick pK (MSub.refl _))))) ?_ ?_)|refine sT ?_|refine sP ?_|refine sM fun _=> ?_|(refine sC ?_ ?_<;>intro hb<;>try omega)|fail)
    · refine cB (B' :=B') (cb' :=cb') (by first|exact .inr rfl|exact .inl rfl) rfl rfl h2 ?_
      simp only [Ij,HW,HZ,pB]
      exact mS
    · exact bz rfl (MSub.trans (.drop .hd (.refl _)) h3)
    · rcases hr2 with ⟨e',h,h5⟩|⟨n1,p1,h,h5⟩
      · cases h
        exact bz h5 (MSub.trans (.drop .hd (.refl _)) h3)
      · cases h
  rw [if_neg h9,if_neg h7] at hrun
  cases hrun
  repeat' (first|(apply ah (f:=177);exact rfl;exact rfl;exact hh)|(refine aL (f:=178) rfl rfl (eO _ _ _ _ _ (fun _ _=>False)) ?_ ?_)|(exact fun _ _ h=>h.elim)|(rintro _ _ ⟨rfl,rfl⟩)|refine sT ?_|refine sP ?_|refine sM fun _=> ?_|(refine sC ?_ ?_<;>intro hb<;>try omega)|fail)
  all_goals first
    |(exfalso;omega)
    | (refine bz rfl ?_
       simp only [Ij,HW,HZ,pB]
       exact mS)
theorem zr (f:Nat):(∀ k:Int,1≤k→k≤4→POK f (.level k) 226 [.int .i64 k])∧POK f .sign 272 []∧POK f .pct 304 []∧POK f .prim 335 []∧POK f (.level 1) 176 []:=by
 induction f using Nat.strongRecOn with
 |_ f ih=>
  cases f with
  |zero=>
   refine ⟨fun k _ _=> ?_,?_,?_,?_,?_⟩
   all_goals exact fun toks A cap fin g p lv B cb r R w0 hc hl hat h=>by cases h
  |succ f=>
   have hL: ∀ k:Int,1≤k→k≤4→POK (f+1) (.level k) 226 [.int .i64 k]:=fun k h1 h4=>
    Ch f k h1 h4 (fun h3 f' hf' =>(ih f' (by omega)).1 (k+1) (by omega) (by omega)) (fun f' hf' =>(ih f' (by omega)).2.1)
   refine ⟨hL,DK f (ih f (by omega)).2.1 (ih f (by omega)).2.2.1,wS f (ih f (by omega)).2.2.2.1,wP f (fun f' hf' =>(ih f' (by omega)).2.2.2.2),xe (f+1) (hL 1 (by omega) (by omega))⟩
end Go.SL
