/-
  Lemmas and walks, put together: C3 C4 B2 C5 B3 C6 B4.
-/
import Derived.Test.YtpoafcnhplbkmaaGreatDoorKt09
import Derived.Test.YtpoafcnhplbkmaaGreatDoorKt10
set_option linter.unusedSimpArgs false
set_option linter.unusedVariables false
set_option maxRecDepth 20000
set_option maxHeartbeats 16000000
namespace Go.SL
open Go Go.Proofs
attribute [local irreducible] W WL WQ WG WA WX WLI WR WT VOp thn blk aW scp aJ aS bg FnAt FnIn FnP
def nF (g g2 g3:Nat) (k:Int) (R:List Blk):List Blk:= .box g2 224 [.pointer (some ⟨g,0,none⟩)]:: .box g3 3 [.int .i64 k]::R
theorem Ae (f:Nat) (k:Int) (h1:1≤k) (h4:k≤3) (ih:POK f (.level (k+1)) 196 [.int .i64 (k+1)]) (toks:List Tk) (A:Option Nat) (cap:Nat) (fin:Int) (g:Nat) (p:PS) (lv:Value) (B:Option Nat) (cb:Nat) (r:Out) (R:List Blk) (w0:World) (g2 g3:Nat) (hc:toks.length≤cap) (hl:toks.length≤1000) (hat:At toks A cap p lv) (hr:aU fin f (.level (k+1)) p=some r):
 FnP Tryz.prog 247 [.pointer (some ⟨g2,0,none⟩),.pointer (some ⟨g3,0,none⟩)] w0 (pB g lv A cap fin toks B cb p.out++nF g g2 g3 k R) (PR toks A cap fin g (nF g g2 g3 k R) r) (PD (nF g g2 g3 k R) r):=by
 refine pN Tryz.func247 rfl Tryz.ntmps247 rfl ?_;repeat' (first|(refine aK (f:=196) rfl rfl (ih toks A cap fin g p lv B cb r _ w0 hc hl hat hr) ?_ ?_)|(rintro _ _ ⟨rfl,n,p',lv',B',cb',rfl,h2,rfl⟩)|(rintro _ _ ⟨e,rfl,rfl,h3⟩)|refine sT ?_|refine sP ?_|refine sJ ?_|refine sM fun _=>?_|(refine sC ?_ ?_<;>intro hb<;>try omega)|exact cT|fail)
 ·exact cF (by first|exact .inr rfl|exact .inl rfl) rfl rfl h2 (.refl _)
 ·exact bu rfl h3
def Fl (f:Nat) (k:Int) (toks:List Tk) (A:Option Nat) (cap:Nat) (fin:Int) (g g2 g3:Nat) (w0:World) (bv:Value):Prop:=
 ∃ (fid:FuncId) (bs caps:List Value),bv= .func (.func fid) bs.toArray caps.toArray∧Callable Tryz.prog fid∧ ∀ (f' :Nat) (p:PS) (lv:Value) (B:Option Nat) (cb:Nat) (r:Out) (R:List Blk),f' ≤f→At toks A cap p lv→aU fin f' (.level (k+1)) p=some r→
  FnP Tryz.prog fid (bs++([]++caps)) w0 (pB g lv A cap fin toks B cb p.out++nF g g2 g3 k R) (PR toks A cap fin g (nF g g2 g3 k R) r) (PD (nF g g2 g3 k R) r)
theorem CI (f:Nat) (k:Int) (h1:1≤k) (h4:k≤4) (ihL:k≤3→ ∀ f' ≤f,POK f' (.level (k+1)) 196 [.int .i64 (k+1)]) (ihS: ∀ f' ≤f,POK f' .sign 246 []):POK (f+1) (.level k) 196 [.int .i64 k]:=by
 intro toks A cap fin g p lv B cb r R w0 hc hl hat hrun;refine pN Tryz.func196 rfl Tryz.ntmps196 rfl ?_;rw [aU,if_neg (by omega)] at hrun;obtain ⟨r1,hr1,hr2⟩:=cj hrun;repeat' (first|(apply ai;exact rfl;apply iP;exact rfl)|(rename_i g2 g3;refine yo (id:=2) [2,3] rfl (ι:=Value) (fun bv=> [(4,bv)]) (fun bv=>Fl f k toks A cap fin g g2 g3 w0 bv) ?_ ?_)|refine dr (_) ?_ sB mS|refine zZC ?_|refine sM fun _=>?_|(refine sC ?_ ?_<;>intro hb<;>try omega)|exact cT|fail)
 ·exact ⟨_,[],_,rfl,inferInstance,fun f' p lv B cb r R hf' hat' hr' =>Ae f' k h1 (by omega) (ihL (by omega) f' hf') toks A cap fin g p lv B cb r R w0 _ _ hc hl hat' hr'⟩
 ·have hk:k=4:=by omega
  subst hk;refine ⟨_,_,[],rfl,inferInstance,fun f' p lv B cb r R hf' hat' hr' => ?_⟩
  cases f' with
  |zero=>cases hr'
  |succ f'' =>
    rw [aU,if_pos (by decide)] at hr';exact ihS f'' (by omega) toks A cap fin g p lv B cb r _ w0 hc hl hat' hr'
 ·rintro bv ⟨fid,bs,caps,rfl,hcl,hbel⟩;repeat' (first|(refine qC (f:=fid) rfl rfl hcl rfl (FnP.msub (hbel f p lv B cb r1 _ (IK _) hat hr1) (MSub.pick pK (MSub.pick pK (MSub.pick pK (MSub.pick pK (MSub.pick pK (MSub.refl _))))))) ?_ ?_)|(rintro _ _ ⟨rfl,n,p',lv',B',cb',rfl,h2,rfl⟩)|(rintro _ _ ⟨e,rfl,rfl,h3⟩)|refine zZC ?_|refine sM fun _=>?_|(refine sC ?_ ?_<;>intro hb<;>try omega)|exact cT|fail)
  ·rcases hr2 with ⟨e,h,_⟩|⟨n1,p1,h,h5⟩
   ·cases h
   cases h;refine aB [2,3,4] rfl (fun _:Nat × PS × Value × Option Nat × Nat=> []) (fun x=>pB g x.2.2.1 A cap fin toks x.2.2.2.1 x.2.2.2.2 x.2.1.out++nF g g2 g3 k R) (fun x=>x.1≤f∧At toks A cap x.2.1 x.2.2.1∧aU fin x.1 (.loop k) x.2.1=some r) (fun x=>x.1) (f,p',lv',B',cb') ⟨IK _,h2,h5⟩ sB (.refl _) ?_;rintro ⟨f',q,lq,Bq,cq⟩ ⟨hf',hq1,hq2⟩;dsimp only at hf' hq1 hq2 ⊢
   cases f' with
   |zero=>cases hq2
   |succ f' =>
     rw [aU] at hq2;have hh:=fun w hm=>hq1.head (fin:=fin) (g:=g) (B:=Bq) (cb:=cq) (out:=q.out) (H:=pB g lq A cap fin toks Bq cq q.out++nF g g2 g3 k R) (w0:=w0) (MSub.pick .hd (.pick .hd (.pick .hd (.nil _)))) w hm;obtain ⟨t,ht⟩: ∃ t,hdT fin q.l=t:=⟨_,rfl⟩;rw [ht] at hq2 hh;by_cases hs:t.kind=8∧pU t.num=k
     ·rw [if_pos hs] at hq2;obtain ⟨hs8,hsk⟩:=hs;obtain ⟨r2,hr3,hr4⟩:=cj hq2;repeat' (first|(apply ag (f:=148);exact rfl;exact rfl;exact hh)|(apply ag (f:=248);exact rfl;exact rfl;(intro w' _;exact qU _ w'))|(apply ap (f:=249);exact rfl;exact rfl;exact hq1.skip hc (ht ▸ hs8) (by decide) (MSub.pick pK (MSub.pick pK (MSub.pick pK (MSub.refl _))));rintro _ _ ⟨rfl,lv1,h1',rfl⟩)|(refine qC (f:=fid) rfl rfl hcl rfl (FnP.msub (hbel f' q.skip lv1 Bq cq r2 _ (by omega) (At1.at h1') hr3) (MSub.pick pK (MSub.pick pK (MSub.pick pK (MSub.pick pK (MSub.pick pK (MSub.refl _))))))) ?_ ?_)|(rintro _ _ ⟨rfl,n2,p2,lv2,B2,cb2,rfl,h6,rfl⟩)|(rintro _ _ ⟨e,rfl,rfl,h3⟩)|(apply ap (f:=250);exact rfl;exact rfl;exact FnIn.msub (gA (dD 6 t.num) _ _ _ _ _ _ _ _ _ (At.len h6 hl) _ _) (MSub.pick pK (MSub.pick pK (MSub.pick pK (MSub.refl _))));rintro _ _ ⟨rfl,B3,cb3,rfl⟩)|refine zZC ?_|refine sM fun _=>?_|(refine sC ?_ ?_<;>intro hb<;>try omega)|exact cT|fail)
      ·rcases hr4 with ⟨e,h,_⟩|⟨n3,p3,h,h7⟩
       ·cases h
       ·cases h;refine ⟨(f',p2.put (dD 6 t.num),lv2,B3,cb3),⟨by omega,(h1'.grew h6 (fL _ _ _ _ _ _ hr3)).put _,h7⟩,Kd _,sB,sB,?_⟩;dsimp only [nF,List.cons_append,List.nil_append,pB];exact mS
      ·rcases hr4 with ⟨e',h,h7⟩|⟨n3,p3,h,h7⟩
       ·cases h;exact bu h7 (MSub.trans (by unfold nF;exact .drop (.tl (.tl .hd)) (.drop .hd (.drop .hd (.refl _)))) h3)
       ·cases h
     ·rw [if_neg hs] at hq2;cases hq2;repeat' (first|(apply ag (f:=148);exact rfl;exact rfl;exact hh)|(apply ag (f:=248);exact rfl;exact rfl;(intro w' _;exact qU _ w'))|refine zZC ?_|refine sM fun _=>?_|(refine sC ?_ ?_<;>intro hb<;>try omega)|exact cT|fail)
      all_goals first
       |(exfalso;omega)
       | (refine cF (B' := Bq) (cb' := cq) (by first | exact .inr rfl | exact .inl rfl) rfl rfl hq1 ?_
          dsimp only [nF,List.cons_append,List.nil_append,pB];exact mS)
  ·rcases hr2 with ⟨e',h,h5⟩|⟨n1,p1,h,h5⟩
   ·cases h;exact bu h5 (MSub.trans (by unfold nF;exact .drop .hd (.drop .hd (.refl _))) h3)
   ·cases h
def Fg (F:Int→PS→Option Out) (fid:FuncId) (args:List Value):Prop:=
 ∀ (toks:List Tk) (A:Option Nat) (cap:Nat) (fin:Int) (g:Nat) (p:PS) (lv:Value) (B:Option Nat) (cb:Nat) (r:Out) (R:List Blk) (w0:World),toks.length≤cap→toks.length≤1000→At toks A cap p lv→F fin p=some r→
  FnP Tryz.prog fid (.pointer (some ⟨g,0,none⟩)::args) w0 (pB g lv A cap fin toks B cb p.out++R) (PR toks A cap fin g R r) (PD R r)
def yj (c:Int) (fin:Int) (p:PS):Option Out:=if (hdT fin p.l).kind≠c then some (.error ((hdT fin p.l).at_,4)) else some (.ok (0,p.skip))
theorem rP (c:Int) (h0:c≠0):Fg (yj c) 312 [.int .u8 c]:=by
 intro toks A cap fin g p lv B cb r R w0 hc hl hat hrun;refine pN Tryz.func312 rfl Tryz.ntmps312 rfl ?_;have hh:=fun w hm=>hat.head (fin:=fin) (g:=g) (B:=B) (cb:=cb) (out:=p.out) (H:=pB g lv A cap fin toks B cb p.out++R) (w0:=w0) (MSub.pick .hd (.pick .hd (.pick .hd (.nil _)))) w hm;unfold yj at hrun;obtain ⟨t,ht⟩: ∃ t,hdT fin p.l=t:=⟨_,rfl⟩;rw [ht] at hrun hh;by_cases hk:t.kind≠c
 ·rw [if_pos hk] at hrun;cases hrun;repeat' (first|(apply ag (f:=148);exact rfl;exact rfl;exact hh)|(refine aK (f:=149) rfl rfl (eY _ _ _ _ _ (fun _ _=>False)) ?_ ?_)|(exact fun _ _ h=>h.elim)|(rintro _ _ ⟨rfl,rfl⟩)|refine zZC ?_|refine sM fun _=>?_|(refine sC ?_ ?_<;>intro hb<;>try omega)|fail)
  all_goals first
   |(exfalso;omega)
   | (refine bu rfl ?_
      dsimp only [List.cons_append,List.nil_append,pB];exact mS)
 ·rw [if_neg hk] at hrun;cases hrun;repeat' (first|(apply ag (f:=148);exact rfl;exact rfl;exact hh)|(apply ap (f:=249);exact rfl;exact rfl;exact hat.skip hc (c:=c) (by rw [ht];omega) h0 (MSub.pick pK (MSub.pick pK (MSub.pick pK (MSub.refl _))));rintro _ _ ⟨rfl,lv1,h1,rfl⟩)|refine zZC ?_|refine sM fun _=>?_|(refine sC ?_ ?_<;>intro hb<;>try omega)|fail)
  all_goals first
   |(exfalso;omega)
   | (refine cF (B' := B) (cb' := cb) (by first | exact .inr rfl | exact .inl rfl) rfl rfl (At1.at h1) ?_
      dsimp only [List.cons_append,List.nil_append,pB];exact mS)
theorem lc (v:Vl):Fg (fun fin p=>if (hdT fin p.l).kind=0 then none else some (.ok (0,p.skip.put ⟨1,v,bp,0,0,0⟩))) 311 [.agg (cQ v).toArray]:=by
 intro toks A cap fin g p lv B cb r R w0 hc hl hat hrun;refine pN Tryz.func311 rfl Tryz.ntmps311 rfl ?_;dsimp only at hrun;by_cases hk:(hdT fin p.l).kind=0
 ·rw [if_pos hk] at hrun;cases hrun
 rw [if_neg hk] at hrun;cases hrun;repeat' (first|(apply ap (f:=249);exact rfl;exact rfl;exact hat.skip hc rfl hk (MSub.pick pK (MSub.pick pK (MSub.pick pK (MSub.refl _))));rintro _ _ ⟨rfl,lv1,h1,rfl⟩)|(apply ap (f:=250);exact rfl;exact rfl;exact FnIn.msub (gA ⟨1,v,bp,0,0,0⟩ _ _ _ _ _ _ _ _ _ (At.len hat hl) _ _) (MSub.pick pK (MSub.pick pK (MSub.pick pK (MSub.refl _))));rintro _ _ ⟨rfl,B3,cb3,rfl⟩)|refine zZC ?_|refine sM fun _=>?_|(refine sC ?_ ?_<;>intro hb<;>try omega)|fail)
 all_goals
  refine cF (p' :=p.skip.put ⟨1,v,bp,0,0,0⟩) (B' :=B3) (cb' :=cb3) (by first|exact .inr rfl|exact .inl rfl) rfl rfl (h1.put _) ?_;dsimp only [List.cons_append,List.nil_append,pB];exact mS
theorem xG (f:Nat) (ih:POK f (.level 1) 196 [.int .i64 1]):POK f (.level 1) 147 []:=by
 intro toks A cap fin g p lv B cb r R w0 hc hl hat hrun;refine pN Tryz.func147 rfl Tryz.ntmps147 rfl ?_;repeat' (first|(refine aK (f:=196) rfl rfl (FnP.msub (ih toks A cap fin g p _ B cb r _ w0 hc hl hat hrun) (MSub.pick pK (MSub.pick pK (MSub.pick pK (MSub.refl _))))) ?_ ?_)|(rintro _ _ ⟨rfl,n,p',lv',B',cb',rfl,h2,rfl⟩)|(rintro _ _ ⟨e,rfl,rfl,h3⟩)|refine zZC ?_|refine sM fun _=>?_|(refine sC ?_ ?_<;>intro hb<;>try omega)|fail)
 ·exact cF (by first|exact .inr rfl|exact .inl rfl) rfl rfl h2 (.refl _)
 ·exact bu rfl h3
def AY (f:Nat) (fn:Int) (n:Nat) (fin:Int) (p:PS):Option Out:=
 if (hdT fin p.l).kind≠6 then dB (aU fin f (.level 1) p) fun _ p=>some (.ok (0,p))
 else if (kW fn n).1=false∨(kW fn n).2≠0 then some (.error ((hdT fin p.l).at_,4))
 else some (.ok (0,p.skip.put ⟨3,bD,(hdT fin p.l).rect,0,0,0⟩))
theorem ut {o:Option Out} {k k' :Nat→PS→Option Out}:dB (dB o k) k' =dB o fun n p=>dB (k n p) k' :=by
 match o with
 |none=>rfl
 |some (.ok (n,p))=>rfl
 |some (.error e)=>rfl
theorem E9 (fin:Int) (f:Nat) (fn:Int) (n:Nat) (p:PS):aU fin (f+1) (.args fn n) p=dB (AY f fn n fin p) fun _ p=>if (hdT fin p.l).kind=11 then aU fin f (.args fn (n+1)) p.skip else some (.ok (n+1,p)):=by
 rw [aU];unfold AY;split
 ·rw [ut];rfl
 ·split<;>rfl
theorem wj (f:Nat) (fn:Int) (n:Nat) (ih:POK f (.level 1) 147 []):Fg (AY f fn n) 325 [.int .u8 fn,.int .i64 n]:=by
 intro toks A cap fin g p lv B cb r R w0 hc hl hat hrun;refine pN Tryz.func325 rfl Tryz.ntmps325 rfl ?_;have hh:=fun w hm=>hat.head (fin:=fin) (g:=g) (B:=B) (cb:=cb) (out:=p.out) (H:=pB g lv A cap fin toks B cb p.out++R) (w0:=w0) (MSub.pick .hd (.pick .hd (.pick .hd (.nil _)))) w hm;unfold AY at hrun;obtain ⟨t,ht⟩: ∃ t,hdT fin p.l=t:=⟨_,rfl⟩;rw [ht] at hrun hh;by_cases hk:t.kind≠6
 ·rw [if_pos hk] at hrun;obtain ⟨r1,hr1,hr2⟩:=cj hrun;repeat' (first|(apply ag (f:=148);exact rfl;exact rfl;exact hh)|(refine aK (f:=147) rfl rfl (FnP.msub (ih toks A cap fin g p _ B cb r1 _ w0 hc hl hat hr1) (MSub.pick pK (MSub.pick pK (MSub.pick pK (MSub.refl _))))) ?_ ?_)|(rintro _ _ ⟨rfl,n,p',lv',B',cb',rfl,h2,rfl⟩)|(rintro _ _ ⟨e,rfl,rfl,h3⟩)|refine zZC ?_|refine sM fun _=>?_|(refine sC ?_ ?_<;>intro hb<;>try omega)|fail)
  ·rcases hr2 with ⟨e,h,_⟩|⟨n1,p1,h,h5⟩
   ·cases h
   ·cases h;cases h5;refine cF (B' :=B') (cb' :=cb') (by first|exact .inr rfl|exact .inl rfl) rfl rfl h2 ?_;simp only [Jh,IE,ID,pB];exact mS
  ·rcases hr2 with ⟨e',h,h5⟩|⟨n1,p1,h,h5⟩
   ·cases h;exact bu h5 (MSub.trans (.drop .hd (.refl _)) h3)
   ·cases h
 ·rw [if_neg hk] at hrun;have hw:=fun w=>yg fn n w;obtain ⟨wb,we,hwe⟩: ∃ wb we,kW fn n=(wb,we):=⟨_,_,rfl⟩;rw [hwe] at hrun hw;by_cases hwk:wb=false∨we≠0
  ·rw [if_pos hwk] at hrun;cases hrun;repeat' (first|(apply ag (f:=148);exact rfl;exact rfl;exact hh)|(apply ag (f:=280);exact rfl;exact rfl;(intro w' _;exact hw w'))|(refine aK (f:=149) rfl rfl (eY _ _ _ _ _ (fun _ _=>False)) ?_ ?_)|(exact fun _ _ h=>h.elim)|(rintro _ _ ⟨rfl,rfl⟩)|refine zZC ?_|refine sM fun _=>?_|(refine sC ?_ ?_<;>intro hb<;>try omega)|fail)
   all_goals first
    |(exfalso;simp_all<;>omega)
    |(exfalso;omega)
    | (refine bu rfl ?_
       simp only [Jh,IE,ID,pB];exact mS)
  ·rw [if_neg hwk] at hrun;cases hrun;repeat' (first|(apply ag (f:=148);exact rfl;exact rfl;exact hh)|(apply ag (f:=280);exact rfl;exact rfl;(intro w' _;exact hw w'))|(apply ap (f:=249);exact rfl;exact rfl;exact hat.skip hc (c:=6) (by rw [ht];omega) (by decide) (MSub.pick pK (MSub.pick pK (MSub.pick pK (MSub.refl _))));rintro _ _ ⟨rfl,lv1,h1,rfl⟩)|(apply ap (f:=250);exact rfl;exact rfl;exact FnIn.msub (gA ⟨3,bD,t.rect,0,0,0⟩ _ _ _ _ _ _ _ _ _ (At.len hat hl) _ _) (MSub.pick pK (MSub.pick pK (MSub.pick pK (MSub.refl _))));rintro _ _ ⟨rfl,B3,cb3,rfl⟩)|refine zZC ?_|refine sM fun _=>?_|(refine sC ?_ ?_<;>intro hb<;>try omega)|fail)
   all_goals first
    |(exfalso;simp_all<;>omega)
    |(exfalso;omega)
    | (refine cF (p' := p.skip.put ⟨3, bD, t.rect, 0, 0, 0⟩) (B' := B3) (cb' := cb3) (by first | exact .inr rfl | exact .inl rfl) rfl rfl (h1.put _) ?_
       simp only [Jh,IE,ID,pB];exact mS)
end Go.SL
namespace Go.SL
open Go Go.Proofs
attribute [local irreducible] W WL WQ WG WA WX WLI WR WT VOp thn blk aW scp aJ bg FnAt FnIn
def wU:Option (Tk × Nat)→Value
 |some (t,n)=> .tuple #[.agg (cK t).toArray,.int .i64 (n:Int)]
 |none=> .tuple #[.agg (cK kE).toArray,.int .i64 0]
def atT (i:Nat) (o:Option (Tk × Nat)):Option (Tk × Nat):=o.map fun x=>({ x.1 with at_:=(i:Int) },x.2)
def jS (l:List Int):Option (Tk × Nat):=
 let w:=aM aQ l;let p:=cD (l.drop w);let n:=if p=0 then w else w+1+p
 if w=0∨4<p then none
 else if (mF (l.take n)).2≠0 then none else some (⟨1,(mF (l.take n)).1,aA,bp,0⟩,n)
theorem jw {c:Int} {r:List Int} (h:c=46):cD (c::r)=aM aQ r:=by subst h;rfl
theorem oV {c:Int} {r:List Int} (h:c≠46):cD (c::r)=0:=by
 unfold cD;split
 ·rename_i heq;injection heq with h1 h2;exact absurd h1 h
 ·rfl
theorem zZ (a:ByteArray) (ha:a.size≤100000) (i:Nat) (hi:i≤a.size) (g:Nat) (w:World) (hr:Ro w g 0 [.string a]):
 aC Tryz.prog 191 [.pointer (some ⟨g,0,none⟩),.int .i64 (i:Int)] w (wU (atT i (jS ((aq a).drop i)))):=by
 refine ax Tryz.func191 rfl Tryz.ntmps191 rfl ?_;have hl:=av a;have hL1:=mi a (by omega) i hi 236 aQ gH;have hwl:=cX aQ ((aq a).drop i);rw [Jg] at hwl;generalize hw:aM aQ ((aq a).drop i)=n at hL1 hwl;generalize hpd:cD ((aq a).drop (i+n))=p;have hN:jS ((aq a).drop i)=if n=0∨4<p then none else if (mF (((aq a).drop i).take (if p=0 then n else n+1+p))).2≠0 then none else some (⟨1,(mF (((aq a).drop i).take (if p=0 then n else n+1+p))).1,aA,bp,0⟩,if p=0 then n else n+1+p):=by
  simp only [jS,hw,Kr,hpd]
 rw [hN];have hL2:=fun h=>mi a (by omega) (i+n+1) h 236 aQ gH;have hcut: ∀ m,aq (sub a i (i+m))=((aq a).drop i).take m:=fun m=>by rw [fX,show i+m - i=m by omega]
 have hple:p≤a.size - (i+n) - 1:=by
  rw [← hpd];by_cases h:i+n<a.size
  ·rw [bO h];by_cases h46:bat a (i+n)=46
   ·rw [jw h46];have:=cX aQ ((aq a).drop (i+n+1));rw [Jg] at this;omega
   ·rw [oV h46];omega
  ·rw [I7 (by omega)];simp [cD]
 have hend: ∀ h:i+n+1<a.size,bat a (i+n)=46→(p=aM aQ ((aq a).drop (i+n+1))):=fun h h46=>by
  rw [← hpd,bO (by omega),jw h46]
 have hno: ¬ (i+n+1<a.size∧bat a (i+n)=46∧aQ (bat a (i+n+1))=true)→p=0:=fun h=>by
  by_cases h1:i+n<a.size
  ·by_cases h46:bat a (i+n)=46
   ·by_cases h2:i+n+1<a.size
    ·rw [hend h2 h46,bO h2,aM,if_neg fun h3=>h ⟨h2,h46,h3⟩]
    ·rw [← hpd,bO h1,jw h46,I7 (by omega)];rfl
   ·rw [← hpd,bO h1,oV h46]
  ·rw [← hpd,I7 (by omega)];rfl
 have hyes:i+n+1<a.size→bat a (i+n)=46→aQ (bat a (i+n+1))=true→0<p:=fun h h46 h3=>by
  rw [hend h h46,bO h,aM,if_pos h3];omega
 repeat' (first|(apply ai;exact rfl;apply aD (o:=0) (off:=0);exact hr;exact rfl;exact rfl)|(apply ag;exact rfl;exact rfl;(intro w hm;exact hL1 w))|(apply ag;exact rfl;exact rfl;(intro w hm;exact gH _ w))|(refine yo (id:=7) [0,1,4] rfl (ι:=Nat × Nat) (fun x=> [(7,.int .i64 (x.1:Int)),(5,.int .i64 (x.2:Int))]) (fun x=>x.1=p∧x.2=if p=0 then n else n+1+p) ?_ ?_)|(apply ag;exact rfl;exact rfl;(intro w hm;exact hL2 (by omega) w))|refine zZF ?_|refine sM fun _=>?_|(refine sC ?_ ?_<;>intro hb<;>try omega)|exact cT|fail)
 ·(refine jm ?_);rw [if_pos (.inl (by omega))];rfl
 ·rename_i h1 h2 h3;refine dr ((aM aQ ((aq a).drop (i+n+1)),n+(1+aM aQ ((aq a).drop (i+n+1))))) ?_ sB mS;have h5:=hyes (by omega) h3 hb;have h6:=hend (by omega) h3;rw [← h6];exact ⟨rfl,by rw [if_neg (by omega)];omega⟩
 ·rename_i h1 h2 h3;refine dr ((0,n)) ?_ sB mS;have:=hno fun h=>by rw [hb] at h;cases h.2.2
  exact ⟨this.symm,by rw [if_pos this]⟩
 ·refine dr ((0,n)) ?_ sB mS;have:=hno fun h=>hb h.2.1;exact ⟨this.symm,by rw [if_pos this]⟩
 ·refine dr ((0,n)) ?_ sB mS;have:=hno fun h=>by omega
  exact ⟨this.symm,by rw [if_pos this]⟩
 rintro ⟨p',m⟩ ⟨rfl,hm⟩;have hn0:n≠0:=by omega
 dsimp only at hm ⊢;rw [← hm];by_cases h4:4<p'
 ·rw [if_pos (.inr h4)];repeat' (first|refine zZD ?_|refine sM fun _=>?_|(refine sC ?_ ?_<;>intro hb<;>try omega)|exact cT|fail)
  all_goals first|(exfalso;omega)|((refine jm ?_);rfl)
 ·rw [if_neg (by omega)];have him:i+m≤a.size:=by rw [hm];split<;>omega
  have hP:=ng (sub a i (i+m)) (by rw [ck _ him];omega);rw [hcut m] at hP;generalize mF (((aq a).drop i).take m)=q at hP;repeat' (first|(apply ai;exact rfl;apply aD (o:=0) (off:=0);exact hr;exact rfl;exact rfl)|(apply ag;exact rfl;exact rfl;(intro w hm;exact hP w))|refine zZF ?_|refine sM fun _=>?_|(refine sC ?_ ?_<;>intro hb<;>try omega)|exact cT|fail)
  ·(refine jm ?_);rw [if_pos hb];rfl
  ·(refine jm ?_);rw [if_neg hb];rfl
theorem iA (a:ByteArray) (j:Nat):((aq a).drop j).headD 0=bat a j:=by
 rw [bat,List.headD_eq_head?_getD,List.head?_drop,J2]
theorem sw (a:ByteArray) (ha:a.size≤100000) (j:Nat) (g:Nat) (w:World) (hr:Ro w g 0 [.string a]):
 aC Tryz.prog 240 [.pointer (some ⟨g,0,none⟩),.int .i64 (j:Int)] w (.int .u8 (bat a j)):=by
 refine ax Tryz.func240 rfl Tryz.ntmps240 rfl ?_;have hl:=av a;repeat' (first|(apply ai;exact rfl;apply aD (o:=0) (off:=0);exact hr;exact rfl;exact rfl)|refine zZF ?_|refine sM fun _=>?_|(refine sC ?_ ?_<;>intro hb<;>try omega)|exact cT|fail)
 ·(refine rT1 ?_)
  rfl
 ·(refine rT1 ?_);have e:bat a j=0:=by rw [bat,J2,IC (by omega)];rfl
  rw [e]
def upW (l:List Int):List Int:=(l.take (aM cN l)).map upC
theorem oG (l:List Int):(upW l).length=aM cN l:=by
 have:=cX cN l;simp [upW];omega
theorem BS {l:List Int} (h:eC l):eC (upW l):=by
 intro c hc;obtain ⟨d,hd,rfl⟩:=IM.1 hc;have:=h d (J6 hd);unfold upC;split<;>omega
theorem uQ (a:ByteArray) (ha:a.size≤100000) (i:Nat) (hi:i≤a.size) (g:Nat) (w:World) (hr:Ro w g 0 [.string a]):
 aC Tryz.prog 239 [.pointer (some ⟨g,0,none⟩),.int .i64 (i:Int)] w (.string (mkB (upW ((aq a).drop i)))):=by
 refine ax Tryz.func239 rfl Tryz.ntmps239 rfl ?_;have hl:=av a;have hL:=mi a (by omega) i hi 274 cN Ad;have hwl:=cX cN ((aq a).drop i);rw [Jg] at hwl;unfold upW;generalize aM cN ((aq a).drop i)=n at hL hwl;have hU:=lS (sub a i (i+n)) (by rw [ck _ (by omega)];omega);have e:upB (sub a i (i+n))=mkB ((((aq a).drop i).take n).map upC):=by rw [upB,fX,show i+n - i=n by omega]
 rw [e] at hU;repeat' (first|(apply ai;exact rfl;apply aD (o:=0) (off:=0);exact hr;exact rfl;exact rfl)|(apply ag;exact rfl;exact rfl;(intro w hm;exact hL w))|(apply ag;exact rfl;exact rfl;(intro w hm;exact hU w))|refine zZF ?_|refine sM fun _=>?_|(refine sC ?_ ?_<;>intro hb<;>try omega)|exact cT|fail)
 (refine rT1 ?_)
 rfl
def du:List Int→Option Nat
 | []=>none
 |c::r=>if c≠34 then (du r).map (· +1) else match r with
  | []=>some 0
  |d::r' =>if d=34 then (du r').map (· +2) else some 0
theorem nn {c:Int} {r:List Int} (h:c≠34):du (c::r)=(du r).map (· +1):=by rw [du.eq_def];simp [h]
def uu (l:List Int):Option (Tk × Nat):=
 if l.headD 0≠34 then none
 else match du (l.drop 1) with
  |none=>none
  |some k=>if (eW (l.take (k+2))).2≠0 then none else some (⟨2,0,mkB (eW (l.take (k+2))).1,bp,0⟩,k+2)
theorem DY (a:ByteArray) (ha:a.size≤100000) (i:Nat) (hi:i<a.size) (g:Nat) (w:World) (hr:Ro w g 0 [.string a]):
 aC Tryz.prog 192 [.pointer (some ⟨g,0,none⟩),.int .i64 (i:Int)] w (wU (atT i (uu ((aq a).drop i)))):=by
 refine ax Tryz.func192 rfl Tryz.ntmps192 rfl ?_;have hl:=av a;unfold uu;rw [iA,Kr];by_cases h34:bat a i=34
 ·rw [if_neg (by omega)];have hcut: ∀ m,aq (sub a i (i+m))=((aq a).drop i).take m:=fun m=>by rw [fX,show i+m - i=m by omega]
  repeat' (first|(apply ai;exact rfl;apply aD (o:=0) (off:=0);exact hr;exact rfl;exact rfl)|refine zZF ?_|refine sM fun _=>?_|(refine sC ?_ ?_<;>intro hb<;>try omega)|exact cT|fail)
  all_goals try (exfalso;omega)
  rename_i g4;generalize hC:du ((aq a).drop (i+1))=C;refine aB [0,1,4,5] rfl (fun j:Nat=> [(6,.int .i64 (j:Int))]) (fun _=> [.box g4 228 (cK kE)]) (fun j=>i+1≤j∧j≤a.size∧C=(du ((aq a).drop j)).map (· +(j - (i+1)))) (fun j=>a.size - j) (i+1) ⟨by omega,by omega,by rw [hC];simp⟩ sB mS ?_;rintro j ⟨hj1,hj2,hj3⟩;by_cases hlt:j<a.size
  ·rw [bO hlt] at hj3;by_cases hq:bat a j=34
   ·by_cases hn:j+1<a.size∧bat a (j+1)=34
    ·rw [bO hn.1,hq,hn.2] at hj3;simp only [du,ne_eq,not_true_eq_false,if_false,if_true,Option.map_map] at hj3;have hn1:=hn.1;repeat' (first|(apply ai;exact rfl;apply aD (o:=0) (off:=0);exact hr;exact rfl;exact rfl)|refine zZF ?_|refine sM fun _=>?_|(refine sC ?_ ?_<;>intro hb<;>try omega)|exact cT|fail)
     all_goals try (exfalso;omega)
     refine ⟨j+2,?_,(by first|omega|(dsimp only;omega)),sB,sB,mS⟩;refine ⟨by omega,by omega,?_⟩;rw [hj3,show j+1+1=j+2 by omega];congr 1;funext k;simp only [Function.comp];omega
    ·have hC0:C=some (j - (i+1)):=by
      rw [hj3,hq];by_cases h1:j+1<a.size
      ·rw [bO h1];have h2:bat a (j+1)≠34:=fun h=>hn ⟨h1,h⟩;simp [du,h2]
      ·rw [I7 (i:=j+1) (by omega)];simp [du]
     rw [hC0];dsimp only;have hm:j - (i+1)+2=j+1 - i:=by omega
     rw [hm];have hc:=hcut (j+1 - i);rw [show i+(j+1 - i)=j+1 by omega] at hc;have hP:=x5 (sub a i (j+1)) (by rw [ck _ (by omega)];omega);rw [hc] at hP;generalize eW (((aq a).drop i).take (j+1 - i))=q at hP;repeat' (first|(apply ai;exact rfl;apply aD (o:=0) (off:=0);exact hr;exact rfl;exact rfl)|(apply ag;exact rfl;exact rfl;(intro w hm;exact hP w))|refine zZF ?_|refine sM fun _=>?_|(refine sC ?_ ?_<;>intro hb<;>try omega)|exact cT|fail)
     all_goals first|(exfalso;omega)|((refine jm ?_);first|(rw [if_pos hb];rfl)|(rw [if_neg hb];rfl))
   ·rw [nn hq,Option.map_map] at hj3;repeat' (first|(apply ai;exact rfl;apply aD (o:=0) (off:=0);exact hr;exact rfl;exact rfl)|refine zZF ?_|refine sM fun _=>?_|(refine sC ?_ ?_<;>intro hb<;>try omega)|exact cT|fail)
    all_goals try (exfalso;omega)
    refine ⟨j+1,?_,(by first|omega|(dsimp only;omega)),sB,sB,mS⟩;refine ⟨by omega,by omega,?_⟩;rw [hj3];congr 1;funext k;simp only [Function.comp];omega
  ·rw [I7 (by omega)] at hj3;rw [hj3];dsimp only [du,Option.map];repeat' (first|(apply ai;exact rfl;apply aD (o:=0) (off:=0);exact hr;exact rfl;exact rfl)|refine zZF ?_|refine sM fun _=>?_|(refine sC ?_ ?_<;>intro hb<;>try omega)|exact cT|fail)
   all_goals try (exfalso;omega)
   (refine jm ?_)
   rfl
 ·rw [if_pos (by omega)];repeat' (first|(apply ai;exact rfl;apply aD (o:=0) (off:=0);exact hr;exact rfl;exact rfl)|refine zZF ?_|refine sM fun _=>?_|(refine sC ?_ ?_<;>intro hb<;>try omega)|exact cT|fail)
  all_goals try (exfalso;omega)
  (refine jm ?_)
  rfl
end Go.SL
namespace Go.SL
open Go Go.Proofs
attribute [local irreducible] W WL WQ WG WA WX WLI WR WT VOp thn blk aW scp aJ aS bg FnAt FnIn FnP
instance iN350:FldT Tryz.prog 228 0 5 0:=⟨_,_,Tryz.underlying228,rfl,rfl,rfl⟩
theorem ru {f:Nat} {fn:Int} {n:Nat} {fin:Int} {p p' :PS} {m:Nat} (h:AY f fn n fin p=some (.ok (m,p'))):p.out.length<p'.out.length:=by
 unfold AY at h;split at h
 ·obtain ⟨m',q,h1,h2⟩:=dH h;cases h2;exact (fL _ _ _ _ _ _ h1).some trivial
 ·split at h
  ·cases h
  ·cases h;simp [PS.put,PS.skip]
theorem xJ {fin:Int} {name:Tk} {fn:Int} {n:Nat} {p:PS} {x:Nd} (hx:p.out[p.out.length - 1]? =some x):cG fin name fn n p=
 if (hdT fin p.l).kind≠10 then some (.error ((hdT fin p.l).at_,4))
 else if (n:Int)<(dX fn).1∨(dX fn).2.1<(n:Int) then some (.error (name.at_,11))
 else if 46≤fn∧x.kind≠2∧x.kind≠3 then some (.error (name.at_,4))
 else some (.ok (0,p.skip.put ⟨7,bD,bp,0,fn,n⟩)):=by
 have hx' :p.out.getLast? =some x:=by rw [List.getLast?_eq_getElem?];exact hx
 unfold cG;simp only [hx',JB,Option.some.injEq,decide_eq_true_eq,ne_eq,not_or]
theorem AX {fn:Int} (h1:1≤fn) (h2:fn≤50):1≤(dX fn).1:=by
 unfold dX;repeat' split
 all_goals first
  |decide
  |(rename_i h;simp [sH,h1,h2] at h)
theorem At.head' {toks:List Tk} {A:Option Nat} {cap:Nat} {fin:Int} {g:Nat} {p:PS} {lv:Value} (h:At toks A cap p lv) {u:Tk} (hu:hdT fin p.l=u) {B:Option Nat} {cb:Nat} {out:List Nd} {H:List Blk} {w0:World} (hH:MSub (pB g lv A cap fin toks B cb out) H) (w:World) (hm:Mem w0 w H):
 aC Tryz.prog 148 [.pointer (some ⟨g,0,none⟩)] w (.agg (cK u).toArray):=hu ▸ At.head h hH w hm
open Classical in
noncomputable def tC (f:Nat) (t:Tk) (v7:Nat→Tk→Int→PS→Option Out) (fin:Int) (p:PS):Option Out:=if hdT fin p.l=t∧t.kind=7 then v7 f t fin p else none
def v7 (f:Nat) (t:Tk) (fin:Int) (p:PS):Option Out:=
 if (bE t.text).2≠0 then some (.error (t.at_,10))
 else
  let u:=hdT fin p.skip.l
  if u.kind≠9 then some (.error (u.at_,4))
  else if (hdT fin p.skip.skip.l).kind=10 then cG fin t (bE t.text).1 0 p.skip.skip
  else dB (aU fin f (.args (bE t.text).1 0) p.skip.skip) fun n p=>cG fin t (bE t.text).1 n p
theorem E7 (f:Nat) (t:Tk) (ih: ∀ f' ≤f,POK f' (.level 1) 147 []):Fg (tC f t v7) 313 [.agg (cK t).toArray]:=by
 intro toks A cap fin g p lv B cb r R w0 hc hl hat hrun;refine pN Tryz.func313 rfl Tryz.ntmps313 rfl ?_;unfold tC at hrun;by_cases ht: ¬ (hdT fin p.l=t∧t.kind=7)
 ·rw [if_neg ht] at hrun;cases hrun
 have ht:=Classical.not_not.1 ht;rw [if_pos ht] at hrun;obtain ⟨ht,ht7⟩:=ht;have hF:=fun w=>wy t.text w;unfold v7 at hrun;obtain ⟨fn,fe,hfe⟩: ∃ fn fe,bE t.text=(fn,fe):=⟨_,_,rfl⟩;have hfn:fe=0→1≤fn∧fn≤50:=by
  intro h;subst h;have hb1:=kw gQ t.text 0 (by omega);rw [kq] at hb1;unfold bE at hfe;split at hfe<;>cases hfe;omega
 rw [hfe] at hrun hF;dsimp only at hF;by_cases h0:fe≠0
 ·rw [if_pos h0] at hrun;cases hrun;repeat' (first|(apply ag (f:=324);exact rfl;exact rfl;(intro w' _;exact hF w'))|(refine aK (f:=149) rfl rfl (eY _ _ _ _ _ (fun _ _=>False)) ?_ ?_)|(exact fun _ _ h=>h.elim)|(rintro _ _ ⟨rfl,rfl⟩)|refine zZC ?_|refine sM fun _=>?_|(refine sC ?_ ?_<;>intro hb<;>try omega)|exact cT|fail)
  all_goals first
   |(exfalso;omega)
   | (refine bu rfl ?_
      simp only [Jh,IE,ID,pB];exact mS)
 rw [if_neg h0] at hrun;dsimp only at hrun;obtain ⟨hfn1,hfn2⟩:=hfn (by omega);by_cases hw9:(hdT fin p.skip.l).kind≠9
 ·rw [if_pos hw9] at hrun;cases hrun;repeat' (first|(apply ag (f:=324);exact rfl;exact rfl;(intro w' _;exact hF w'))|(apply ap (f:=249);exact rfl;exact rfl;exact hat.skip hc (c:=7) (by rw [ht];exact ht7) (by decide) (MSub.pick pK (MSub.pick pK (MSub.pick pK (MSub.refl _))));rintro _ _ ⟨rfl,lv1,h1,rfl⟩)|(refine aK (f:=312) rfl rfl (FnP.msub (rP 9 (by decide) toks A cap fin g p.skip lv1 B cb _ _ w0 hc hl (At1.at h1) (by unfold yj;rw [if_pos hw9])) (MSub.pick pK (MSub.pick pK (MSub.pick pK (MSub.refl _))))) ?_ ?_)|(rintro _ _ ⟨rfl,n,p',lv',B',cb',h,h2,rfl⟩;cases h)|(rintro _ _ ⟨e,h,rfl,h3⟩;cases h)|refine zZC ?_|refine sM fun _=>?_|(refine sC ?_ ?_<;>intro hb<;>try omega)|exact cT|fail)
  all_goals first
   |(exfalso;omega)
   | (refine bu rfl (MSub.trans ?_ h3)
      simp only [Jh,IE,ID,pB];exact mS)
 rw [if_neg hw9] at hrun;repeat' (first|(apply ag (f:=324);exact rfl;exact rfl;(intro w' _;exact hF w'))|(apply ap (f:=249);exact rfl;exact rfl;exact hat.skip hc (c:=7) (by rw [ht];exact ht7) (by decide) (MSub.pick pK (MSub.pick pK (MSub.pick pK (MSub.refl _))));rintro _ _ ⟨rfl,lv1,h1,rfl⟩)|(refine aK (f:=312) rfl rfl (FnP.msub (rP 9 (by decide) toks A cap fin g p.skip lv1 B cb _ _ w0 hc hl (At1.at h1) (by unfold yj;rw [if_neg hw9])) (MSub.pick pK (MSub.pick pK (MSub.pick pK (MSub.refl _))))) ?_ ?_)|(rintro _ _ ⟨rfl,n,p',lv',B',cb',h,h2,rfl⟩;cases h)|(rintro _ _ ⟨e,h,rfl,h3⟩;cases h)|(rename_i g3;refine DK (id:=7) (ι:=Nat × PS × Value × Option Nat × Nat) [0,3,4] rfl (fun x=> [(6,.int .i64 (x.1:Int))]) (fun x=> .box g3 228 (cK t)::(pB g x.2.2.1 A cap fin toks x.2.2.2.1 x.2.2.2.2 x.2.1.out++R)) (fun x=>x.1≤x.2.1.out.length∧At toks A cap x.2.1 x.2.2.1∧cG fin t fn x.1 x.2.1=some r) ?_ ?_)|refine zZC ?_|refine sM fun _=>?_|(refine sC ?_ ?_<;>intro hb<;>try omega)|exact cT|fail)
 ·obtain ⟨u,hu⟩: ∃ u,hdT fin p.skip.skip.l=u:=⟨_,rfl⟩;rw [hu] at hrun;by_cases h10:u.kind=10
  ·rw [if_pos h10] at hrun;repeat' (first|(apply ai;exact rfl;apply gy;exact rfl;exact rfl)|(apply ag (f:=148);exact rfl;exact rfl;(intro w' hm';exact At.head' (B:=B') (cb:=cb') (out:=p.skip.skip.out) (g:=g) (fin:=fin) h2 hu (MSub.pick pK (MSub.pick pK (MSub.pick pK (MSub.nil _)))) w' hm'))|refine dr ((0,p.skip.skip,lv',B',cb')) ?_ sB mS|refine zZC ?_|refine sM fun _=>?_|(refine sC ?_ ?_<;>intro hb<;>try omega)|exact cT|fail)
   all_goals first|(exfalso;omega)|exact ⟨Iw _,h2,hrun⟩
  ·rw [if_neg h10] at hrun;obtain ⟨r1,hr1,hr2⟩:=cj hrun;repeat' (first|(apply ai;exact rfl;apply gy;exact rfl;exact rfl)|(apply ag (f:=148);exact rfl;exact rfl;(intro w' hm';exact At.head' (B:=B') (cb:=cb') (out:=p.skip.skip.out) (g:=g) (fin:=fin) h2 hu (MSub.pick pK (MSub.pick pK (MSub.pick pK (MSub.nil _)))) w' hm'))|refine zZC ?_|refine sM fun _=>?_|(refine sC ?_ ?_<;>intro hb<;>try omega)|exact cT|fail)
   all_goals first
    |(exfalso;omega)
    |skip
   refine aB [0,3,4] rfl (fun x:Nat × Nat × PS × Value × Option Nat × Nat=> [(6,.int .i64 (x.2.1:Int))]) (fun x=> .box g3 228 (cK t)::(pB g x.2.2.2.1 A cap fin toks x.2.2.2.2.1 x.2.2.2.2.2 x.2.2.1.out++R)) (fun x=>x.1≤f∧x.2.1≤x.2.2.1.out.length∧At toks A cap x.2.2.1 x.2.2.2.1∧aU fin x.1 (.args fn x.2.1) x.2.2.1=some r1) (fun x=>x.1) (f,0,p.skip.skip,lv',B',cb') ⟨IK _,Iw _,h2,hr1⟩ sB ?_ ?_
   ·simp only [Jh,IE,ID,pB];exact mS
   rintro ⟨f',n',q,lq,Bq,cq⟩ ⟨hf',hn',hq1,hq2⟩;dsimp only at hf' hn' hq1 hq2 ⊢
   cases f' with
   |zero=>cases hq2
   |succ f' =>
     rw [E9] at hq2;have hn6:n' ≤1000000:=Je hn' (At.len hq1 hl);obtain ⟨r2,hr3,hr4⟩:=cj hq2;repeat' (first|(refine aK (f:=325) rfl rfl (FnP.msub (wj f' fn n' (ih f' (by omega)) toks A cap fin g q lq Bq cq r2 _ w0 hc hl hq1 hr3) (MSub.pick pK (MSub.pick pK (MSub.pick pK (MSub.refl _))))) ?_ ?_)|(rintro _ _ ⟨rfl,n2,q2,lv2,B2,cb2,rfl,h6,rfl⟩;obtain ⟨u2,hu2⟩: ∃ u,hdT fin q2.l=u:=⟨_,rfl⟩)|(rintro _ _ ⟨e,rfl,rfl,h3⟩)|(apply ai;exact rfl;apply gy;exact rfl;exact rfl)|(apply ag (f:=148);exact rfl;exact rfl;(intro w' hm';exact At.head' (B:=B2) (cb:=cb2) (out:=q2.out) (g:=g) (fin:=fin) h6 hu2 (MSub.pick pK (MSub.pick pK (MSub.pick pK (MSub.nil _)))) w' hm'))|(apply ap (f:=249);exact rfl;exact rfl;exact h6.skip hc (c:=11) (by rw [hu2];omega) (by decide) (MSub.pick pK (MSub.pick pK (MSub.pick pK (MSub.refl _))));rintro _ _ ⟨rfl,lv3,h7,rfl⟩)|refine dr ((n' +1,q2,lv2,B2,cb2)) ?_ sB mS|refine sT ?_|refine sP ?_|refine sN ?_|refine sM fun _=>?_|(refine sC ?_ ?_<;>intro hb<;>try omega)|exact cT|fail)
     ·rcases hr4 with ⟨e,h,_⟩|⟨n3,p3,h,h7⟩
      ·cases h
      ·cases h;rw [hu2,if_neg (by omega)] at h7;rcases hr2 with ⟨e,h,_⟩|⟨n4,p4,h,h8⟩
       ·rw [h] at h7;cases h7
       ·rw [h] at h7;cases h7;have:=ru hr3;exact ⟨by dsimp only;omega,h6,h8⟩
     ·rcases hr4 with ⟨e,h,_⟩|⟨n3,p3,h,h7'⟩
      ·cases h
      ·cases h;rw [hu2,if_pos (by omega)] at h7';have:=ru hr3;refine ⟨(f',n' +1,q2.skip,lv3,B2,cb2),⟨by dsimp only;omega,by dsimp only [PS.skip];omega,At1.at h7,h7'⟩,Nat.lt_succ_self _,sB,sB,?_⟩;simp only [Jh,IE,ID,pB];exact mS
     ·rcases hr4 with ⟨e',h,h7⟩|⟨n3,p3,h,h7⟩
      ·cases h;rcases hr2 with ⟨e4,h,h8⟩|⟨n4,p4,h,h8⟩
       ·rw [h] at h7;cases h7;exact bu h8 (MSub.trans (.drop .hd (.refl _)) h3)
       ·rw [h] at h7;cases h7
      ·cases h
 ·rintro ⟨n,q,lq,Bq,cq⟩ ⟨hn',hq1,hq2⟩;dsimp only at hn' hq1 hq2 ⊢;obtain ⟨u,hu⟩: ∃ u,hdT fin q.l=u:=⟨_,rfl⟩;have hap:=AX hfn1 hfn2;have hA:=fun w=>pW fn w;obtain ⟨least,most,ae,hae⟩: ∃ a b c,dX fn=(a,b,c):=⟨_,_,_,rfl⟩;rw [hae] at hA hap;dsimp only at hA hap;by_cases h10:u.kind≠10
  ·simp only [cG,hu,if_pos h10] at hq2;cases hq2;repeat' (first|(apply ai;exact rfl;apply gy;exact rfl;exact rfl)|(apply ag (f:=148);exact rfl;exact rfl;(intro w' hm';exact At.head' (B:=Bq) (cb:=cq) (out:=q.out) (g:=g) (fin:=fin) hq1 hu (MSub.pick pK (MSub.pick pK (MSub.pick pK (MSub.nil _)))) w' hm'))|(refine aK (f:=149) rfl rfl (eY _ _ _ _ _ (fun _ _=>False)) ?_ ?_)|(exact fun _ _ h=>h.elim)|(rintro _ _ ⟨rfl,rfl⟩)|refine zZC ?_|refine sM fun _=>?_|(refine sC ?_ ?_<;>intro hb<;>try omega)|exact cT|fail)
   all_goals first
    |(exfalso;omega)
    | (refine bu rfl ?_
       simp only [Jh,IE,ID,pB];exact mS)
  by_cases hlm:(n:Int)<least∨most<(n:Int)
  ·simp only [cG,hu,if_neg h10,hae,if_pos hlm] at hq2;cases hq2;repeat' (first|(apply ai;exact rfl;apply gy;exact rfl;exact rfl)|(apply ag (f:=148);exact rfl;exact rfl;(intro w' hm';exact At.head' (B:=Bq) (cb:=cq) (out:=q.out) (g:=g) (fin:=fin) hq1 hu (MSub.pick pK (MSub.pick pK (MSub.pick pK (MSub.nil _)))) w' hm'))|(apply ag (f:=279);exact rfl;exact rfl;(intro w' _;exact hA w'))|(refine aK (f:=149) rfl rfl (eY _ _ _ _ _ (fun _ _=>False)) ?_ ?_)|(exact fun _ _ h=>h.elim)|(rintro _ _ ⟨rfl,rfl⟩)|refine zZC ?_|refine sM fun _=>?_|(refine sC ?_ ?_<;>intro hb<;>try omega)|exact cT|fail)
   all_goals first
    |(exfalso;omega)
    | (refine bu rfl ?_
       simp only [Jh,IE,ID,pB];exact mS)
  have hpos:0<q.out.length:=by omega
  have hol:q.out.length≤1000000:=At.len hq1 hl;obtain ⟨x,hx⟩: ∃ x,q.out[q.out.length - 1]? =some x:=⟨_,Ir (by omega)⟩;rw [xJ hx,hu,hae,if_neg h10] at hq2;dsimp only at hq2;rw [if_neg hlm] at hq2;refine bH (A:=Bq) (by simp only [Jh,IE,ID,pB];exact pK) hpos fun gb hB=> ?_;subst hB;by_cases hkx:46≤fn∧x.kind≠2∧x.kind≠3
  ·rw [if_pos hkx] at hq2;cases hq2;repeat' (first|(apply ai;exact rfl;apply gy;exact rfl;exact rfl)|(apply ag (f:=148);exact rfl;exact rfl;(intro w' hm';exact At.head' (B:=some gb) (cb:=cq) (out:=q.out) (g:=g) (fin:=fin) hq1 hu (MSub.pick pK (MSub.pick pK (MSub.pick pK (MSub.nil _)))) w' hm'))|(apply ag (f:=279);exact rfl;exact rfl;(intro w' _;exact hA w'))|(apply cg;exact rfl;apply fp;exact rfl;exact rfl;exact hpos;(simp only [maxLen];omega))|(apply cg;exact rfl;apply aa;exact rfl;exact rfl;omega)|(apply cg;exact rfl;apply mR (k:=0);exact gh;exact rfl;exact pK;decide;exact hx;exact rfl)|(refine aK (f:=149) rfl rfl (eY _ _ _ _ _ (fun _ _=>False)) ?_ ?_)|(exact fun _ _ h=>h.elim)|(rintro _ _ ⟨rfl,rfl⟩)|refine sT ?_|refine sP ?_|refine sQ ?_|refine sN ?_|refine sNQ ?_|refine sD ?_|refine sM fun _=>?_|(refine sC ?_ ?_<;>intro hb<;>try omega)|(refine sCQ ?_ ?_<;>intro hb<;>try omega)|exact cT|fail)
   all_goals first
    |(exfalso;omega)
    | (refine bu rfl ?_
       simp only [Jh,IE,ID,pB];exact mS)
  ·rw [if_neg hkx] at hq2;cases hq2;repeat' (first|(apply ai;exact rfl;apply gy;exact rfl;exact rfl)|(apply ag (f:=148);exact rfl;exact rfl;(intro w' hm';exact At.head' (B:=some gb) (cb:=cq) (out:=q.out) (g:=g) (fin:=fin) hq1 hu (MSub.pick pK (MSub.pick pK (MSub.pick pK (MSub.nil _)))) w' hm'))|(apply ag (f:=279);exact rfl;exact rfl;(intro w' _;exact hA w'))|(apply cg;exact rfl;apply fp;exact rfl;exact rfl;exact hpos;(simp only [maxLen];omega))|(apply cg;exact rfl;apply aa;exact rfl;exact rfl;omega)|(apply cg;exact rfl;apply mR (k:=0);exact gh;exact rfl;exact pK;decide;exact hx;exact rfl)|(apply ap (f:=249);exact rfl;exact rfl;exact hq1.skip hc (c:=10) (by rw [hu];omega) (by decide) (MSub.pick pK (MSub.pick pK (MSub.pick pK (MSub.refl _))));rintro _ _ ⟨rfl,lv1,h1',rfl⟩)|(apply ap (f:=250);exact rfl;exact rfl;exact FnIn.msub (gA ⟨7,bD,bp,0,fn,n⟩ _ _ _ _ _ _ _ _ _ (At.len hq1 hl) _ _) (MSub.pick pK (MSub.pick pK (MSub.pick pK (MSub.refl _))));rintro _ _ ⟨rfl,B3,cb3,rfl⟩)|refine sT ?_|refine sP ?_|refine sQ ?_|refine sN ?_|refine sNQ ?_|refine sD ?_|refine sM fun _=>?_|(refine sC ?_ ?_<;>intro hb<;>try omega)|(refine sCQ ?_ ?_<;>intro hb<;>try omega)|exact cT|fail)
   all_goals first
    |(exfalso;omega)
    | (refine cF (p' := q.skip.put ⟨7, bD, bp, 0, fn, n⟩) (B' := B3) (cb' := cb3) (by first | exact .inr rfl | exact .inl rfl) rfl rfl (h1'.put _) ?_
       simp only [Jh,IE,ID,pB];exact mS)
end Go.SL
namespace Go.SL
open Go Go.Proofs
attribute [local irreducible] W WL WQ WG WA WX WLI WR WT VOp thn blk aW scp aJ bg FnAt FnIn
theorem Ep {l m:List Int} (hl:eC l) (hm:eC m):mkB l=mkB m↔l=m:=⟨fun h=>by rw [← jD hl,← jD hm,h],fun h=>by rw [h]⟩
theorem kz (a b:ByteArray) (w:World):aC Tryz.prog 182 [.string a,.string b] w (.bool (decide ((aq a).take b.size=aq b))):=by
 refine ax Tryz.func182 rfl Tryz.ntmps182 rfl ?_;have ha:=av a;have hb' :=av b;have e: ∀ h:b.size≤a.size,decide (sub a 0 b.size=b)=decide ((aq a).take b.size=aq b):=fun h=>by
  rw [decide_eq_decide,← sL];exact ⟨fun h=>by rw [h],fun h=>vv h⟩
 repeat' (first|refine zZD ?_|refine sM fun _=>?_|(refine sC ?_ ?_<;>intro hb<;>try omega)|fail)
 ·rw [e (by omega)];(refine rT1 ?_)
  rfl
 ·(refine rT1 ?_);rw [decide_eq_false];intro h;have:=congrArg List.length h;rw [Jl] at this;omega
theorem s5 (a b:ByteArray) (w:World):aC Tryz.prog 245 [.string a,.string b] w (.bool (decide ((aq a).take b.size=aq b))):=by
 refine ax Tryz.func245 rfl Tryz.ntmps245 rfl ?_;repeat' (first|(apply ag;exact rfl;exact rfl;(intro w hm;exact kz a b w))|refine sT ?_|refine sM fun _=>?_|(refine sC ?_ ?_<;>intro hb<;>try omega)|fail)
 (refine rT1 ?_)
 rfl
theorem pu (c:Int) (w:World):aC Tryz.prog 242 [.int .i64 c] w (.bool (decide (1≤c) && decide (c≤5))):=by
 refine ax Tryz.func242 rfl Tryz.ntmps242 rfl ?_;repeat' (first|refine sT ?_|refine sM fun _=>?_|(refine sC ?_ ?_<;>intro hb<;>try omega)|fail)
 all_goals ((refine rT1 ?_);simp_all<;>omega)
theorem tq {k:Nat} (h1:1≤k) (h2:k≤5): ∃ s,f9.drop (k - 1)=s::f9.drop k∧cP.getD k aA=mkB s∧eC s∧s.length≤10:=by
 rcases (by omega:k=1∨k=2∨k=3∨k=4∨k=5) with rfl|rfl|rfl|rfl|rfl<;>refine ⟨_,rfl,rfl,?_,by decide⟩<;>(intro c hc;simp at hc;omega)
theorem jy (l:List Int):(mkB l).size=l.length:=by simp [mkB,ByteArray.size]
def vM (l:List Int):Option (Tk × Nat):=(m8 l f9 1).map fun x=>(⟨4,x.1,aA,bp,0⟩,x.2)
theorem EI (a:ByteArray) (ha:a.size≤100000) (i:Nat) (hi:i≤a.size) (g:Nat) (w:World) (hr:Ro w g 0 [.string a]) (hW:Words w):
 aC Tryz.prog 194 [.pointer (some ⟨g,0,none⟩),.int .i64 (i:Int)] w (wU (atT i (vM ((aq a).drop i)))):=by
 refine ax Tryz.func194 rfl Tryz.ntmps194 rfl ?_;have hl:=av a;unfold vM;generalize hF:m8 ((aq a).drop i) f9 1=F;repeat' (first|refine zZD ?_|refine sM fun _=>?_|(refine sC ?_ ?_<;>intro hb<;>try omega)|fail)
 rename_i g4;refine aB [0,1,4,5] rfl (fun k:Nat=> [(6,.int .i64 (k:Int))]) (fun _=> [.box g4 228 (cK kE)]) (fun k=>1≤k∧k≤6∧F=m8 ((aq a).drop i) (f9.drop (k - 1)) k) (fun k=>6 - k) 1 ⟨by omega,by omega,hF.symm⟩ sB mS ?_;rintro k ⟨hk1,hk2,hk3⟩;by_cases hk:k≤5
 ·obtain ⟨s,e1,e2,e3,e4⟩:=tq hk1 hk;have e5:iC (k:Int)=⟨4,(k:Int),aA⟩:=by rw [iC,if_neg (by omega)]
  have hFa:=ji (k:Int);rw [e5] at hFa;have hSh:=fun w' h=>Ff (k:Int) (by omega) (by omega) w' h;rw [KZ,e2] at hSh;rw [e1,m8] at hk3;have hlit:(decide (1≤(k:Int)) && decide ((k:Int)≤5))=true:=by simp;omega
  have hL:=pu (k:Int);rw [hlit] at hL;have hms:=jy s;have hcut:aq (sub a i (i+s.length))=((aq a).drop i).take s.length:=by rw [fX,show i+s.length - i=s.length by omega]
  have hU:=fun h=>lS (sub a i (i+s.length)) h;have hdec:upB (sub a i (i+s.length))=mkB s↔(((aq a).drop i).take s.length).map upC=s:=by
   rw [upB,hcut,Ep _ e3];rw [← hcut,← CQ];exact jV _
  rw [← hms] at hU hdec hk3;repeat' (first|(apply ai;exact rfl;apply aD (o:=0) (off:=0);exact hr;exact rfl;exact rfl)|(apply ag;exact rfl;exact rfl;(intro w hm;exact hL w))|(apply ag;exact rfl;exact rfl;(intro w hm;exact hFa w))|(apply ag;exact rfl;exact rfl;(intro w' hm;exact hSh w' (hW.next hm)))|(apply ag;exact rfl;exact rfl;(intro w hm;exact hU (by rw [ck _ (by omega)];omega) w))|refine zZF ?_|refine sM fun _=>?_|(refine sC ?_ ?_<;>intro hb<;>try omega)|fail)
  ·(refine jm ?_);rw [hk3,if_pos (hdec.1 hb)]
   rfl
  ·refine ⟨k+1,?_,(by first|omega|(dsimp only;omega)),sB,sB,mS⟩;refine ⟨by omega,by omega,?_⟩;rw [hk3,if_neg fun h=>hb (hdec.2 h)]
   rfl
  ·refine ⟨k+1,?_,(by first|omega|(dsimp only;omega)),sB,sB,mS⟩;refine ⟨by omega,by omega,?_⟩;rw [hk3,if_neg]
   ·rfl
   ·intro h;have:=congrArg List.length h;rw [II,Jl,Jg] at this;omega
 ·have e:k=6:=by omega
  subst e;rw [show f9.drop (6 - 1)= [] from rfl,m8] at hk3;rw [hk3];have hL:=pu 6;rw [show (decide (1≤(6:Int)) && decide ((6:Int)≤5))=false from rfl] at hL;repeat' (first|(apply ag;exact rfl;exact rfl;(intro w hm;exact hL w))|refine zZD ?_|refine sM fun _=>?_|(refine sC ?_ ?_<;>intro hb<;>try omega)|fail)
  all_goals try (exfalso;omega)
  (refine jm ?_)
  rfl
def yF:List Value:=fA.map fun x=> .string (mkB x.1)
def yG:List Value:=fA.map fun x=> .int .i64 x.2
theorem sn (w:World):FnAt Tryz.prog 244 [] w fun v H=> ∃ g g',v= .tuple #[sl (some g) 13 13,sl (some g') 13 13]∧H= [.own (some g) 9 1 13 13 yF,.own (some g') 2 1 13 13 yG]:=by
 refine ax Tryz.func244 rfl Tryz.ntmps244 rfl ?_;repeat' (first|refine sT ?_|refine sM fun _=>?_|(refine sC ?_ ?_<;>intro hb<;>try omega)|fail)
 rename_i g g';refine eX (.inl rfl) rfl rfl rfl (H' := [.own (some g) 9 1 13 13 yF,.own (some g') 2 1 13 13 yG]) ?_ ⟨g,g',rfl,rfl⟩;exact mS
theorem Gm {k:Nat} (h:k<13): ∃ s n,fA.drop k=(s,n)::fA.drop (k+1)∧yF[k]? =some (.string (mkB s))∧yG[k]? =some (.int .i64 n)∧eC s∧s.length≤2:=by
 rcases (by omega:k=0∨k=1∨k=2∨k=3∨k=4∨k=5∨k=6∨k=7∨k=8∨k=9∨k=10∨k=11∨k=12) with rfl|rfl|rfl|rfl|rfl|rfl|rfl|rfl|rfl|rfl|rfl|rfl|rfl<;>refine ⟨_,_,rfl,rfl,rfl,?_,by decide⟩<;>(intro c hc;simp at hc;omega)
def uE (l:List Int):Option (Tk × Nat):=
 match opL l fA with
 |some (k,n)=>some (⟨8,k,aA,bp,0⟩,n)
 |none=>if l.headD 0=40 then some (⟨9,0,aA,bp,0⟩,1) else if l.headD 0=41 then some (⟨10,0,aA,bp,0⟩,1) else if l.headD 0=44 then some (⟨11,0,aA,bp,0⟩,1) else none
theorem Eb (a:ByteArray) (ha:a.size≤100000) (i:Nat) (hi:i<a.size) (g:Nat) (w:World) (hr:Ro w g 0 [.string a]):
 aC Tryz.prog 195 [.pointer (some ⟨g,0,none⟩),.int .i64 (i:Int)] w (wU (atT i (uE ((aq a).drop i)))):=by
 refine ax Tryz.func195 rfl Tryz.ntmps195 rfl ?_;have hl:=av a;unfold uE;rw [iA];generalize hF:opL ((aq a).drop i) fA=F;repeat' (first|(apply aH;exact rfl;exact rfl;(intro w' hm;exact sn w');(rintro v H' ⟨gs,gn,rfl,rfl⟩))|refine zZD ?_|refine sM fun _=>?_|(refine sC ?_ ?_<;>intro hb<;>try omega)|fail)
 rename_i g4;refine aB [0,1,4,5,7,14,15] rfl (fun k:Nat=> [(16,.int .i64 (k:Int))]) (fun _=> [.box g4 228 (cK kE),.own (some gs) 9 1 13 13 yF,.own (some gn) 2 1 13 13 yG]) (fun k=>k≤13∧F=opL ((aq a).drop i) (fA.drop k)) (fun k=>13 - k) 0 ⟨by omega,hF.symm⟩ sB mS ?_;rintro k ⟨hk2,hk3⟩;by_cases hk:k<13
 ·obtain ⟨s,m,e1,e2,e3,e4,e5⟩:=Gm hk;rw [e1,opL] at hk3;have hms:=jy s;have hP:=s5 (sub a i a.size) (mkB s);rw [jW,jD e4,hms] at hP;repeat' (first|(apply ai;exact rfl;apply aD (o:=0) (off:=0);exact hr;exact rfl;exact rfl)|(apply ag;exact rfl;exact rfl;(intro w hm;exact hP w))|(apply ai;exact rfl;apply aa (j:=k);exact rfl;exact rfl;exact hk)|(apply ai;exact rfl;apply ak;exact rfl;exact pK;(rw [show 0+k*1=k by omega];first|exact e2|exact e3))|refine zZF ?_|refine sM fun _=>?_|(refine sC ?_ ?_<;>intro hb<;>try omega)|fail)
  ·(refine jm ?_);rw [hk3,if_pos hb,hms]
   rfl
  ·refine ⟨k+1,?_,(by first|omega|(dsimp only;omega)),sB,sB,mS⟩;exact ⟨hk,by rw [hk3,if_neg hb]⟩
 ·have e:k=13:=by omega
  subst e;rw [show fA.drop 13= [] from rfl,opL] at hk3;subst hk3;repeat' (first|(apply ai;exact rfl;apply aD (o:=0) (off:=0);exact hr;exact rfl;exact rfl)|refine zZF ?_|refine sM fun _=>?_|(refine sC ?_ ?_<;>intro hb<;>try omega)|fail)
  all_goals try (exfalso;omega)
  all_goals
   (refine jm ?_);simp_all;try rfl
end Go.SL
namespace Go.SL
open Go Go.Proofs
attribute [local irreducible] W WL WQ WG WA WX WLI WR WT VOp thn blk aW scp aJ aS bg FnAt FnIn FnP
theorem zP (fin:Int) (f:Nat) (p:PS) (h:(hdT fin p.l).kind=7):aU fin (f+1) .prim p=v7 f (hdT fin p.l) fin p:=by
 rw [aU];dsimp only;rw [if_neg (by omega),if_neg (by omega),if_neg (by omega),if_pos h]
 rfl
theorem xa (f:Nat) (ih: ∀ f' ≤f,POK f' (.level 1) 147 []):POK (f+1) .prim 298 []:=by
 intro toks A cap fin g p lv B cb r R w0 hc hl hat hrun;refine pN Tryz.func298 rfl Tryz.ntmps298 rfl ?_;obtain ⟨t,ht⟩: ∃ t,hdT fin p.l=t:=⟨_,rfl⟩;have hh:=fun w hm=>At.head' (fin:=fin) (g:=g) (B:=B) (cb:=cb) (out:=p.out) (H:=pB g lv A cap fin toks B cb p.out++R) (w0:=w0) hat ht (MSub.pick .hd (.pick .hd (.pick .hd (.nil _)))) w hm;by_cases h7:t.kind=7
 ·rw [zP _ _ _ (by rw [ht];exact h7),ht] at hrun;have hcl:=E7 f t ih toks A cap fin g p lv B cb r;unfold tC at hcl;rw [if_pos ⟨ht,h7⟩] at hcl;repeat' (first|(apply ag (f:=148);exact rfl;exact rfl;exact hh)|(refine aK (f:=313) rfl rfl (FnP.msub (hcl _ w0 hc hl hat hrun) (MSub.pick pK (MSub.pick pK (MSub.pick pK (MSub.refl _))))) ?_ ?_)|(rintro _ _ ⟨rfl,n,p',lv',B',cb',rfl,h2,rfl⟩)|(rintro _ _ ⟨e,rfl,rfl,h3⟩)|refine zZC ?_|refine sM fun _=>?_|(refine sC ?_ ?_<;>intro hb<;>try omega)|fail)
  ·refine cF (B' :=B') (cb' :=cb') (by first|exact .inr rfl|exact .inl rfl) rfl rfl h2 ?_;simp only [Jh,IE,ID,pB];exact mS
  ·exact bu rfl (MSub.trans (.drop .hd (.refl _)) h3)
 rw [aU] at hrun;dsimp only at hrun;rw [ht] at hrun;by_cases h14:1≤t.kind∧t.kind≤4
 ·rw [if_pos h14] at hrun;cases hrun;rcases (by omega:t.kind=1∨t.kind=2∨t.kind=3∨t.kind=4) with hk|hk|hk|hk
  ·repeat' (first|(apply ag (f:=148);exact rfl;exact rfl;exact hh)|(refine aK (f:=311) rfl rfl (FnP.msub (lc ⟨1,t.num,aA⟩ toks A cap fin g p _ B cb (.ok (0,p.skip.put (sF t))) _ w0 hc hl hat (by dsimp only;rw [if_neg (by rw [ht];omega)];simp [sF,hk])) (MSub.pick pK (MSub.pick pK (MSub.pick pK (MSub.refl _))))) ?_ ?_)|(rintro _ _ ⟨rfl,n,p',lv',B',cb',h,h2,rfl⟩)|(rintro _ _ ⟨e,h,rfl,h3⟩;cases h)|refine zZC ?_|refine sM fun _=>?_|(refine sC ?_ ?_<;>intro hb<;>try omega)|fail)
   all_goals first
    |(exfalso;omega)
    | (refine cF (B' := B') (cb' := cb') (by first | exact .inr rfl | exact .inl rfl) rfl h h2 ?_
       simp only [Jh,IE,ID,pB];exact mS)
  ·repeat' (first|(apply ag (f:=148);exact rfl;exact rfl;exact hh)|(refine aK (f:=311) rfl rfl (FnP.msub (lc ⟨3,0,t.text⟩ toks A cap fin g p _ B cb (.ok (0,p.skip.put (sF t))) _ w0 hc hl hat (by dsimp only;rw [if_neg (by rw [ht];omega)];simp [sF,hk])) (MSub.pick pK (MSub.pick pK (MSub.pick pK (MSub.refl _))))) ?_ ?_)|(rintro _ _ ⟨rfl,n,p',lv',B',cb',h,h2,rfl⟩)|(rintro _ _ ⟨e,h,rfl,h3⟩;cases h)|refine zZC ?_|refine sM fun _=>?_|(refine sC ?_ ?_<;>intro hb<;>try omega)|fail)
   all_goals first
    |(exfalso;omega)
    | (refine cF (B' := B') (cb' := cb') (by first | exact .inr rfl | exact .inl rfl) rfl h h2 ?_
       simp only [Jh,IE,ID,pB];exact mS)
  ·repeat' (first|(apply ag (f:=148);exact rfl;exact rfl;exact hh)|(refine aK (f:=311) rfl rfl (FnP.msub (lc ⟨2,t.num,aA⟩ toks A cap fin g p _ B cb (.ok (0,p.skip.put (sF t))) _ w0 hc hl hat (by dsimp only;rw [if_neg (by rw [ht];omega)];simp [sF,hk])) (MSub.pick pK (MSub.pick pK (MSub.pick pK (MSub.refl _))))) ?_ ?_)|(rintro _ _ ⟨rfl,n,p',lv',B',cb',h,h2,rfl⟩)|(rintro _ _ ⟨e,h,rfl,h3⟩;cases h)|refine zZC ?_|refine sM fun _=>?_|(refine sC ?_ ?_<;>intro hb<;>try omega)|fail)
   all_goals first
    |(exfalso;omega)
    | (refine cF (B' := B') (cb' := cb') (by first | exact .inr rfl | exact .inl rfl) rfl h h2 ?_
       simp only [Jh,IE,ID,pB];exact mS)
  ·repeat' (first|(apply ag (f:=148);exact rfl;exact rfl;exact hh)|(refine aK (f:=311) rfl rfl (FnP.msub (lc ⟨4,t.num,aA⟩ toks A cap fin g p _ B cb (.ok (0,p.skip.put (sF t))) _ w0 hc hl hat (by dsimp only;rw [if_neg (by rw [ht];omega)];simp [sF,hk])) (MSub.pick pK (MSub.pick pK (MSub.pick pK (MSub.refl _))))) ?_ ?_)|(rintro _ _ ⟨rfl,n,p',lv',B',cb',h,h2,rfl⟩)|(rintro _ _ ⟨e,h,rfl,h3⟩;cases h)|refine zZC ?_|refine sM fun _=>?_|(refine sC ?_ ?_<;>intro hb<;>try omega)|fail)
   all_goals first
    |(exfalso;omega)
    | (refine cF (B' := B') (cb' := cb') (by first | exact .inr rfl | exact .inl rfl) rfl h h2 ?_
       simp only [Jh,IE,ID,pB];exact mS)
 rw [if_neg h14] at hrun;by_cases h5:t.kind=5
 ·rw [if_pos h5] at hrun;cases hrun;repeat' (first|(apply ag (f:=148);exact rfl;exact rfl;exact hh)|(apply ap (f:=249);exact rfl;exact rfl;exact hat.skip hc (c:=5) (by rw [ht];exact h5) (by decide) (MSub.pick pK (MSub.pick pK (MSub.pick pK (MSub.refl _))));rintro _ _ ⟨rfl,lv1,h1,rfl⟩)|(apply ap (f:=250);exact rfl;exact rfl;exact FnIn.msub (gA ⟨2,bD,t.rect,0,0,0⟩ _ _ _ _ _ _ _ _ _ (At.len hat hl) _ _) (MSub.pick pK (MSub.pick pK (MSub.pick pK (MSub.refl _))));rintro _ _ ⟨rfl,B3,cb3,rfl⟩)|refine zZC ?_|refine sM fun _=>?_|(refine sC ?_ ?_<;>intro hb<;>try omega)|fail)
  all_goals first
   |(exfalso;omega)
   | (refine cF (p' := p.skip.put ⟨2, bD, t.rect, 0, 0, 0⟩) (B' := B3) (cb' := cb3) (by first | exact .inr rfl | exact .inl rfl) rfl rfl (h1.put _) ?_
      simp only [Jh,IE,ID,pB];exact mS)
 rw [if_neg h5] at hrun;by_cases h9:t.kind=9
 ·rw [if_pos h9] at hrun;obtain ⟨r1,hr1,hr2⟩:=cj hrun;repeat' (first|(apply ag (f:=148);exact rfl;exact rfl;exact hh)|(apply ap (f:=249);exact rfl;exact rfl;exact hat.skip hc (c:=9) (by rw [ht];exact h9) (by decide) (MSub.pick pK (MSub.pick pK (MSub.pick pK (MSub.refl _))));rintro _ _ ⟨rfl,lv1,h1,rfl⟩)|(refine aK (f:=147) rfl rfl (FnP.msub (ih f (IK _) toks A cap fin g p.skip _ B cb r1 _ w0 hc hl (At1.at h1) hr1) (MSub.pick pK (MSub.pick pK (MSub.pick pK (MSub.refl _))))) ?_ ?_)|(rintro _ _ ⟨rfl,n,p',lv',B',cb',rfl,h2,rfl⟩)|(rintro _ _ ⟨e,rfl,rfl,h3⟩)|(rcases hr2 with ⟨e,h,_⟩|⟨n1,p1,h,hw⟩;cases h;cases h;refine aK (f:=312) rfl rfl (FnP.msub (rP 10 (by decide) toks A cap fin g p' _ B' cb' r _ w0 hc hl h2 hw) (MSub.pick pK (MSub.pick pK (MSub.pick pK (MSub.refl _))))) ?_ ?_)|refine zZC ?_|refine sM fun _=>?_|(refine sC ?_ ?_<;>intro hb<;>try omega)|fail)
  ·refine cF (B' :=B') (cb' :=cb') (by first|exact .inr rfl|exact .inl rfl) rfl rfl h2 ?_;simp only [Jh,IE,ID,pB];exact mS
  ·exact bu rfl (MSub.trans (.drop .hd (.refl _)) h3)
  ·rcases hr2 with ⟨e',h,h5⟩|⟨n1,p1,h,h5⟩
   ·cases h;exact bu h5 (MSub.trans (.drop .hd (.refl _)) h3)
   ·cases h
 rw [if_neg h9,if_neg h7] at hrun;cases hrun;repeat' (first|(apply ag (f:=148);exact rfl;exact rfl;exact hh)|(refine aK (f:=149) rfl rfl (eY _ _ _ _ _ (fun _ _=>False)) ?_ ?_)|(exact fun _ _ h=>h.elim)|(rintro _ _ ⟨rfl,rfl⟩)|refine zZC ?_|refine sM fun _=>?_|(refine sC ?_ ?_<;>intro hb<;>try omega)|fail)
 all_goals first
  |(exfalso;omega)
  | (refine bu rfl ?_
     simp only [Jh,IE,ID,pB];exact mS)
theorem zS (f:Nat):(∀ k:Int,1≤k→k≤4→POK f (.level k) 196 [.int .i64 k])∧POK f .sign 246 []∧POK f .pct 278 []∧POK f .prim 298 []∧POK f (.level 1) 147 []:=by
 induction f using Nat.strongRecOn with
 |_ f ih=>
  cases f with
  |zero=>
   refine ⟨fun k _ _=> ?_,?_,?_,?_,?_⟩;all_goals exact fun toks A cap fin g p lv B cb r R w0 hc hl hat h=>by cases h
  |succ f=>
   have hL: ∀ k:Int,1≤k→k≤4→POK (f+1) (.level k) 196 [.int .i64 k]:=fun k h1 h4=>
    CI f k h1 h4 (fun h3 f' hf' =>(ih f' (by omega)).1 (k+1) (by omega) (by omega)) (fun f' hf' =>(ih f' (by omega)).2.1)
   refine ⟨hL,Ea f (ih f (by omega)).2.1 (ih f (by omega)).2.2.1,xe f (ih f (by omega)).2.2.2.1,xa f (fun f' hf' =>(ih f' (by omega)).2.2.2.2),xG (f+1) (hL 1 (by omega) (by omega))⟩
end Go.SL
namespace Go.SL
open Go Go.Proofs
attribute [local irreducible] W WL WQ WG WA WX WLI WR WT VOp thn blk aW scp aJ bg FnAt FnIn
def nV (l:List Int):Option (Tk × Nat):=
 if fD (l.headD 0)=false then none
 else if (l.drop (aM cN l)).headD 0=40 then some (⟨7,0,mkB (upW l),bp,0⟩,aM cN l)
 else if mkB (upW l)=yw then some (⟨3,1,aA,bp,0⟩,aM cN l)
 else if mkB (upW l)=tj then some (⟨3,0,aA,bp,0⟩,aM cN l)
 else if (dw (upW l)).2.2≠0 then none
 else if (l.drop (aM cN l)).headD 0=58∧fD ((l.drop (aM cN l+1)).headD 0)=true∧(dw (upW (l.drop (aM cN l+1)))).2.2=0∧(l.drop (aM cN l+1+aM cN (l.drop (aM cN l+1)))).headD 0≠40 then
  some (⟨if (dw (upW l)).1=(dw (upW (l.drop (aM cN l+1)))).1∧(dw (upW l)).2.1=(dw (upW (l.drop (aM cN l+1)))).2.1 then 5 else 6,0,aA,
   ⟨min (dw (upW l)).1 (dw (upW (l.drop (aM cN l+1)))).1,min (dw (upW l)).2.1 (dw (upW (l.drop (aM cN l+1)))).2.1,max (dw (upW l)).1 (dw (upW (l.drop (aM cN l+1)))).1,max (dw (upW l)).2.1 (dw (upW (l.drop (aM cN l+1)))).2.1⟩,0⟩,aM cN l+1+aM cN (l.drop (aM cN l+1)))
 else some (⟨5,0,aA,j9 (dw (upW l)).1 (dw (upW l)).2.1,0⟩,aM cN l)
theorem CA (a b:Int):(if b<a then b else a)=min a b:=by omega
theorem CB (a b:Int):(if a<b then b else a)=max a b:=by omega
theorem wn (l:List Int) (hl:eC l) (hlen:l.length≤100000) (w:World):aC Tryz.prog 241 [.string (mkB l)] w (.tuple #[.agg (az ⟨(dw l).1,(dw l).2.1⟩).toArray,.int .i64 (dw l).2.2]):=by
 have h:=tE (mkB l) (by rw [jy];exact hlen) w;rw [jD hl,Du] at h;exact h
theorem DC (a:ByteArray) (ha:a.size≤10000) (i:Nat) (hi:i<a.size) (g:Nat) (w:World) (hr:Ro w g 0 [.string a]):
 aC Tryz.prog 193 [.pointer (some ⟨g,0,none⟩),.int .i64 (i:Int)] w (wU (atT i (nV ((aq a).drop i)))):=by
 refine ax Tryz.func193 rfl Tryz.ntmps193 rfl ?_;have hl:=av a;have hP1:=fun w' h=>uQ a (by omega) i (by omega) g w' h;have hwl:=cX cN ((aq a).drop i);have hul:=oG ((aq a).drop i);have huk:eC (upW ((aq a).drop i)):=BS fun c hc=>jV a c (KP hc);rw [Jg] at hwl;have hW:nV ((aq a).drop i)=nV ((aq a).drop i):=rfl;unfold nV at hW ⊢;clear hW;rw [iA];simp only [Kr];generalize hn:aM cN ((aq a).drop i)=n at*;generalize hu:upW ((aq a).drop i)=u at*;rw [iA];have hus:(mkB u).size=n:=by rw [jy,hul]
 have hA1:=wn u huk (by omega);generalize hau:dw u=A1 at hA1;obtain ⟨c1,r1,e1⟩:=A1;dsimp only at hA1 ⊢;have hN1:=fun w' h=>sw a (by omega) (i+n) g w' h;have hN2:=fun w' h=>sw a (by omega) (i+n+1) g w' h;have hb1l:bat a (i+n)≠0→i+n<a.size:=fun h=>by
  rcases Kv (i+n) a.size with h1|h1
  ·exact h1
  ·exfalso;apply h;rw [bat,J2,IC (by omega)];rfl
 generalize hb1:bat a (i+n)=b1 at hN1 hb1l;rw [show i+(n+1)=i+n+1 by omega];have hvl:=oG ((aq a).drop (i+n+1));have hvk:eC (upW ((aq a).drop (i+n+1))):=BS fun c hc=>jV a c (KP hc);have hvr:=cX cN ((aq a).drop (i+n+1));rw [Jg] at hvr;have hP2:=fun w' hi h=>uQ a (by omega) (i+n+1) hi g w' h;generalize hm:aM cN ((aq a).drop (i+n+1))=m at*;generalize hv:upW ((aq a).drop (i+n+1))=v at*;rw [iA,iA];have hvs:(mkB v).size=m:=by rw [jy,hvl]
 have hA2:=wn v hvk (by omega);generalize hav:dw v=A2 at hA2;obtain ⟨c2,r2,e2⟩:=A2;dsimp only at hA2 ⊢;rw [show i+(n+1+m)=i+n+1+m by omega];have hN3:=fun w' h=>sw a (by omega) (i+n+1+m) g w' h;generalize hb2:bat a (i+n+1)=b2 at hN2;generalize hb3:bat a (i+n+1+m)=b3 at hN3;repeat' (first|(apply ai;exact rfl;apply aD (o:=0) (off:=0);exact hr;exact rfl;exact rfl)|(apply ag;exact rfl;exact rfl;(intro w hm;exact lC _ w))|(apply ai (d:=28);exact rfl;apply lY;exact rfl;exact hus)|(apply ai (d:=90);exact rfl;apply lY;exact rfl;exact hvs)|(apply ai (d:=126);exact rfl;apply lY;exact rfl;exact hvs)|(apply ag (d:=26);exact rfl;exact rfl;(intro w' hm;exact hP1 w' (hr.next hm)))|(apply ag (d:=77);exact rfl;exact rfl;(intro w' hm;exact hP2 w' (hb1l (by omega)) (hr.next hm)))|(apply ag (d:=34);exact rfl;exact rfl;(intro w' hm;exact hN1 w' (hr.next hm)))|(apply ag (d:=65);exact rfl;exact rfl;(intro w' hm;exact hN1 w' (hr.next hm)))|(apply ag (d:=71);exact rfl;exact rfl;(intro w' hm;exact hN2 w' (hr.next hm)))|(apply ag (d:=92);exact rfl;exact rfl;(intro w' hm;exact hN3 w' (hr.next hm)))|(apply ag;exact rfl;exact rfl;(intro w hm;exact hA1 w))|(apply ag;exact rfl;exact rfl;(intro w hm;exact hA2 w))|(apply ai (d:=99);exact rfl;exact CA _ _ ▸ yp rfl rfl)|(apply ai (d:=104);exact rfl;exact CA _ _ ▸ yp rfl rfl)|(apply ai (d:=109);exact rfl;exact CB _ _ ▸ yq rfl rfl)|(apply ai (d:=114);exact rfl;exact CB _ _ ▸ yq rfl rfl)|(apply ai (d:=118);exact rfl;exact FZ (a:=⟨c1,r1⟩) (b:=⟨c2,r2⟩) rfl rfl)|(apply ag;exact rfl;exact rfl;(intro w hm;exact mM ⟨c1,r1⟩ w))|refine zZF ?_|refine sM fun _=>?_|(refine sC ?_ ?_<;>intro hb<;>try omega)|fail)
 all_goals
  (refine jm ?_);simp_all [yw,tj,wU,atT,cK,az,bp,aA,j9,eqF,qm,kE]
end Go.SL
