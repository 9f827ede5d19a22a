/-
  Lemmas and walks, put together: Q2 Q3 Q4.
-/
import Derived.Test.YtlnecnbfmnfigaaGreatDoorKu19
set_option linter.unusedSimpArgs false
set_option linter.unusedVariables false
set_option maxRecDepth 20000
namespace Go.SL
open Go Go.Proofs
attribute [local irreducible] W WL WQ WG WA WX WLI WR WT WC VOp RW thn blk bZ scp bA bV ck FnAt FnIn FnP ceP
structure Cx where
 g:Nat
 sa:ByteArray
 A:Option Nat
 cap:Nat
 toks:List Tk
 hsa:sa.size≤256
 ht:toks.length≤256
 hc:Chain toks
def Cx.fin (x:Cx):Int:=(x.sa.size:Int)
def Cx.B (x:Cx) (k:Nat) (B:Option Nat) (cb:Nat) (out:List Nd) (at_ e:Int):List Blk:=rB x.g x.sa x.A x.cap x.toks k B cb out at_ e
def RR (x:Cx) (j m:Nat) (R:List Blk) (r:Out) (v:Value) (H:List Blk):Prop:=v= .tuple #[]∧match r with
 | .ok (_,p')=> ∃ k' B' cb',k' ≤x.toks.length∧p'.l=x.toks.drop k' ∧j≤k' ∧p'.out.length+j≤m+k' ∧H=x.B k' B' cb' p'.out 0 0++R
 | .error e=> ∃ k' B' cb' out',e.2≠0∧k' ≤x.toks.length+1∧j≤k' ∧out'.length+j≤m+k' ∧H=x.B k' B' cb' out' e.1 e.2++R
def MQ (F:Int→PS→Option Out) (fid:FuncId) (args:List Value):Prop:=
 ∀ (x:Cx) (k:Nat) (p:PS) (B:Option Nat) (cb:Nat) (r:Out) (R:List Blk) (w0:World),k≤x.toks.length→p.l=x.toks.drop k→p.out.length≤k→F x.fin p=some r→
  FnIn Tryz.prog fid (.pointer (some ⟨x.g,0,none⟩)::args) w0 (x.B k B cb p.out 0 0++R) (RR x k p.out.length R r)
def oW (f:Nat) (j:Job) (fid:FuncId) (args:List Value):Prop:=MQ (fun fin p=>bD fin f j p) fid args
theorem Cx.lt {x:Cx} {k:Nat} {t:Tk} (hd:hdT x.fin (x.toks.drop k)=t) (h:t.kind≠0):k<x.toks.length:=by
 rcases Qm k x.toks.length with h1|h1
 ·
  exact h1
 ·
  rw [uf h1] at hd
  subst hd
  exact absurd rfl h
theorem Cx.skip {x:Cx} {k:Nat} {p:PS} (h:p.l=x.toks.drop k):p.skip.l=x.toks.drop (k+1):=by
 simp only [PS.skip];rw [h,RU]
theorem Cx.next {x:Cx} {k:Nat} {t:Tk} (hd:hdT x.fin (x.toks.drop k)=t) {B:Option Nat} {cb:Nat} {out:List Nd} {at_ e:Int} {H:List Blk} {w0:World} (hH:MSub (x.B k B cb out at_ e) H) (w:World) (hm:Mem w0 w H):
  aF Tryz.prog 217 [.pointer (some ⟨x.g,0,none⟩)] w (.agg (bk t).toArray):=vz (PK x.hsa (by decide)) (PK x.ht (by decide)) hd hH w hm
theorem Cx.op {x:Cx} {k:Nat} {t:Tk} (hd:hdT x.fin (x.toks.drop k)=t) (q:Int) {B:Option Nat} {cb:Nat} {out:List Nd} {at_ e:Int} {H:List Blk} {w0:World} (hH:MSub (x.B k B cb out at_ e) H) (w:World) (hm:Mem w0 w H):
  aF Tryz.prog 259 [.pointer (some ⟨x.g,0,none⟩),.int .i64 q] w (.bool (decide (t.kind=8∧gS t.num=q))):=Nt q (PK x.hsa (by decide)) (PK x.ht (by decide)) hd hH w hm
theorem Fa (q:Int):(gS q=6)↔(q=5):=by
 unfold gS
 repeat' split
 all_goals omega
theorem Ku (q:Int):(gS q=7)↔(q=13):=by
 unfold gS
 repeat' split
 all_goals omega
theorem kz {fn:Func} {fr:Fr} {w0:World} {R H:List Blk} {x:Cx} {j m n k' :Nat} {p' :PS} {B' :Option Nat} {cb' :Nat} {e:Exit} {s:aB} (he:e= .ret∨e= .normal) (hf:fn.results= #[]) (h1:k' ≤x.toks.length) (h2:p'.l=x.toks.drop k') (h3:j≤k') (h4:p'.out.length+j≤m+k') (hs:MSub (x.B k' B' cb' p'.out 0 0++R) H):
  bA Tryz.prog fn fr w0 (RR x j m R (.ok (n,p'))) e s H:=jv he hf hs ⟨rfl,k',B',cb',h1,h2,h3,h4,rfl⟩
theorem fE {fn:Func} {fr:Fr} {w0:World} {R H:List Blk} {x:Cx} {j m k' :Nat} {x' :Int × Int} {out' :List Nd} {B' :Option Nat} {cb' :Nat} {e:Exit} {s:aB} (he:e= .ret∨e= .normal) (hf:fn.results= #[]) (h0:x'.2≠0) (h1:k' ≤x.toks.length+1) (h3:j≤k') (h4:out'.length+j≤m+k') (hs:MSub (x.B k' B' cb' out' x'.1 x'.2++R) H):
  bA Tryz.prog fn fr w0 (RR x j m R (.error x')) e s H:=jv he hf hs ⟨rfl,k',B',cb',out',h0,h1,h3,h4,rfl⟩
set_option maxHeartbeats 2000000 in
theorem JF (f:Nat) (ihS:oW f .sign 258 []) (ihP:oW f .pct 302 []):oW (f+1) .sign 258 []:=by
  intro x k p B cb r R w0 hk hp hout hrun
  refine bM Tryz.func258 rfl Tryz.ntmps258 rfl ?_
  have hxt:=x.ht
  dsimp only at hrun
  rw [bD] at hrun
  dsimp only at hrun
  obtain ⟨t,ht⟩: ∃ t,hdT x.fin p.l=t:=⟨_,rfl⟩
  rw [ht] at hrun
  have hd:hdT x.fin (x.toks.drop k)=t:=hp ▸ ht
  have hN:=fun w hm=>Cx.next hd (B:=B) (cb:=cb) (out:=p.out) (at_:=0) (e:=0) (w0:=w0) (H:=x.B k B cb p.out 0 0++R) ⟨R,.refl _⟩ w hm
  by_cases hk2:t.kind=8∧t.num=2
  · rw [if_pos hk2] at hrun
    have hlt:=Cx.lt hd (by omega)
    obtain ⟨r1,hr1,⟨e,rfl,rfl⟩|⟨n1,p1,rfl,hr2⟩⟩:=bP hrun
    · repeat' (first|(apply aa (f:=217);exact rfl;exact rfl;exact hN)|(apply ak (f:=258);exact rfl;exact rfl;exact FnIn.msub (ihS x (k+1) p.skip B cb _ _ w0 hlt (Cx.skip hp) (Sj hout) hr1) (MSub.pick pK (MSub.pick pK (MSub.pick pK (MSub.refl _))));rintro _ _ ⟨rfl,k1,B1,cb1,o1,h1,h2,h3,h4,rfl⟩;replace h4:o1.length+(k+1)≤p.out.length+k1:=h4)|(apply aU;(iterate 3 exact rfl);exact pK;exact pK;exact rfl;(simp [bg,Value.oneCell']);omega;(simp only [maxLen];omega);intro g8 c8)|refine sT ?_|refine sS ?_|refine sN ?_|refine sM fun _=> ?_|(refine sC ?_ ?_<;>intro hb<;>try omega)|fail)
      all_goals first
        |(exfalso;omega)
        | (refine fE (k' := k1) (out' := o1 ++ [dK 4 0]) (B' := some g8) (cb' := c8) eIO rfl h1 h2 (by omega) (by rw [O2, O6]; omega) ?_
           simp only [Cx.B,rB,O2,O6,Pj,Pd,Pq,Pa,O3,O4]
           exact mS)
    · cases hr2
      repeat' (first|(apply aa (f:=217);exact rfl;exact rfl;exact hN)|(apply ak (f:=258);exact rfl;exact rfl;exact FnIn.msub (ihS x (k+1) p.skip B cb _ _ w0 hlt (Cx.skip hp) (Sj hout) hr1) (MSub.pick pK (MSub.pick pK (MSub.pick pK (MSub.refl _))));rintro _ _ ⟨rfl,k1,B1,cb1,h1,h2,h3,h4,rfl⟩;replace h4:p1.out.length+(k+1)≤p.out.length+k1:=h4)|(apply aU;(iterate 3 exact rfl);exact pK;exact pK;exact rfl;(simp [bg,Value.oneCell']);omega;(simp only [maxLen];omega);intro g8 c8)|refine sT ?_|refine sS ?_|refine sN ?_|refine sM fun _=> ?_|(refine sC ?_ ?_<;>intro hb<;>try omega)|fail)
      all_goals first
        |(exfalso;omega)
        | (refine kz (k' := k1) (p' := p1.put (dK 4 0)) (B' := some g8) (cb' := c8) eIO rfl h1 h2 (by omega) (by simp only [PS.put, O2, O6]; omega) ?_
           simp only [PS.put,Cx.B,rB,O2,O6,Pj,Pd,Pq,Pa,O3,O4]
           exact mS)
  rw [if_neg hk2] at hrun
  obtain ⟨r1,hr1,⟨e,rfl,rfl⟩|⟨n1,p1,rfl,hr2⟩⟩:=bP hrun
  · repeat' (first|(apply aa (f:=217);exact rfl;exact rfl;exact hN)|(apply ak (f:=302);exact rfl;exact rfl;exact FnIn.msub (ihP x k p B cb _ _ w0 hk hp hout hr1) (MSub.pick pK (MSub.pick pK (MSub.pick pK (MSub.refl _))));rintro _ _ ⟨rfl,k1,B1,cb1,o1,h1,h2,h3,h4,rfl⟩)|refine sT ?_|refine sS ?_|refine sN ?_|refine sM fun _=> ?_|(refine sC ?_ ?_<;>intro hb<;>try omega)|fail)
    all_goals first
      |(exfalso;omega)
      |exact absurd (by assumption) h1
      | (refine fE (k' := k1) (out' := o1) (B' := B1) (cb' := cb1) eIO rfl h1 h2 h3 h4 ?_
         simp only [Cx.B,rB,O3,O4]
         exact mS)
  · obtain ⟨u,hu⟩: ∃ u,hdT x.fin p1.l=u:=⟨_,rfl⟩
    rw [hu] at hr2
    by_cases hk3:u.kind=8∧u.num=5
    · rw [if_pos hk3] at hr2
      obtain ⟨r2,hr3,⟨e,rfl,rfl⟩|⟨n2,p2,rfl,hr4⟩⟩:=bP hr2
      · repeat' (first|(apply aa (f:=217);exact rfl;exact rfl;exact hN)|(apply ak (f:=302);exact rfl;exact rfl;exact FnIn.msub (ihP x k p B cb _ _ w0 hk hp hout hr1) (MSub.pick pK (MSub.pick pK (MSub.pick pK (MSub.refl _))));rintro _ _ ⟨rfl,k1,B1,cb1,h1,h2,h3,h4,rfl⟩;have hd1:hdT x.fin (x.toks.drop k1)=u:=h2 ▸ hu;have hlt1:=Cx.lt hd1 (by omega))|(apply aa (f:=259);exact rfl;exact rfl;exact fun w hm=>Cx.op hd1 6 (B:=B1) (cb:=cb1) (out:=p1.out) (at_:=0) (e:=0) (MSub.pick pK (MSub.pick pK (MSub.pick pK (MSub.nil _)))) w hm)|(apply ak (f:=258);exact rfl;exact rfl;exact FnIn.msub (ihS x (k1+1) p1.skip B1 cb1 _ _ w0 hlt1 (Cx.skip h2) (by simp only [PS.skip];omega) hr3) (MSub.pick pK (MSub.pick pK (MSub.pick pK (MSub.refl _))));rintro _ _ ⟨rfl,k2,B2,cb2,o2,j1,j2,j3,j4,rfl⟩;replace j4:o2.length+(k1+1)≤p1.out.length+k2:=j4)|(apply aU;(iterate 3 exact rfl);exact pK;exact pK;exact rfl;(simp [bg,Value.oneCell']);omega;(simp only [maxLen];omega);intro g8 c8)|refine sT ?_|refine sS ?_|refine sN ?_|refine sM fun _=> ?_|(refine sC ?_ ?_<;>intro hb<;>try omega)|fail)
        all_goals first
          |(exfalso;omega)
          |(exfalso;simp_all [Fa];done)
          | (refine fE (k' := k2) (out' := o2 ++ [dK 6 5]) (B' := some g8) (cb' := c8) eIO rfl j1 j2 (by omega) (by rw [O2, O6]; omega) ?_
             simp only [Cx.B,rB,O2,O6,Pj,Pd,Pq,Pa,O3,O4]
             exact mS)
      · cases hr4
        repeat' (first|(apply aa (f:=217);exact rfl;exact rfl;exact hN)|(apply ak (f:=302);exact rfl;exact rfl;exact FnIn.msub (ihP x k p B cb _ _ w0 hk hp hout hr1) (MSub.pick pK (MSub.pick pK (MSub.pick pK (MSub.refl _))));rintro _ _ ⟨rfl,k1,B1,cb1,h1,h2,h3,h4,rfl⟩;have hd1:hdT x.fin (x.toks.drop k1)=u:=h2 ▸ hu;have hlt1:=Cx.lt hd1 (by omega))|(apply aa (f:=259);exact rfl;exact rfl;exact fun w hm=>Cx.op hd1 6 (B:=B1) (cb:=cb1) (out:=p1.out) (at_:=0) (e:=0) (MSub.pick pK (MSub.pick pK (MSub.pick pK (MSub.nil _)))) w hm)|(apply ak (f:=258);exact rfl;exact rfl;exact FnIn.msub (ihS x (k1+1) p1.skip B1 cb1 _ _ w0 hlt1 (Cx.skip h2) (by simp only [PS.skip];omega) hr3) (MSub.pick pK (MSub.pick pK (MSub.pick pK (MSub.refl _))));rintro _ _ ⟨rfl,k2,B2,cb2,j1,j2,j3,j4,rfl⟩;replace j4:p2.out.length+(k1+1)≤p1.out.length+k2:=j4)|(apply aU;(iterate 3 exact rfl);exact pK;exact pK;exact rfl;(simp [bg,Value.oneCell']);omega;(simp only [maxLen];omega);intro g8 c8)|refine sT ?_|refine sS ?_|refine sN ?_|refine sM fun _=> ?_|(refine sC ?_ ?_<;>intro hb<;>try omega)|fail)
        all_goals first
          |(exfalso;omega)
          |(exfalso;simp_all [Fa];done)
          | (refine kz (k' := k2) (p' := p2.put (dK 6 5)) (B' := some g8) (cb' := c8) eIO rfl j1 j2 (by omega) (by simp only [PS.put, O2, O6]; omega) ?_
             simp only [PS.put,Cx.B,rB,O2,O6,Pj,Pd,Pq,Pa,O3,O4]
             exact mS)
    · rw [if_neg hk3] at hr2
      cases hr2
      repeat' (first|(apply aa (f:=217);exact rfl;exact rfl;exact hN)|(apply ak (f:=302);exact rfl;exact rfl;exact FnIn.msub (ihP x k p B cb _ _ w0 hk hp hout hr1) (MSub.pick pK (MSub.pick pK (MSub.pick pK (MSub.refl _))));rintro _ _ ⟨rfl,k1,B1,cb1,h1,h2,h3,h4,rfl⟩;have hd1:hdT x.fin (x.toks.drop k1)=u:=h2 ▸ hu)|(apply aa (f:=259);exact rfl;exact rfl;exact fun w hm=>Cx.op hd1 6 (B:=B1) (cb:=cb1) (out:=p1.out) (at_:=0) (e:=0) (MSub.pick pK (MSub.pick pK (MSub.pick pK (MSub.nil _)))) w hm)|refine sT ?_|refine sS ?_|refine sN ?_|refine sM fun _=> ?_|(refine sC ?_ ?_<;>intro hb<;>try omega)|fail)
      all_goals first
        |(exfalso;omega)
        |(exfalso;simp_all [Fa];done)
        | (refine kz (k' := k1) (p' := p1) (B' := B1) (cb' := cb1) eIO rfl h1 h2 h3 h4 ?_
           simp only [Cx.B,rB,O3,O4]
           exact mS)
set_option maxHeartbeats 2000000 in
theorem Ca (f:Nat) (ihP:oW f .prim 324 []):oW (f+1) .pct 302 []:=by
  intro x k p B cb r R w0 hk hp hout hrun
  refine bM Tryz.func302 rfl Tryz.ntmps302 rfl ?_
  have hxt:=x.ht
  dsimp only at hrun
  rw [bD] at hrun
  obtain ⟨r1,hr1,⟨e,rfl,rfl⟩|⟨n1,p1,rfl,hr2⟩⟩:=bP hrun
  · repeat' (first|(apply ak (f:=324);exact rfl;exact rfl;exact FnIn.msub (ihP x k p B cb _ _ w0 hk hp hout hr1) (MSub.pick pK (MSub.pick pK (MSub.pick pK (MSub.refl _))));rintro _ _ ⟨rfl,k1,B1,cb1,o1,h1,h2,h3,h4,rfl⟩)|refine sT ?_|refine sS ?_|refine sN ?_|refine sM fun _=> ?_|(refine sC ?_ ?_<;>intro hb<;>try omega)|fail)
    refine ax [0] rfl (fun _:Unit=> []) (fun _=>x.B k1 B1 cb1 o1 e.1 e.2++R) (fun _=>True) (fun _=>0) () trivial sB (MSub.refl _) ?_
    rintro ⟨⟩ _
    repeat' (first|refine sT ?_|refine sS ?_|refine sN ?_|refine sM fun _=> ?_|(refine sC ?_ ?_<;>intro hb<;>try omega)|fail)
    all_goals first
      |(exfalso;omega)
      |exact absurd (by assumption) h1
      |exact fE eIO rfl h1 h2 h3 h4 (MSub.refl _)
  · repeat' (first|(apply ak (f:=324);exact rfl;exact rfl;exact FnIn.msub (ihP x k p B cb _ _ w0 hk hp hout hr1) (MSub.pick pK (MSub.pick pK (MSub.pick pK (MSub.refl _))));rintro _ _ ⟨rfl,k1,B1,cb1,h1,h2,h3,h4,rfl⟩)|refine sT ?_|refine sS ?_|refine sN ?_|refine sM fun _=> ?_|(refine sC ?_ ?_<;>intro hb<;>try omega)|fail)
    refine ax [0] rfl (fun _:Nat × PS × Nat × Option Nat × Nat=> []) (fun y=>x.B y.2.2.1 y.2.2.2.1 y.2.2.2.2 y.2.1.out 0 0++R) (fun y=>y.2.2.1≤x.toks.length∧y.2.1.l=x.toks.drop y.2.2.1∧k≤y.2.2.1∧y.2.1.out.length+k≤p.out.length+y.2.2.1∧bD x.fin y.1 .pctl y.2.1=some r) (fun y=>y.1) (f,p1,k1,B1,cb1) ⟨h1,h2,h3,h4,hr2⟩ sB (MSub.refl _) ?_
    clear hr1 hr2 h1 h2 h3 h4
    rintro ⟨f',q,k2,B2,cb2⟩ ⟨h1,h2,h3,h4,hr2⟩
    dsimp only at h1 h2 h3 h4 hr2 ⊢
    cases f' with
    |zero=>cases hr2
    |succ f' =>
      rw [bD] at hr2
      try dsimp only at hr2
      obtain ⟨u,hu⟩: ∃ u,hdT x.fin q.l=u:=⟨_,rfl⟩
      rw [hu] at hr2
      have hd1:hdT x.fin (x.toks.drop k2)=u:=h2 ▸ hu
      by_cases hk3:u.kind=8∧u.num=13
      · rw [if_pos hk3] at hr2
        have hlt1:=Cx.lt hd1 (by omega)
        repeat' (first|(apply aa (f:=259);exact rfl;exact rfl;exact fun w hm=>Cx.op hd1 7 (B:=B2) (cb:=cb2) (out:=q.out) (at_:=0) (e:=0) (MSub.pick pK (MSub.pick pK (MSub.pick pK (MSub.nil _)))) w hm)|(apply aU;(iterate 3 exact rfl);exact pK;exact pK;exact rfl;(simp [bg,Value.oneCell']);omega;(simp only [maxLen];omega);intro g8 c8)|refine sT ?_|refine sS ?_|refine sN ?_|refine sM fun _=> ?_|(refine sC ?_ ?_<;>intro hb<;>try omega)|fail)
        all_goals first
          |(exfalso;omega)
          |(exfalso;simp_all [Ku];done)
          | (refine ⟨(f', q.skip.put (dK 5 0), k2 + 1, some g8, c8), ⟨hlt1, Cx.skip h2, by dsimp only; omega, by simp only [PS.put, PS.skip, List.length_append, List.length_singleton]; omega, hr2⟩, Nat.lt_succ_self _, sB, sB, ?_⟩
             simp only [PS.put,PS.skip,Cx.B,rB,O2,O6,Pj,Pd,Pq,Pa,O3,O4]
             exact mS)
      · rw [if_neg hk3] at hr2
        cases hr2
        repeat' (first|(apply aa (f:=259);exact rfl;exact rfl;exact fun w hm=>Cx.op hd1 7 (B:=B2) (cb:=cb2) (out:=q.out) (at_:=0) (e:=0) (MSub.pick pK (MSub.pick pK (MSub.pick pK (MSub.nil _)))) w hm)|refine sT ?_|refine sS ?_|refine sN ?_|refine sM fun _=> ?_|(refine sC ?_ ?_<;>intro hb<;>try omega)|fail)
        all_goals first
          |(exfalso;omega)
          |(exfalso;simp_all [Ku];done)
          |exact kz eIO rfl h1 h2 h3 h4 (MSub.refl _)
structure Lv where
 f:Nat
 k:Nat
 B:Option Nat
 cb:Nat
 out:List Nd
 a:Int
 e:Int
def Lv.H (y:Lv) (x:Cx) (R:List Blk):List Blk:=x.B y.k y.B y.cb y.out y.a y.e++R
def Lv.ok (y:Lv) (x:Cx) (j:Nat→PS→Option Out) (k m:Nat) (r:Out) (f:Nat):Prop:=y.f≤f∧k≤y.k∧y.out.length+k≤m+y.k∧
 ((y.a=0∧y.e=0∧y.k≤x.toks.length∧j y.f ⟨x.toks.drop y.k,y.out⟩=some r)∨(y.e≠0∧y.k≤x.toks.length+1∧r= .error (y.a,y.e)))
def Lv.m (y:Lv):Nat:=if y.e=0 then y.f+1 else 0
theorem Cr {x:Cx} {R H:List Blk} {v:Value} {f k m k0 m0:Nat} {r r1:Out} {j:Nat→PS→Option Out} (hr2:(∃ e,r1= .error e∧r= .error e)∨(∃ n p',r1= .ok (n,p')∧j f p' =some r)) (hR:RR x k0 m0 R r1 v H) (hk:k≤k0) (hm:m0+k≤m+k0): ∃ f2 k2 B2 cb2 o2 a2 e2,(Lv.mk f2 k2 B2 cb2 o2 a2 e2).ok x j k m r f∧H=x.B k2 B2 cb2 o2 a2 e2++R:=by
 obtain ⟨_,hR⟩:=hR
 rcases hr2 with ⟨e,rfl,rfl⟩|⟨n1,p1,rfl,hr2⟩
 ·
  obtain ⟨k1,B1,cb1,o1,h1,h2,h3,h4,rfl⟩:=hR
  exact ⟨f,k1,B1,cb1,o1,e.1,e.2,⟨Nat.le_refl _,by dsimp only;omega,by dsimp only;omega,.inr ⟨h1,h2,rfl⟩⟩,rfl⟩
 ·
  obtain ⟨k1,B1,cb1,h1,h2,h3,h4,rfl⟩:=hR
  refine ⟨f,k1,B1,cb1,p1.out,0,0,⟨Nat.le_refl _,by dsimp only;omega,by dsimp only;omega,.inl ⟨rfl,rfl,h1,?_⟩⟩,rfl⟩
  dsimp only
  rw [← h2];exact hr2
set_option maxHeartbeats 4000000 in
theorem Ht (f:Nat) (q:Int) (h1q:1≤q) (h5q:q≤5) (ihL:q≤4→ ∀ f' ≤f,oW f' (.level (q+1)) 215 [.int .i64 (q+1)]) (ihS:oW f .sign 258 []):oW (f+1) (.level q) 215 [.int .i64 q]:=by
 intro x k p B cb r R w0 hk hp hout hrun
 refine bM Tryz.func215 rfl Tryz.ntmps215 rfl ?_
 have hxt:=x.ht
 dsimp only at hrun
 rw [bD] at hrun
 by_cases hq5:q=5
 ·
  rw [if_pos hq5] at hrun
  subst hq5
  repeat' (first|(apply ak (f:=258);exact rfl;exact rfl;exact FnIn.msub (ihS x k p B cb _ _ w0 hk hp hout hrun) (MSub.pick pK (MSub.pick pK (MSub.pick pK (MSub.refl _))));rintro _ _ ⟨rfl,hR⟩)|refine sT ?_|refine sS ?_|refine sN ?_|refine sM fun _=> ?_|(refine sC ?_ ?_<;>intro hb<;>try omega)|fail)
  all_goals exact jv eIO rfl (MSub.refl _) ⟨rfl,hR⟩
 rw [if_neg hq5] at hrun
 have ihL:=ihL (by omega)
 obtain ⟨r1,hr1,hr2⟩:=bP hrun
 repeat' (first|(apply aj (d:=11);exact rfl;apply kZ;exact rfl;exact rfl;exact ⟨by omega,by omega⟩)|(apply ak (f:=215);exact rfl;exact rfl;exact FnIn.msub (ihL f (Ph _) x k p B cb r1 _ w0 hk hp hout hr1) (MSub.pick pK (MSub.pick pK (MSub.pick pK (MSub.refl _))));rintro v1 H1 hR)|refine sT ?_|refine sS ?_|refine sN ?_|refine sM fun _=> ?_|(refine sC ?_ ?_<;>intro hb<;>try omega)|fail)
 all_goals try (exfalso;omega)
 obtain ⟨f0,k0,B0,cb0,o0,a0,e0,hy0,rfl⟩:=Cr (j:=fun f p=>bD x.fin f (.loop q) p) hr2 hR (Ph k) (Ph _)
 clear hr1 hr2 hR hrun
 refine ax [0,1] rfl (fun _:Lv=> []) (fun y=>y.H x R) (fun y=>y.ok x (fun f p=>bD x.fin f (.loop q) p) k p.out.length r f) Lv.m ⟨f0,k0,B0,cb0,o0,a0,e0⟩ hy0 sB (MSub.refl _) ?_
 rintro ⟨f',k1,B1,cb1,o1,a,e⟩ ⟨hf',h3,h4,hor⟩
 dsimp only at hf' h3 h4 hor
 simp only [Lv.H]
 rcases hor with ⟨rfl,rfl,h1,hr2⟩|⟨h1,h2,rfl⟩
 ·
  cases f' with
  |zero=>cases hr2
  |succ f' =>
   rw [bD] at hr2
   try dsimp only at hr2
   obtain ⟨u,hd1⟩: ∃ u,hdT x.fin (x.toks.drop k1)=u:=⟨_,rfl⟩
   rw [hd1] at hr2
   by_cases hk3:u.kind=8∧gS u.num=q
   ·
    rw [if_pos hk3] at hr2
    have hlt1:=Cx.lt hd1 (by omega)
    obtain ⟨r2,hr3,hr4⟩:=bP hr2
    repeat' (first|(apply aa (f:=259);exact rfl;exact rfl;exact fun w hm=>Cx.op hd1 q (B:=B1) (cb:=cb1) (out:=o1) (at_:=0) (e:=0) (MSub.pick pK (MSub.pick pK (MSub.pick pK (MSub.nil _)))) w hm)|(apply aa (f:=217);exact rfl;exact rfl;exact fun w hm=>Cx.next hd1 (B:=B1) (cb:=cb1) (out:=o1) (at_:=0) (e:=0) (MSub.pick pK (MSub.pick pK (MSub.pick pK (MSub.nil _)))) w hm)|(apply aj;exact rfl;apply dz;exact rfl;exact rfl)|(apply aj (d:=35);exact rfl;apply kZ;exact rfl;exact rfl;exact ⟨by omega,by omega⟩)|(apply ak (f:=215);exact rfl;exact rfl;exact FnIn.msub (ihL f' (by omega) x (k1+1) ⟨x.toks.drop (k1+1),o1⟩ B1 cb1 r2 _ w0 hlt1 rfl (by dsimp only;omega) (by rw [← List.tail_drop];exact hr3)) (MSub.pick pK (MSub.pick pK (MSub.pick pK (MSub.refl _))));rintro v1 H1 hR;obtain ⟨f2,k2,B2,cb2,o2,a2,e2,⟨hy1,hy2,hy3,hy4⟩,rfl⟩:=Cr (k:=k+1) (m:=p.out.length) (j:=fun f p=>bD x.fin f (.loop q) (p.put (dK 6 u.num))) hr4 hR (by omega) (by dsimp only;omega);dsimp only at hy1 hy2 hy3 hy4;have hkb:k2≤257:=by { rcases hy4 with ⟨_,_,h,_⟩|⟨_,h,_⟩<;>omega })|(apply aU;(iterate 3 exact rfl);exact pK;exact pK;exact rfl;(simp [bg,Value.oneCell']);omega;(simp only [maxLen];omega);intro g8 c8)|refine sT ?_|refine sS ?_|refine sN ?_|refine sM fun _=> ?_|(refine sC ?_ ?_<;>intro hb<;>try omega)|fail)
    all_goals first
     |(exfalso;omega)
     |(exfalso;simp_all;done)
     |skip
    refine ⟨⟨f2,k2,some g8,c8,o2++ [dK 6 u.num],a2,e2⟩,⟨by dsimp only;omega,by dsimp only;omega,by simp only [List.length_append,List.length_singleton];omega,hy4⟩,(by simp only [Lv.m,if_true];split<;>omega),sB,sB,?_⟩
    simp only [Lv.H,Cx.B,rB,O2,O6,Pj,Pd,Pq,Pa,O3,O4]
    exact mS
   ·
    rw [if_neg hk3] at hr2
    cases hr2
    repeat' (first|(apply aa (f:=259);exact rfl;exact rfl;exact fun w hm=>Cx.op hd1 q (B:=B1) (cb:=cb1) (out:=o1) (at_:=0) (e:=0) (MSub.pick pK (MSub.pick pK (MSub.pick pK (MSub.nil _)))) w hm)|refine sT ?_|refine sS ?_|refine sN ?_|refine sM fun _=> ?_|(refine sC ?_ ?_<;>intro hb<;>try omega)|fail)
    all_goals first
     |(exfalso;omega)
     |(exfalso;simp_all;done)
     |exact kz (p' :=⟨x.toks.drop k1,o1⟩) eIO rfl h1 rfl h3 h4 (MSub.refl _)
 ·
  repeat' (first|refine sT ?_|refine sS ?_|refine sN ?_|refine sM fun _=> ?_|(refine sC ?_ ?_<;>intro hb<;>try omega)|fail)
  all_goals first
   |(exfalso;omega)
   |exact absurd (by assumption) h1
   |exact fE (x' :=(a,e)) eIO rfl h1 h2 h3 h4 (MSub.refl _)
set_option maxHeartbeats 2000000 in
theorem qB (f:Nat) (fn:Int) (n:Nat) (h0:1≤fn) (h5:fn≤50) (ih:oW f (.level 1) 215 [.int .i64 1]):MQ (Ao f fn n) 355 [.int .u8 fn,.int .i64 n]:=by
  intro x k p B cb r R w0 hk hp hout hrun
  refine bM Tryz.func355 rfl Tryz.ntmps355 rfl ?_
  have hxt:=x.ht
  unfold Ao at hrun
  obtain ⟨t,ht⟩: ∃ t,hdT x.fin p.l=t:=⟨_,rfl⟩
  rw [ht] at hrun
  have hd:hdT x.fin (x.toks.drop k)=t:=hp ▸ ht
  have hN:=fun w hm=>Cx.next hd (B:=B) (cb:=cb) (out:=p.out) (at_:=0) (e:=0) (w0:=w0) (H:=x.B k B cb p.out 0 0++R) ⟨R,.refl _⟩ w hm
  by_cases hk2:t.kind≠6
  · rw [if_pos hk2] at hrun
    obtain ⟨r1,hr1,hr2⟩:=bP hrun
    have hrr: ∀ v H,RR x k p.out.length R r1 v H→RR x k p.out.length R r v H:=by
      rintro v H ⟨hv,h⟩
      rcases hr2 with ⟨e,rfl,rfl⟩|⟨n1,p1,rfl,hr2⟩
      · exact ⟨hv,h⟩
      · cases hr2;exact ⟨hv,h⟩
    repeat' (first|(apply aa (f:=217);exact rfl;exact rfl;exact hN)|(apply ak (f:=215);exact rfl;exact rfl;exact FnIn.msub (ih x k p B cb r1 _ w0 hk hp hout hr1) (MSub.pick pK (MSub.pick pK (MSub.pick pK (MSub.refl _))));rintro v1 H1 hR)|refine sT ?_|refine sS ?_|refine sT2 ?_|refine sN ?_|refine sM fun _=> ?_|(refine sC ?_ ?_<;>intro hb<;>try omega)|fail)
    all_goals try (exfalso;omega)
    obtain ⟨rfl,hR⟩:=hR
    rcases hr2 with ⟨e,rfl,rfl⟩|⟨n1,p1,rfl,hr2⟩
    · obtain ⟨k1,B1,cb1,o1,j1,j2,j3,j4,rfl⟩:=hR
      refine fE (k' :=k1) (out' :=o1) (B' :=B1) (cb' :=cb1) eIO rfl j1 j2 j3 j4 ?_
      simp only [Cx.B,rB,O8,O3,O4]
      exact mS
    · cases hr2
      obtain ⟨k1,B1,cb1,j1,j2,j3,j4,rfl⟩:=hR
      refine kz (k' :=k1) (p' :=p1) (B' :=B1) (cb' :=cb1) eIO rfl j1 j2 j3 j4 ?_
      simp only [Cx.B,rB,O8,O3,O4]
      exact mS
  rw [if_neg hk2] at hrun
  have hlt:=Cx.lt hd (by omega)
  have hW:=fun w=>ve fn (n:Int) w
  have hwk:=uA (fn:=fn) (by simp [cW,h0,h5]) (n:Int)
  have hwe:((kf fn n).1=false∨(kf fn n).2≠0)↔fG fn n=false:=by
    rw [hwk]
    dsimp only
    constructor
    · rintro (h|h)
      · exact h
      · have h2:(n:Int)<0∨(bX fn).2≤(n:Int):=Classical.byContradiction fun hn=>h (if_neg hn)
        unfold fG
        rw [if_pos h2]
    · exact .inl
  clear hwk
  by_cases hwk:(kf fn n).1=false∨(kf fn n).2≠0
  · rw [if_pos hwk] at hrun
    cases hrun
    rw [hwe.1 hwk] at hW
    repeat' (first|(apply aa (f:=217);exact rfl;exact rfl;exact hN)|(apply aa (f:=344);exact rfl;exact rfl;(intro w' _;exact hW w'))|(apply ak (f:=216);exact rfl;exact rfl;exact FnIn.msub (fR x.g x.sa x.A _ x.cap k B _ cb 0 0 _ _ _ _) (MSub.pick pK (.refl _));rintro _ _ ⟨rfl,rfl⟩)|refine sT ?_|refine sS ?_|refine sT2 ?_|refine sN ?_|refine sM fun _=> ?_|(refine sC ?_ ?_<;>intro hb<;>try omega)|fail)
    all_goals first
      |(exfalso;omega)
      | (refine fE (x' := (t.at_, 4)) (k' := k) (out' := p.out) (B' := B) (cb' := cb) eIO rfl (by simp) (by omega) (Ph _) (Ph _) ?_
         simp only [Cx.B,rB,O8,O3,O4]
         exact mS)
  · rw [if_neg hwk] at hrun
    cases hrun
    have hwt:fG fn n=true:=by
      cases h:fG fn n with
      |true=>rfl
      |false=>exact absurd (hwe.2 h) hwk
    rw [hwt] at hW
    repeat' (first|(apply aa (f:=217);exact rfl;exact rfl;exact hN)|(apply aa (f:=344);exact rfl;exact rfl;(intro w' _;exact hW w'))|refine sT ?_|refine sS ?_|refine sT2 ?_|refine sN ?_|refine sM fun _=> ?_|(refine sC ?_ ?_<;>intro hb<;>try omega)|fail)
    all_goals try (exfalso;omega)
    refine jN 13 rfl (by kernel_rfl) ?_
    ((with_reducible apply aV (i:=0));exact rfl;exact rfl;decide+kernel;decide+kernel;decide+kernel;exact nP;(intro _ _;exact vP))
    ((with_reducible apply aV (i:=1));exact rfl;exact rfl;decide+kernel;decide+kernel;decide+kernel;exact nP;(intro _ _;exact vP))
    ((with_reducible apply aV (i:=2));exact rfl;exact rfl;decide+kernel;decide+kernel;decide+kernel;exact nP;(intro _ _;exact vP))
    ((with_reducible apply aV (i:=3));exact rfl;exact rfl;decide+kernel;decide+kernel;decide+kernel;exact nP;(intro _ _;exact vP))
    ((with_reducible apply aV (i:=5));exact rfl;exact rfl;decide+kernel;decide+kernel;decide+kernel;exact nP;(intro _ _;exact vP))
    repeat' (first|(apply df (i:=4) (j:=6);exact rfl;exact rfl;decide+kernel)|(apply df (i:=4) (j:=7);exact rfl;exact rfl;decide+kernel)|(apply df (i:=4) (j:=8);exact rfl;exact rfl;decide+kernel)|(apply aL (i:=4);exact rfl;decide+kernel)|(apply aL (i:=5);exact rfl;decide+kernel)|(apply aL (i:=6);exact rfl;decide+kernel)|(apply aL (i:=7);exact rfl;decide+kernel)|(apply aL (i:=8);exact rfl;decide+kernel)|(apply aL (i:=9);exact rfl;decide+kernel)|(apply aL (i:=10);exact rfl;decide+kernel)|(apply aL (i:=11);exact rfl;decide+kernel)|(apply aL (i:=12);exact rfl;decide+kernel)|(apply jM;decide+kernel)|(apply aU;(iterate 3 exact rfl);exact pK;exact pK;exact rfl;(simp [bg,Value.oneCell']);omega;(simp only [maxLen];omega);intro g8 c8)|refine sT ?_|refine sS ?_|refine sT2 ?_|refine sN ?_|refine sM fun _=> ?_|(refine sC ?_ ?_<;>intro hb<;>try omega)|fail)
    all_goals first
      |(exfalso;omega)
      | (refine kz (k' := k + 1) (p' := p.skip.put ⟨3, bR, t.rect, 0, 0, 0⟩) (B' := some g8) (cb' := c8) eIO rfl hlt (Cx.skip hp) (RL k) (by simp only [PS.put, PS.skip, O2, O6]; omega) ?_
         simp only [PS.put,PS.skip,Cx.B,rB,O2,O6,Pj,Pd,Pq,Pa,O8,O3,O4]
         exact mS)
end Go.SL
