/-
  Lemmas and walks, put together: Xc Rs Xa Xd.
-/
import Derived.Test.YtlnecnbfmnfigaaGreatDoorKu37
set_option linter.unusedSimpArgs false
set_option linter.unusedVariables false
set_option maxRecDepth 20000
namespace Go.SL
open Go Go.Proofs Go.Sort Go.Shelf
attribute [local irreducible] W WL WQ WG WA WX WLI WR WT WC WE VOp RW thn blk bZ scp bA bV ck FnAt FnIn FnP ceP
def lvP (L:List En) (f:Nat→Bool) (k:Nat) (r:Rct):Prop:= ∃ j,j<k∧f j=true∧ ∃ e,L[j]? =some e∧ ∃ x∈e.uses,x.rect=r
def lvQ (L:List En) (f:Nat→Bool) (k u:Nat) (r:Rct):Prop:=lvP L f k r∨ ∃ e,L[k]? =some e∧ ∃ x∈e.uses.take u,x.rect=r
theorem J4 {L:List En} {f:Nat→Bool} {r:Rct}: ¬ lvP L f 0 r:=fun ⟨j,h,_⟩=>by omega
theorem Ct {L:List En} {f:Nat→Bool} {k:Nat} {r:Rct}:lvP L f (k+1) r↔lvP L f k r∨(f k=true∧ ∃ e,L[k]? =some e∧ ∃ x∈e.uses,x.rect=r):=by
 constructor
 ·
  rintro ⟨j,h,h1,h2⟩
  by_cases e:j=k
  ·
   subst e;exact .inr ⟨h1,h2⟩
  ·
   exact .inl ⟨j,by omega,h1,h2⟩
 ·
  rintro (⟨j,h,h1,h2⟩|⟨h1,h2⟩)
  ·
   exact ⟨j,by omega,h1,h2⟩
  ·
   exact ⟨k,by omega,h1,h2⟩
theorem Cs {L:List En} {f:Nat→Bool} {k:Nat} {r:Rct}:lvQ L f k 0 r↔lvP L f k r:=by
 unfold lvQ
 simp only [Qj,RI,false_and,exists_false,and_false,or_false]
theorem J2 {L:List En} {f:Nat→Bool} {k u:Nat} {e:En} (he:L[k]? =some e) (hu:u<e.uses.length) {r:Rct}:lvQ L f k (u+1) r↔r=e.uses[u].rect∨lvQ L f k u r:=by
 unfold lvQ
 rw [he]
 simp only [Option.some.injEq,exists_eq_left']
 rw [Po hu]
 constructor
 ·
  rintro (h|⟨x,hx,rfl⟩)
  ·
   exact .inr (.inl h)
  ·
   rcases Pz.1 hx with hx|hx
   ·
    exact .inr (.inr ⟨x,hx,rfl⟩)
   ·
    exact .inl (by rw [Pv.1 hx])
 ·
  rintro (rfl|h|⟨x,hx,rfl⟩)
  ·
   exact .inr ⟨_,P9 _ (Pv.2 rfl),rfl⟩
  ·
   exact .inl h
  ·
   exact .inr ⟨x,PV _ hx,rfl⟩
theorem J3 {L:List En} {f:Nat→Bool} {k:Nat} {e:En} (he:L[k]? =some e) (hf:f k=true) {r:Rct}:lvQ L f k e.uses.length r↔lvP L f (k+1) r:=by
 rw [Ct,lvQ,hf,he]
 simp only [Option.some.injEq,exists_eq_left',Qe,true_and]
theorem NH {L:List En} {f:Nat→Bool} {k:Nat} (hf:f k=false) {r:Rct}:lvP L f (k+1) r↔lvP L f k r:=by
 rw [Ct,hf]
 simp
theorem EQ {R:List Blk} {L:List En} {G:Gr} (hR:RGOk R L G) (hG:GrOk G) {i:Nat} {c:Rf} (hi:(aq G)[i]? =some c) (hil:i<L.length) (r:Rct):
  lvP L (fun j=>if j=i then true else bu G L.length i j) L.length r↔ ∃ x,(x=c∨x∈cZ G c)∧ ∃ u∈aD G x,u.rect=r:=by
 have hki: ∀ j (hj:j<L.length),(aq G)[j]? =some L[j].at_:=fun j hj=>by
  rw [← hR.keys,Pw,O5 hj];rfl
 have hui: ∀ j (hj:j<L.length),aD G L[j].at_=L[j].uses:=fun j hj=>by
  have hm:L[j].abs∈G:=by rw [← hR.rel];exact Py.2 ⟨L[j],PG hj,rfl⟩
  exact fK hG.sort hm
 have hGn:=hR.len
 have hat:L[i].at_=c:=by
  have:=hki i hil
  rw [hi] at this
  exact (Option.some.inj this).symm
 constructor
 ·
  rintro ⟨j,hj,hf,e,he,x,hx,rfl⟩
  dsimp only at hf
  rw [O5 hj] at he
  have he:=Option.some.inj he
  subst he
  refine ⟨L[j].at_,?_,x,by rw [hui j hj];exact hx,rfl⟩
  by_cases hji:j=i
  ·
   subst hji;exact .inl hat
  ·
   rw [if_neg hji,hGn,oh hi (hki j hj)] at hf
   exact .inr (jZ.2 ⟨Qs (hki j hj),hf⟩)
 ·
  rintro ⟨x,rfl|hx,u,hu,rfl⟩
  ·
   refine ⟨i,hil,if_pos rfl,L[i],O5 hil,u,?_,rfl⟩
   rw [← hui i hil,hat];exact hu
  ·
   obtain ⟨h1,h2⟩:=jZ.1 hx
   obtain ⟨j,hj⟩:=List.getElem?_of_mem h1
   have hjl:j<L.length:=by
    obtain ⟨h3,_⟩:=Pk.1 hj
    rw [← hR.keys,Ps] at h3
    exact h3
   have hx2:=hki j hjl
   rw [hj] at hx2
   have hx2:=Option.some.inj hx2
   refine ⟨j,hjl,?_,L[j],O5 hjl,u,by rw [← hui j hjl,← hx2];exact hu,rfl⟩
   dsimp only
   by_cases hji:j=i
   ·
    rw [if_pos hji]
   ·
    rw [if_neg hji,hGn,oh hi hj];exact h2
theorem OT {U:List Us} {u:Nat} (h:u<U.length):((U.flatMap bQ).drop (u*6)).take 4=aH U[u].rect:=by
 have h1:=cK gG U u h
 have h2:=congrArg (List.take 4) h1
 rw [List.take_take] at h2
 simpa [bQ,aH] using h2
theorem CD {G:Gr} {c:Rf} (h:c∉aq G):dP G c= []:=Sq.2 fun r hr=>by
 obtain ⟨x,hx,u,hu,_⟩:=kF.1 hr
 rcases hx with rfl|hx
 ·
  have h1:kI G x=none:=vZ.2 fun e he h2=>h (iY.2 ⟨e,he,h2⟩)
  rw [aD,h1] at hu;cases hu
 ·
  rw [wP h] at hx;cases hx
set_option maxHeartbeats 8000000 in
theorem EC (g:Nat) (A:Option Nat) (cap:Nat) (L:List En) (G:Gr) (c:Rf) (R:List Blk) (w0:World) (hR:RGOk R L G) (hG:GrOk G) (hlen:L.length≤1000):
  FnIn Tryz.prog 17 [.pointer (some ⟨g,0,none⟩),aO c] w0 (rgB g A cap L++R) fun v H=> ∃ A' c',v= .tuple #[sl A' (di G c).length c',.int .i64 (aR [c] [])]∧H= .own A' 53 4 (di G c).length c' ((di G c).flatMap aH)::(rgB g A cap L++R):=by
 refine bM Tryz.func17 rfl Tryz.ntmps17 rfl ?_
 have hck:=fun w (v:Value) (hr:Reads w v 1 (aw c))=>kQ g [c] [] v (.slice none 0 0) w (by simpa using hr) (eV w) (by simp) (by simp)
 have hI:=fun (H' :List Blk) (hs:MSub (rgB g A cap L) H') (w' :World) (hm:Mem w0 w' H')=>jY g _ cap L c w' (RGm.of hs hm) (by omega)
 unfold di
 refine aK 53 4 ?_
 by_cases hc0:aR [c] []=0
 ·
  rw [if_pos hc0]
  rw [hc0] at hck ⊢
  rcases gX L c with ⟨hidx,hf⟩|⟨i,hlt,hidx,hf⟩
  ·
   rw [hidx] at hI
   rw [CD (mU hR hf)]
   unfold rgB at hI ⊢
   simp only [O8,O3,O4] at hI ⊢
   repeat' (first|(apply aa (f:=56);exact rfl;exact rfl;(intro w' hm;exact hck w' _ (Reads.of_own (A:=some _) hm pK)))|(apply aa (f:=60);exact rfl;exact rfl;exact fun w' hm=>hI _ mS w' hm)|refine sT ?_|refine sS ?_|refine sM fun _=> ?_|(refine sC ?_ ?_<;>intro hb<;>try omega)|fail)
   all_goals first
    |(exfalso;omega)
    |(exact cN eIO rfl rfl rfl mS ⟨none,0,rfl,rfl⟩)
    |trace_state
  ·
   rw [hidx] at hI
   have hAll:=fun b:Blk=>Gm g A cap L G (b::R) w0 (hR.sub (MSub.drop .hd (MSub.refl _))) hG hlen
   have hki:(aq G)[i]? =some c:=by
    rw [← hR.keys,Pw,O5 hlt,Qb,qN hf]
   have hfin:=fun r=>EQ hR hG hki hlt r
   have hset:=j6 (n:=L.length) (f:=bu G L.length i) (k:=i) (v:=true)
   unfold rgB at hI hAll ⊢
   simp only [O8,O3,O4] at hI hAll ⊢
   repeat' (first|(apply aa (f:=56);exact rfl;exact rfl;(intro w' hm;exact hck w' _ (Reads.of_own (A:=some _) hm pK)))|(apply aa (f:=60);exact rfl;exact rfl;exact fun w' hm=>hI _ mS w' hm)|refine sT ?_|refine sS ?_|refine sM fun _=> ?_|(refine sC ?_ ?_<;>intro hb<;>try omega)|fail)
   all_goals try (exfalso;omega)
   rename_i g3 gq
   repeat' (first|(apply ak (f:=61);exact rfl;exact rfl;exact FnIn.msub (hAll (.box g3 24 (aw c))) mS;rintro _ _ ⟨A5,c5,As,hA5,hAl,rfl,rfl⟩;obtain ⟨g5,rfl⟩:=hA5 (by omega))|(apply aj (d:=27);exact rfl;apply ag (j:=i);exact rfl;exact rfl;exact hlt)|(apply aj (d:=28);exact rfl;apply aC;exact rfl;exact pK;(rw [Pn,QD,Pw,O5 (show i<As.length by omega)];exact rfl))|(apply aj (d:=31);exact rfl;apply ag (j:=i);exact rfl;exact rfl;exact hlt)|refine sT ?_|refine sS ?_|refine sM fun _=> ?_|(refine sC ?_ ?_<;>intro hb<;>try omega)|fail)
   have hrs:=FT (n:=L.length) (As:=As) (bu G L.length) (show i<As.length by omega) (.box g3 24 (aw c)) R
   refine y8 (.box g 138 [sl A L.length cap]:: .own A 135 4 L.length cap (L.flatMap bG)::iT L.length (As[i]'(by omega)) (bu G L.length i):: .box g3 24 (aw c)::R) (MSub.trans (MSub.cons2 hrs) mS) ?_
   clear hrs
   unfold iT gM
   generalize (As[i]'(by omega))=Ai
   generalize (fun j=>if j=i then true else bu G L.length i j)=f at hset hfin
   repeat' (first|(apply dW (g:=Ai);exact rfl;exact rfl;exact pK;exact rfl;(rw [gZ];omega);rw [hset])|refine sT ?_|refine sS ?_|refine sM fun _=> ?_|(refine sC ?_ ?_<;>intro hb<;>try omega)|fail)
   all_goals try (exfalso;omega)
   refine aK 53 4 ?_
   refine ax [0,8] rfl (fun y:Nat × List Rct × Option Nat × Nat=> [(10,.int .i64 (y.1:Int)),(9,sl y.2.2.1 y.2.1.length y.2.2.2)]) (fun y=> .own y.2.2.1 53 4 y.2.1.length y.2.2.2 (y.2.1.flatMap aH):: .own (some Ai) 4 1 L.length L.length (aX L.length f):: .box g 138 [sl A L.length cap]:: .own A 135 4 L.length cap (L.flatMap bG)::R) (fun y=>y.1≤L.length∧(y.2.1.Pairwise fun x y=>ltC x y=true)∧(∀ r,r∈y.2.1↔lvP L f y.1 r)∧y.2.1.length≤y.1*1000) (fun y=>L.length - y.1) (0,[],none,0) ⟨Pb _,List.Pairwise.nil,fun r=>iff_of_false (by simp) J4,by simp⟩ sB mS ?_
   rintro ⟨k,m,Am,cm⟩ ⟨hk,hs,hmm,hml⟩
   dsimp only at hk hs hmm hml ⊢
   by_cases hlk:k<L.length
   ·
    refine bW (A:=A) pK (by omega) fun gl hA=> ?_
    subst hA
    have hak:(L.flatMap bG)[0+k*4+3]? =some L[k].uv:=by
     rw [Pn,l9 qV L k 3 hlk (by decide)];rfl
    have hoke:=hR.en L[k] (PG hlk)
    have hul:L[k].uses.length≤1000:=by
     have hm:L[k].abs∈G:=by rw [← hR.rel];exact Py.2 ⟨L[k],PG hlk,rfl⟩
     have h1:=kr hG L[k].at_
     rwa [show aD G L[k].at_=L[k].uses from fK hG.sort hm] at h1
    have hfk:=dV (f:=f) hlk
    have hek:L[k]? =some L[k]:=O5 hlk
    generalize L[k]=e at hak hoke hul hek
    repeat' (first|refine sT ?_|refine sS ?_|refine sN ?_|refine sM fun _=> ?_|(refine sC ?_ ?_<;>intro hb<;>try omega)|fail)
    all_goals try (exfalso;omega)
    refine ax [0,8,10] rfl (fun y:Nat × List Rct × Option Nat × Nat=> [(11,.int .i64 (y.1:Int)),(9,sl y.2.2.1 y.2.1.length y.2.2.2)]) (fun y=> .own y.2.2.1 53 4 y.2.1.length y.2.2.2 (y.2.1.flatMap aH):: .own (some Ai) 4 1 L.length L.length (aX L.length f):: .box g 138 [sl (some gl) L.length cap]:: .own (some gl) 135 4 L.length cap (L.flatMap bG)::R) (fun y=>y.1≤e.uses.length∧(y.2.1.Pairwise fun x y=>ltC x y=true)∧(∀ r,r∈y.2.1↔lvQ L f k y.1 r)∧y.2.1.length≤k*1000+y.1∧(f k=false→y.1=0)) (fun y=>e.uses.length - y.1) (0,m,Am,cm) ⟨Pb _,hs,fun r=>by rw [hmm,Cs],hml,fun _=>rfl⟩ sB mS ?_
    rintro ⟨u,p,Ap,cp⟩ ⟨hu,hps,hpm,hpl,hpf⟩
    dsimp only at hu hps hpm hpl hpf ⊢
    cases hq:f k with
    |false=>
     have hu0:=hpf hq
     subst hu0
     rw [hq] at hfk
     repeat' (first|(apply aj (d:=40);exact rfl;apply ag (j:=k);exact rfl;exact rfl;exact hlk)|(apply aj (d:=41);exact rfl;apply aC;exact rfl;exact pK;exact hfk)|refine sT ?_|refine sS ?_|refine sN ?_|refine sM fun _=> ?_|(refine sC ?_ ?_<;>intro hb<;>try omega)|fail)
     all_goals first
      |(exfalso;omega)
      |(refine ⟨(k+1,p,Ap,cp),⟨hlk,hps,fun r=>by rw [hpm,Cs,NH hq],by dsimp only;omega⟩,by dsimp only;omega,by exact sB,by exact sB,by exact mS⟩;done)
      |trace_state
    |true=>
     rw [hq] at hfk
     clear hpf
     by_cases hlu:u<e.uses.length
     ·
      refine MG (xs:=e.uses.flatMap bQ) (m:=e.uses.length) (fun w hm=>hoke.uses _ w (MSub.use mS hm)) (by omega) fun gr or cr hlv=> ?_
      have hcel: ∀ H w',MSub R H→Mem w0 w' H→Cells w' gr or (e.uses.flatMap bQ):=fun H w' hs hm=>Dk (cp:=cr) (by rw [← hlv];exact hoke.uses _ w' (hs.use hm)) (by omega)
      have hru:=OT hlu
      have hpt:=hpm
      have hput:=fun F=>Nu p e.uses[u].rect Ap cp (by omega) hps F w0
      have hqs:=fun r=>J2 (f:=f) hek hlu (r:=r)
      generalize e.uses[u]=x at hru hput hqs
      rw [hlv] at hak
      generalize e.uses.length=ul at*
      repeat' (first|(apply aj (d:=40);exact rfl;apply ag (j:=k);exact rfl;exact rfl;exact hlk)|(apply aj (d:=41);exact rfl;apply aC;exact rfl;exact pK;exact hfk)|(apply aj (d:=49);exact rfl;apply ag (j:=k);exact rfl;exact rfl;exact hlk)|(apply aj (d:=51);exact rfl;apply aC;exact rfl;exact pK;exact hak)|(apply aj (d:=63);exact rfl;apply ag (j:=k);exact rfl;exact rfl;exact hlk)|(apply aj (d:=65);exact rfl;apply aC;exact rfl;exact pK;exact hak)|(apply aj (d:=67);exact rfl;apply ag (j:=u);exact rfl;exact rfl;exact hlu)|(apply aj (d:=69);exact rfl;apply uI;(intro w' hm;exact hcel _ w' mS hm);exact rfl;exact hru;exact rfl)|(apply ak (f:=67);exact rfl;exact rfl;exact FnIn.msub (hput _) (MSub.pick pK (MSub.refl _));rintro _ _ ⟨p2,A2,c2,hs2,hm2,hl2,rfl,rfl⟩)|refine sT ?_|refine sS ?_|refine sN ?_|refine sM fun _=> ?_|(refine sC ?_ ?_<;>intro hb<;>try omega)|fail)
      all_goals first
       |(exfalso;omega)
       |(refine ⟨(u+1,p2,A2,c2),⟨hlu,hs2,fun r=>by rw [hm2,hpm,hqs],by dsimp only;omega,fun h=>by cases h⟩,by dsimp only;omega,by exact sB,by exact sB,by exact mS⟩;done)
       |trace_state
     ·
      have hu2:u=e.uses.length:=by omega
      subst hu2
      repeat' (first|(apply aj (d:=40);exact rfl;apply ag (j:=k);exact rfl;exact rfl;exact hlk)|(apply aj (d:=41);exact rfl;apply aC;exact rfl;exact pK;exact hfk)|(apply aj (d:=49);exact rfl;apply ag (j:=k);exact rfl;exact rfl;exact hlk)|(apply aj (d:=51);exact rfl;apply aC;exact rfl;exact pK;exact hak)|refine sT ?_|refine sS ?_|refine sN ?_|refine sM fun _=> ?_|(refine sC ?_ ?_<;>intro hb<;>try omega)|fail)
      all_goals first
       |(exfalso;omega)
       |(refine ⟨(k+1,p,Ap,cp),⟨hlk,hps,fun r=>by rw [hpm,J3 hek hq],by dsimp only;omega⟩,by dsimp only;omega,by exact sB,by exact sB,by exact mS⟩;done)
       |trace_state
   ·
    have hk2:k=L.length:=by omega
    subst hk2
    have hpl:m=dP G c:=wF hs (kJ G c) fun r=>by rw [hmm,hfin,kF]
    subst hpl
    repeat' (first|refine sT ?_|refine sS ?_|refine sN ?_|refine sM fun _=> ?_|(refine sC ?_ ?_<;>intro hb<;>try omega)|fail)
    all_goals first
     |(exfalso;omega)
     |(exact cN eIO rfl rfl rfl mS ⟨Am,cm,rfl,rfl⟩)
     |trace_state
 ·
  rw [if_neg hc0]
  unfold rgB
  simp only [O8,O3,O4]
  repeat' (first|(apply aa (f:=56);exact rfl;exact rfl;(intro w' hm;exact hck w' _ (Reads.of_own (A:=some _) hm pK)))|refine sT ?_|refine sS ?_|refine sM fun _=> ?_|(refine sC ?_ ?_<;>intro hb<;>try omega)|fail)
  all_goals first
   |(exfalso;omega)
   |(exact cN eIO rfl rfl rfl mS ⟨none,0,rfl,rfl⟩)
   |trace_state
end Go.SL
namespace Go.SL
open Go Go.Proofs
attribute [local irreducible] W WL WQ WG WA WX WLI WR WT WC WE VOp RW thn blk bZ scp bA bV ck FnAt FnIn FnP ceP
theorem Gp.rpath (x:Gp) {G:Gr} (h:x.ok G) {H:List Blk} (hs:MSub x.H H) (w0:World) (hl:G.length≤900) (a b:Rf):
  FnIn Tryz.prog 22 [x.pb,aO a,aO b] w0 H fun v H' => ∃ A cap,v= .tuple #[sl A (iw G a b).length cap,.bool (o7 G a b),.int .i64 (aR [a,b] [])]∧H' = .own A 24 2 (iw G a b).length cap ((iw G a b).flatMap aw)::H:=by
 refine iV (B:=rgB x.gr x.A x.cap x.Q++x.R) (φ:=fun v A cap=>v= .tuple #[sl A (iw G a b).length cap,.bool (o7 G a b),.int .i64 (aR [a,b] [])]) (fun F=> ?_) (MSub.trans x.subB hs)
 have h1:=JG x.gr x.A x.cap x.Q G a b (x.R++F) w0 (h.b.sub (MSub.appL x.R F)) h.g (by rw [h.b.len];exact hl)
 rw [Pg]
 exact h1
theorem rQ (A:Option Nat) (n cap:Nat) (xs:List Value) (R:List Blk) (w0:World):
  FnIn Tryz.prog 23 [sl A n cap] w0 (.own A 24 2 n cap xs::R) fun v H=>v= .tuple #[]∧ ∃ ys,H= .own A 24 2 n cap ys::R:=by
 refine bM Tryz.func23 rfl Tryz.ntmps23 rfl ?_
 refine xI (A:=A) .hd fun hxl hle hcm=> ?_
 repeat' (first|refine sT ?_|refine sS ?_|refine sM fun _=> ?_|(refine sC ?_ ?_<;>intro hb<;>try omega)|fail)
 refine ax [0] rfl (fun y:Nat × List Value=> [(2,.int .i64 (y.1:Int))]) (fun y=> .own A 24 2 n cap y.2::R) (fun y=>y.1≤n∧y.2.length=n*2) (fun y=>n - y.1) (0,xs) ⟨Pb _,hxl⟩ sB mS ?_
 rintro ⟨i,ys⟩ ⟨hi,hys⟩
 dsimp only at hi hys ⊢
 by_cases hlt:i<n
 ·
  refine bW (A:=A) .hd (by omega) fun g hA=> ?_
  subst hA
  repeat' (first|(apply aj;exact rfl;apply ag (j:=i);exact rfl;exact rfl;exact hlt)|(apply iO (vs:= [.int .i64 0,.int .i64 0]) (off:=0+i*2);exact rfl;exact rfl;exact pK;exact rfl;exact rfl;(intro u hu;simp at hu;subst hu;rfl);(rw [hys];omega))|refine sT ?_|refine sS ?_|refine sN ?_|refine sM fun _=> ?_|(refine sC ?_ ?_<;>intro hb<;>try omega)|fail)
  all_goals first
   |(exfalso;omega)
   |(refine ⟨(i+1,_),⟨hlt,?_⟩,by dsimp only;omega,by exact sB,by exact sB,by exact mS⟩;dsimp only;simp only [List.length_append,List.length_take,List.length_drop,List.length_cons,List.length_nil];omega)
   |trace_state
 ·
  repeat' (first|refine sT ?_|refine sS ?_|refine sN ?_|refine sM fun _=> ?_|(refine sC ?_ ?_<;>intro hb<;>try omega)|fail)
  all_goals first
   |(exfalso;omega)
   |(exact jv eIO rfl mS ⟨rfl,ys,rfl⟩)
   |trace_state
theorem Gp.rabove (x:Gp) {G:Gr} (h:x.ok G) {H:List Blk} (hs:MSub x.H H) (w0:World) (hl:G.length≤900) (l:List Rct) (hll:l.length≤1000) (lv:Value) (hrd:Reads w0 lv l.length (l.flatMap aH)):
  FnIn Tryz.prog 12 [x.pb,lv] w0 H fun v H' => ∃ A cap,v= .tuple #[sl A (eP G l).length cap,.int .i64 (aR [] l)]∧H' = .own A 24 2 (eP G l).length cap ((eP G l).flatMap aw)::H:=by
 refine iV (B:=rgB x.gr x.A x.cap x.Q++x.R) (φ:=fun v A cap=>v= .tuple #[sl A (eP G l).length cap,.int .i64 (aR [] l)]) (fun F=> ?_) (MSub.trans x.subB hs)
 have h1:=Hy x.gr x.A x.cap x.Q G l lv (x.R++F) w0 (h.b.sub (MSub.appL x.R F)) h.g (by rw [h.b.len];omega) hll (fun H w _ hm=>hrd.of_w0 hm)
 rw [Pg]
 exact h1
theorem Gp.rbelow (x:Gp) {G:Gr} (h:x.ok G) {H:List Blk} (hs:MSub x.H H) (w0:World) (hl:G.length≤900) (c:Rf):
  FnIn Tryz.prog 15 [x.pb,aO c] w0 H fun v H' => ∃ A cap,v= .tuple #[sl A (eO G c).length cap,.int .i64 (aR [c] [])]∧H' = .own A 24 2 (eO G c).length cap ((eO G c).flatMap aw)::H:=by
 refine iV (B:=rgB x.gr x.A x.cap x.Q++x.R) (φ:=fun v A cap=>v= .tuple #[sl A (eO G c).length cap,.int .i64 (aR [c] [])]) (fun F=> ?_) (MSub.trans x.subB hs)
 have h1:=Hx x.gr x.A x.cap x.Q G c (x.R++F) w0 (h.b.sub (MSub.appL x.R F)) h.g (by rw [h.b.len];omega)
 rw [Pg]
 exact h1
theorem Gp.rleaves (x:Gp) {G:Gr} (h:x.ok G) {H:List Blk} (hs:MSub x.H H) (w0:World) (hl:G.length≤900) (c:Rf):
  FnIn Tryz.prog 17 [x.pb,aO c] w0 H fun v H' => ∃ A cap,v= .tuple #[sl A (di G c).length cap,.int .i64 (aR [c] [])]∧H' = .own A 53 4 (di G c).length cap ((di G c).flatMap aH)::H:=by
 refine iV (B:=rgB x.gr x.A x.cap x.Q++x.R) (φ:=fun v A cap=>v= .tuple #[sl A (di G c).length cap,.int .i64 (aR [c] [])]) (fun F=> ?_) (MSub.trans x.subB hs)
 have h1:=EC x.gr x.A x.cap x.Q G c (x.R++F) w0 (h.b.sub (MSub.appL x.R F)) h.g (by rw [h.b.len];omega)
 rw [Pg]
 exact h1
theorem Gp.rreaches (x:Gp) {G:Gr} (h:x.ok G) {H:List Blk} (hs:MSub x.H H) (w0:World) (hl:G.length≤900) (a b:Rf):
  FnIn Tryz.prog 20 [x.pb,aO a,aO b] w0 H fun v H' =>v= .tuple #[.bool (eR G a b),.int .i64 (aR [a,b] [])]∧H' =H:=by
 obtain ⟨F,hp⟩:=MSub.trans x.subB hs
 have h1:=BZ x.gr x.A x.cap x.Q G a b (x.R++F) w0 (h.b.sub (MSub.appL x.R F)) h.g (by rw [h.b.len];omega)
 rw [← Pg] at h1
 refine (h1.msub (MSub.of_perm hp)).re ?_
 rintro v H' ⟨hv,rfl⟩
 exact ⟨_,MSub.of_perm hp.symm,hv,rfl⟩
set_option maxHeartbeats 16000000 in
theorem tR (L:List Pu) (a b:Rf) (l:List Rct) (tv lv:Value) (w:World) (ht:Reads w tv L.length (L.flatMap tA)) (hl0:Reads w lv l.length (l.flatMap aH)) (hW:Words w):
  aF Tryz.prog 3 [tv,.agg (aw a).toArray,.agg (aw b).toArray,lv] w (.bool true):=by
 refine aA Tryz.func3 rfl Tryz.ntmps3 rfl ?_
 have hl0' :=hl0
 obtain ⟨Al,cl,rfl,hl1,hl2,hl3⟩:=hl0
 have hcut:=hl0'.cut (lo:=0) (hi:=min l.length 10) (sz:=4) (by omega) (by omega)
 generalize hm:min l.length 10=m at hcut
 have hm2:m≤10:=by omega
 have hmL:m≤l.length:=by omega
 have hn1:(l.take m).length=m:=by simp;omega
 have hn2:((l.flatMap aH).drop (0*4)).take ((m - 0)*4)=(l.take m).flatMap aH:=by
  rw [Sa,Qt,Qz,j0 cY]
 rw [hn2,Qz] at hcut
 generalize l.take m=M at hn1 hcut
 subst hn1
 have hS:=fun (w' :World) (H:List Blk) (hm:Mem w w' H)=>Iz L tv w' (ht.of_w0 hm) (hW.next hm)
 have hGl:=D0 L
 generalize rG L=G at hS hGl
 repeat' (first|(apply aj;exact rfl;apply Ng (a:=l.length) (b:=10);exact rfl;exact rfl;exact hm)|(apply aj;exact rfl;apply jd (lo:=0) (hi:=M.length);exact rfl;exact rfl;exact ⟨_,rfl⟩;omega;omega)|(apply aS (f:=9);exact rfl;exact rfl;(intro w' hm;exact hS w' _ hm);rintro _ _ ⟨x,rfl,rfl,hx⟩;refine y8 _ (MSub.appS _ _) ?_)|refine sT ?_|refine sS ?_|refine sJ ?_|refine sM fun _=> ?_|(refine sC ?_ ?_<;>intro hb<;>try omega)|fail)
 rename_i g5 g6 g9
 generalize hlv:(Value.slice _ M.length _:Value)=lv at*
 have hl' :G.length≤900:=by omega
 have hrd:=x.rdr hx hl' w
 refine ax [3,5,6,9] rfl (fun k:Nat=> [(11,.int .i64 (k:Int))]) (fun _=> .box g9 29 [x.pa,x.pb]:: .box g6 24 (aw b):: .box g5 24 (aw a)::x.H) (fun k=>k≤2) (fun k=>2 - k) 0 (Pb _) sB mS ?_
 rintro k hk
 by_cases hlt:k<2
 ·
  have hCR:=fun (w' :World) (H:List Blk) (hm:Mem w w' H)=>AH M lv w' (hcut.of_w0 hm) (by omega)
  have hA1:=fun (H:List Blk) (hs:MSub x.H H)=>hrd.above hs M (by omega)
  have hA2:=fun (H:List Blk) (hs:MSub x.H H)=>x.rabove hx hs w hl' M (by omega) lv hcut
  have hB1:=fun (H:List Blk) (hs:MSub x.H H)=>hrd.below hs a
  have hB2:=fun (H:List Blk) (hs:MSub x.H H)=>x.rbelow hx hs w hl' a
  have hL1:=fun (H:List Blk) (hs:MSub x.H H)=>hrd.leaves hs a
  have hL2:=fun (H:List Blk) (hs:MSub x.H H)=>x.rleaves hx hs w hl' a
  have hR1:=fun (H:List Blk) (hs:MSub x.H H)=>hrd.reaches hs a b
  have hR2:=fun (H:List Blk) (hs:MSub x.H H)=>x.rreaches hx hs w hl' a b
  have hP1:=fun (H:List Blk) (hs:MSub x.H H)=>hrd.path hs a b
  have hP2:=fun (H:List Blk) (hs:MSub x.H H)=>x.rpath hx hs w hl' a b
  generalize eP G M=Q1 at hA1 hA2
  generalize aR [] M=e1 at hA1 hA2
  generalize eO G a=Q2 at hB1 hB2
  generalize di G a=Q3 at hL1 hL2
  generalize aR [a] []=e2 at hB1 hB2 hL1 hL2
  generalize eR G a b=y1 at hR1 hR2
  generalize iw G a b=Q4 at hP1 hP2
  generalize o7 G a b=y2 at hP1 hP2
  generalize aR [a,b] []=e3 at hR1 hR2 hP1 hP2
  clear hlv hl1 hl2 hl3 hl0'
  repeat' (first|refine sT ?_|refine sS ?_|refine sM fun _=> ?_|(refine sC ?_ ?_<;>intro hb<;>try omega)|fail)
  all_goals try (exfalso;omega)
  refine fj (id:=8) [3,4] [] [.box g9 29 [x.pa,x.pb]] (by kernel_rfl) (by kernel_rfl) (by kernel_rfl) mS ?_
  repeat' (first|(apply aS (f:=11);exact rfl;exact rfl;(intro w' hm;exact hCR w' _ hm);rintro _ _ ⟨A0,c0,rfl,rfl⟩)|(apply ak (f:=10);exact rfl;exact rfl;exact hA1 _ mS _ (fun w' hm=>Reads.of_own (A:=A0) hm pK);rintro _ _ ⟨A1,c1,rfl,rfl⟩)|refine sT ?_|refine sS ?_|refine sW ?_|refine sM fun _=> ?_|(refine sC ?_ ?_<;>intro hb<;>try omega)|(refine sCW ?_ ?_<;>intro hb<;>try omega)|fail)
  all_goals try (exfalso;omega)
  repeat' (first|(apply aj;exact rfl;apply pJ;exact rfl;exact rfl)|(apply aj;exact rfl;apply zn;exact rfl;exact rfl)|(apply ak (f:=12);exact rfl;exact rfl;exact hA2 _ mS;rintro _ _ ⟨A2,c2,rfl,rfl⟩)|(apply aa (f:=13);exact rfl;exact rfl;(intro w' hm;first|exact iD rfl (Reads.of_own (A:=A8) (c:=c8) hm pK) (Reads.of_own (A:=A9) (c:=c9) hm pK)|exact iD rfl (Reads.of_own (A:=A3) (c:=c3) hm pK) (Reads.of_own (A:=A4) (c:=c4) hm pK)|exact iD rfl (Reads.of_own (A:=A1) (c:=c1) hm pK) (Reads.of_own (A:=A2) (c:=c2) hm pK)))|(apply ak (f:=14);exact rfl;exact rfl;exact hB1 _ mS;rintro _ _ ⟨A3,c3,rfl,rfl⟩)|(apply ak (f:=15);exact rfl;exact rfl;exact hB2 _ mS;rintro _ _ ⟨A4,c4,rfl,rfl⟩)|(apply ak (f:=16);exact rfl;exact rfl;exact hL1 _ mS;rintro _ _ ⟨A5,c5,rfl,rfl⟩)|(apply ak (f:=17);exact rfl;exact rfl;exact hL2 _ mS;rintro _ _ ⟨A6,c6,rfl,rfl⟩)|(apply aa (f:=18);exact rfl;exact rfl;(intro w' hm;exact pz rfl (Reads.of_own (A:=A5) (c:=c5) hm pK) (Reads.of_own (A:=A6) (c:=c6) hm pK)))|(apply ak (f:=19);exact rfl;exact rfl;exact hR1 _ mS;rintro _ _ ⟨rfl,rfl⟩)|(apply ak (f:=20);exact rfl;exact rfl;exact hR2 _ mS;rintro _ _ ⟨rfl,rfl⟩)|(apply ak (f:=21);exact rfl;exact rfl;exact hP1 _ mS;rintro _ _ ⟨A8,c8,rfl,rfl⟩)|(apply ak (f:=22);exact rfl;exact rfl;exact hP2 _ mS;rintro _ _ ⟨A9,c9,rfl,rfl⟩)|(apply ak (d:=170);exact rfl;exact rfl;exact FnIn.msub (rQ A1 _ c1 _ _ w) (MSub.pick pK (MSub.refl _));rintro _ _ ⟨rfl,y11,rfl⟩)|(apply ak (d:=172);exact rfl;exact rfl;exact FnIn.msub (rQ A3 _ c3 _ _ w) (MSub.pick pK (MSub.refl _));rintro _ _ ⟨rfl,y12,rfl⟩)|(apply ak (d:=174);exact rfl;exact rfl;exact FnIn.msub (rQ A8 _ c8 _ _ w) (MSub.pick pK (MSub.refl _));rintro _ _ ⟨rfl,y13,rfl⟩)|refine sT ?_|refine sS ?_|refine sM fun _=> ?_|(refine sC ?_ ?_<;>intro hb<;>try omega)|fail)
  all_goals try (exfalso;omega)
  refine ax [3,5,6,9,11,18] rfl (fun y:Nat × List Value=> [(26,.int .i64 (y.1:Int))]) (fun y=> .own A5 53 4 Q3.length c5 y.2:: .box g9 29 [x.pa,x.pb]:: .box g6 24 (aw b):: .box g5 24 (aw a)::x.H) (fun y=>y.1≤Q3.length∧y.2.length=Q3.length*4) (fun y=>Q3.length - y.1) (0,Q3.flatMap aH) ⟨Pb _,aQ cY Q3⟩ sB mS ?_
  rintro ⟨z,ys⟩ ⟨hz,hys⟩
  dsimp only at hz hys ⊢
  by_cases hlz:z<Q3.length
  ·
   refine xI (A:=A5) pK fun _ hle hcm=> ?_
   refine bW (A:=A5) pK (by omega) fun g hA=> ?_
   subst hA
   repeat' (first|(apply aj;exact rfl;apply ag (j:=z);exact rfl;exact rfl;exact hlz)|(apply iO (vs:= [.int .i64 0,.int .i64 0,.int .i64 0,.int .i64 0]) (off:=0+z*4);exact rfl;exact rfl;exact pK;exact rfl;exact rfl;(intro u hu;simp at hu;subst hu;rfl);(rw [hys];omega))|refine sT ?_|refine sS ?_|refine sN ?_|refine sM fun _=> ?_|(refine sC ?_ ?_<;>intro hb<;>try omega)|fail)
   all_goals first
    |(exfalso;omega)
    |(refine ⟨(z+1,_),⟨hlz,?_⟩,by dsimp only;omega,by exact sB,by exact sB,by exact mS⟩;dsimp only;simp only [List.length_append,List.length_take,List.length_drop,List.length_cons,List.length_nil];omega)
    |trace_state
  ·
   repeat' (first|refine sT ?_|refine sS ?_|refine sN ?_|refine sM fun _=> ?_|(refine sC ?_ ?_<;>intro hb<;>try omega)|fail)
   all_goals first
    |(exfalso;omega)
    |(refine ⟨k+1,by omega,by omega,by exact sB,by exact sB,by exact mS⟩;done)
    |trace_state
 ·
  repeat' (first|(apply ak (f:=24);exact rfl;exact rfl;exact Mx x G hx hl' mS w;rintro _ _ ⟨rfl,rfl⟩)|(apply aa (f:=25);exact rfl;exact rfl;(intro w' hm;exact Fg w' (hW.next hm)))|refine sT ?_|refine sS ?_|refine sN ?_|refine sM fun _=> ?_|(refine sC ?_ ?_<;>intro hb<;>try omega)|fail)
  all_goals first
   |(exfalso;omega)
   |((refine rT1 ?_);rfl)
   |trace_state
end Go.SL
