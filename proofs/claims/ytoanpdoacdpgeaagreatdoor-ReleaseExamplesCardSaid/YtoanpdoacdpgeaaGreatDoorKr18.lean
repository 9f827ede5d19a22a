/-
  Lemmas and walks, put together: Vd Jm Vh Vq Vn Vr.
-/
import Derived.Test.YtoanpdoacdpgeaaGreatDoorKr17
set_option linter.unusedSimpArgs false
set_option linter.unusedVariables false
set_option maxRecDepth 20000
namespace Go.SL
open Go Go.Proofs
attribute [local irreducible] W WL WQ WG WA WX WLI WR WT WC WE VOp RW thn blk bo scp aN bf bi aF FnIn FnP ceP
theorem fR {α β:Type} {f:α→List β} {m:Nat}: ∀ {l:List α},(∀ x∈l,(f x).length≤m)→(l.flatMap f).length≤l.length*m
 | [],_=>H5 _
 |a::l,h=>by
  have h1:=h a H4
  have h2:=fR (l:=l) (m:=m) (f:=f) fun x hx=>h x (H9 _ hx)
  rw [IP,HV,IA,Nat.succ_mul]
  omega
theorem uC (b:Bk) (a:Rf) (u:Us) (rd:BitVec 64) (i:Nat):(iW b a u rd i).length≤1:=by
 unfold iW
 split
 ·
  split<;>simp
 ·
  simp
theorem rk (fn:Int) (r:Rct) (L:List Rl) (G:List Gn):(iX fn r L G).2.1.length≤G.length:=by
 have:=jh fn r L G 0
 unfold iX
 split
 ·
  exact H5 _
 split
 ·
  exact H5 _
 split
 ·
  exact H5 _
 split
 ·
  exact H5 _
 ·
  rw [IJ];exact this
theorem kE (fn:Int) (r:Rct) (L:List Rl): ∀ (G:List Gn) (i:Nat),∀ x∈bQ fn r L G i,x.1<i+G.length
 | [],_,x,h=>by cases h
 |g::G,i,x,h=>by
  rw [bQ] at h
  rw [IA]
  cases hq:qU fn r L g with
  |true=>
   rw [hq,cond_true] at h
   rcases Ie.1 h with rfl|h
   ·
    dsimp only;omega
   ·
    have:=kE fn r L G (i+1) x h;omega
  |false=>
   rw [hq,cond_false] at h
   have:=kE fn r L G (i+1) x h;omega
theorem CA {fn:Int} {r:Rct} {L:List Rl} {G:List Gn}: ∀ i∈(iX fn r L G).2.1,i<G.length:=by
 intro i hi
 unfold iX at hi
 split at hi
 ·
  cases hi
 split at hi
 ·
  cases hi
 split at hi
 ·
  cases hi
 split at hi
 ·
  cases hi
 ·
  obtain ⟨x,hx,rfl⟩:=Iu.1 hi
  have:=kE fn r L G 0 x hx
  omega
theorem q9 (b:Bk) (a:Rf) (rd:BitVec 64) (u:Us) (hg:b.grants.length≤64):(dX b a rd u).length≤64:=by
 unfold dX
 split
 ·
  exact H5 _
 ·
  have h1:=fR (l:=(iX u.fn u.rect b.rules b.grants).2.1) (f:=iW b a u rd) (m:=1) fun x _=>uC b a u rd x
  have h2:=rk u.fn u.rect b.rules b.grants
  omega
theorem ra (b:Bk) (G:Gr) (hG:GrOk G) (a:Rf) (hg:b.grants.length≤64):(jo b G a).length≤64000:=by
 have h1:=fR (l:=eL G a) (f:=dX b a (atE a b.rules).1.1) (m:=64) fun u _=>q9 b a _ u hg
 have h2:=oG hG a
 exact IW h1 (IW (Jl 64 h2) (by decide))
structure Rdu (gg:Nat) (G:Gr) (B:List Blk) (w0:World):Prop where
 fm: ∀ H,MSub B H→FnIn Tryz.prog 123 [.pointer (some ⟨gg,0,none⟩)] w0 H fun v H' => ∃ A cap,v=sl A (ba G).length cap∧H' = .own A 50 2 (ba G).length cap ((ba G).flatMap aQ)::H
 us: ∀ d H,MSub B H→FnIn Tryz.prog 125 [.pointer (some ⟨gg,0,none⟩),kI d] w0 H fun v H' => ∃ A cap,v=sl A (eL G d).length cap∧H' = .own A 159 6 (eL G d).length cap ((eL G d).flatMap dh)::H
theorem GOk.rdu {R:List Blk} {E:List En} {clock:Nat} {G:Gr} (h:GOk R E clock G) (hl:G.length≤900) (gg gm:Nat) (w0:World):Rdu gg G (gB gg gm (E.map En.m) clock++R) w0:=
 ⟨fun _ hs=>h.formulas_any gg gm hs w0 hl,fun d _ hs=>h.uses_any gg gm hs w0 d⟩
theorem s5 {α β:Type} {F:α→List β} {L:List α} {i:Nat} (h:i<L.length):(L.take (i+1)).flatMap F=(L.take i).flatMap F++F L[i]:=by
 rw [H7 h,I2,IP,Jd,Ig]
theorem xg {α β:Type} {F:α→List β} {L:List α} {m:Nat} (i:Nat) (h: ∀ a∈L,(F a).length≤m):((L.take i).flatMap F).length≤L.length*m:=
 IW (fR fun x hx=>h x (Jw hx)) (Jl m (by rw [IU];exact Nat.min_le_right _ _))
section
variable {P:Program} {w0:World} {s:ap} {H:List Blk} {ty:TypeId}
theorem oz {c:Bool} {x y:Operand} {a b:BitVec 64} {t t' :TypeId} (h:decide (a≠b)=c) (hx:ev s x=some (vS a)) (hy:ev s y=some (vS b)):VOp P w0 s H (.binOp .neq t x y t') ty (.bool c):=by
 have h1:=fZ (P:=P) (w0:=w0) (H:=H) (ty:=ty) (t:=t) (t' :=t') hx hy
 rwa [show (!decide (a=b))=c by rw [← h];simp] at h1
end
theorem DT {b:Bk} {a:Rf} {u:Us} {rd:BitVec 64} {q:Nat} (h:q<b.grants.length) {c:Bool} (hc:decide (b.grants[q].to≠0#64)=c):iW b a u rd q=if c=true then [⟨b.step - 1,⟨a,u.node⟩,u.fn,u.rect,(q:Int),rd⟩] else []:=by
 unfold iW
 rw [HY h]
 dsimp only
 subst hc
 simp only [decide_eq_true_eq]
theorem DJ {s:Int} (h:0≤s∧s≤1099511627776):IntKind.i64.wrap (s - 1)=s - 1:=by rw [IntKind.wrap_i64];omega
set_option maxHeartbeats 32000000 in
theorem oP (b:Bk) (x:Bv) (w:World) (h:BRd w b x) (hbo:BkOk b) (hW:Words w) (hlen:b.ents.length≤900):
  aF Tryz.prog 79 [.agg (bn b x).toArray] w fun v H=> ∃ A cap,v=sl A (cF b).length cap∧H= [.own A 62 11 (cF b).length cap ((cF b).flatMap aH)]:=by
 obtain ⟨hgr,hGo,hGl⟩:=Cw hbo
 have hN: ∀ (w' :World) (H:List Blk),Mem w w' H→aF Tryz.prog 122 [.slice x.ae b.ents.length x.ce] w' fun v H=> ∃ gg gm E clock R,v= .tuple #[.pointer (some ⟨gg,0,none⟩),.int .i64 0]∧H=gB gg gm (E.map En.m) clock++R∧GOk R E clock (grB b):=by
  intro w' H hm
  have h1:=Gl b.ents _ w' (h.e.of_w0 hm) (by omega) (hW.next hm)
  rw [hgr] at h1
  exact h1
 have hAt:=fun (a:Rf) (w' :World) (H:List Blk) (hm:Mem w w' H)=>EU a b.rules _ w' (h.r.of_w0 hm)
 have hg64:=(yw.1 hbo.g).2.1
 have hFo:=fun (u:Us) (w' :World) (H:List Blk) (hm:Mem w w' H)=>Gt u.fn u.rect b.rules b.grants _ _ w' (h.r.of_w0 hm) (h.g.of_w0 hm) (by omega)
 have hst:=DJ ⟨(vH (show ¬ bkE b≠0 by rw [xw.2 hbo];decide)).1,(vH (show ¬ bkE b≠0 by rw [xw.2 hbo];decide)).2.1⟩
 have hcl:=fun a=>ra b (grB b) hGo a hg64
 have hul:=fun a rd u=>q9 b a rd u hg64
 have hg:=h.g
 have hUl:=fun a=>oG hGo a
 unfold cF yt
 have hlc: ∀ a,jo b (grB b) a=(eL (grB b) a).flatMap (dX b a (atE a b.rules).1.1):=fun _=>rfl
 have hkl:(ba (grB b)).length≤900:=by rw [ba,IJ];omega
 generalize grB b=G at hN hGl hcl hUl hlc hkl hGo ⊢
 have hpl:=fun i=>xg (F:=jo b G) (L:=ba G) i fun a _=>hcl a
 refine aq Tryz.func79 rfl Tryz.ntmps79 rfl ?_
 refine aw 62 11 ?_
 repeat' (first|(apply av (f:=122);exact rfl;exact rfl;(intro w' hm;exact hN w' _ hm);rintro _ _ ⟨gg,gm,E,clock,Rb,rfl,rfl,hA⟩)|refine sT ?_|refine sS ?_|refine sM fun _=> ?_|(refine sC ?_ ?_<;>intro hb<;>try omega)|fail)
 all_goals try (exfalso;omega)
 rename_i g1
 have hR:=hA.rdu (by omega) gg gm w
 refine xP (.box g1 28 (bn b x):: .own none 62 11 0 0 []::(gB gg gm (E.map En.m) clock++Rb)) (by first|exact MSub.of_perm (IM (l₂:= [_,_]))|(simp only [Ij,HW,HZ];exact mS)) ?_
 generalize gB gg gm (E.map En.m) clock++Rb=B at hR ⊢
 have hFm:=hR.fm
 have hUs:=hR.us
 clear hR hA hN
 repeat' (first|(apply aB (f:=123);exact rfl;exact rfl;exact hFm _ mS;rintro _ _ ⟨Ac,cap,rfl,rfl⟩)|refine sT ?_|refine sS ?_|refine sM fun _=> ?_|(refine sC ?_ ?_<;>intro hb<;>try omega)|fail)
 all_goals try (exfalso;omega)
 clear hFm
 refine ax [1,3,24,25] rfl (fun y:Nat × Option Nat × Nat=> [(5,sl y.2.1 (((ba G).take y.1).flatMap (jo b G)).length y.2.2),(26,.int .i64 (y.1:Int))]) (fun y=> .own y.2.1 62 11 (((ba G).take y.1).flatMap (jo b G)).length y.2.2 ((((ba G).take y.1).flatMap (jo b G)).flatMap aH):: .own Ac 50 2 (ba G).length cap ((ba G).flatMap aQ):: .box g1 28 (bn b x)::B) (fun y=>y.1≤(ba G).length) (fun y=>(ba G).length - y.1) (0,none,0) (H5 _) sB mS ?_
 rintro ⟨i,A,c⟩ hi
 dsimp only at hi ⊢
 by_cases hlt:i<(ba G).length
 ·
  refine ez (A:=Ac) pK (by omega) fun gc hAc=> ?_
  subst hAc
  have hread:=HG hlt
  have hnx:=s5 (F:=jo b G) hlt
  have hpl:=hpl i
  have hav:=zD hGo (I7 hlt)
  rw [hlc] at hnx
  generalize (ba G)[i]=a at hread hnx hav
  generalize ((ba G).take i).flatMap (jo b G)=X at hnx hpl ⊢
  have hAt:=hAt a
  rw [(Gf (Gi hbo.r) hav).2] at hAt
  have hUs:=hUs a
  have hUl:=hUl a
  have hul:=hul a (atE a b.rules).1.1
  generalize (atE a b.rules).1.1=rd at hAt hnx hul
  generalize (atE a b.rules).1.2.1=wr at hAt
  generalize (atE a b.rules).1.2.2=ow at hAt
  clear hlc
  generalize eL G a=U at hUs hUl hnx
  have hpu:=fun k=>xg (F:=dX b a rd) (L:=U) k fun u _=>hul u
  have hxl:X.length≤57600000:=IW hpl (Jl 64000 hkl)
  have hpu2: ∀ k,((U.take k).flatMap (dX b a rd)).length≤64000:=fun k=>IW (hpu k) (Jl 64 hUl)
  repeat' (first|(apply aj (d:=28);exact rfl;apply ai (j:=i);exact rfl;exact rfl;exact hlt)|(apply aj (d:=29);exact rfl;apply aR (ys:=aQ a);exact rfl;exact pK;exact hread;exact rfl)|(apply ah (f:=124);exact rfl;exact rfl;(intro w' hm;exact hAt w' _ hm))|(apply aB (f:=125);exact rfl;exact rfl;exact hUs _ mS;rintro _ _ ⟨Au,cu,rfl,rfl⟩)|refine sT ?_|refine sS ?_|refine sN ?_|refine sM fun _=> ?_|(refine sC ?_ ?_<;>intro hb<;>try omega)|fail)
  all_goals try (exfalso;omega)
  rename_i g7 g8
  refine ax [1,3,24,25,26,7,8,39,40] rfl (fun y:Nat × Option Nat × Nat=> [(5,sl y.2.1 (X++(U.take y.1).flatMap (dX b a rd)).length y.2.2),(41,.int .i64 (y.1:Int))]) (fun y=> .own y.2.1 62 11 (X++(U.take y.1).flatMap (dX b a rd)).length y.2.2 ((X++(U.take y.1).flatMap (dX b a rd)).flatMap aH):: .own Au 159 6 U.length cu (U.flatMap dh):: .box g7 50 (aQ a):: .box g8 35 [vS rd,vS wr,vS ow]:: .own (some gc) 50 2 (ba G).length cap ((ba G).flatMap aQ):: .box g1 28 (bn b x)::B) (fun y=>y.1≤U.length) (fun y=>U.length - y.1) (0,A,c) (H5 _) (by simp only [JA,Jd,Ig];exact sB) (by simp only [JA,Jd,Ig];exact mS) ?_
  clear hUs
  rintro ⟨k,A,c⟩ hk
  dsimp only at hk ⊢
  by_cases hlk:k<U.length
  ·
   refine ez (A:=Au) pK (by omega) fun gu hAu=> ?_
   subst hAu
   have hreadu:=G3 hlk
   have hnk:=s5 (F:=dX b a rd) hlk
   have hpu2:=hpu2 k
   generalize U[k]=u at hreadu hnk
   have hnk2:X++(U.take (k+1)).flatMap (dX b a rd)=(X++(U.take k).flatMap (dX b a rd))++dX b a rd u:=by rw [hnk,Il]
   have hyl:(X++(U.take k).flatMap (dX b a rd)).length≤57664000:=by rw [HV];omega
   generalize X++(U.take k).flatMap (dX b a rd)=Y at hnk2 hyl ⊢
   clear hnk
   have hFo:=hFo u
   have hby:=CA (fn:=u.fn) (r:=u.rect) (L:=b.rules) (G:=b.grants)
   have hbl:=rk u.fn u.rect b.rules b.grants
   rw [show dX b a rd u=if u.node<0 then [] else (iX u.fn u.rect b.rules b.grants).2.1.flatMap (iW b a u rd) from rfl] at hnk2
   by_cases hng:u.node<0
   ·
    rw [if_pos hng,Ig] at hnk2
    repeat' (first|(apply aj (d:=43);exact rfl;apply ai (j:=k);exact rfl;exact rfl;exact hlk)|(apply aj (d:=44);exact rfl;apply aR (ys:=dh u);exact rfl;exact pK;exact hreadu;exact rfl)|refine sT ?_|refine sS ?_|refine sN ?_|refine sM fun _=> ?_|(refine sC ?_ ?_<;>intro hb<;>try omega)|fail)
    all_goals first
     |(exfalso;omega)
     |(refine ⟨(k+1,A,c),hlk,by dsimp only;omega,by simp only [hnk2];exact sB,by exact sB,by simp only [hnk2];exact mS⟩;done)
   rw [if_neg hng] at hnk2
   generalize (iX u.fn u.rect b.rules b.grants).2.1=BY at hFo hnk2 hby hbl
   generalize (iX u.fn u.rect b.rules b.grants).1=f1 at hFo
   generalize (iX u.fn u.rect b.rules b.grants).2.2=f3 at hFo
   have hpb:=fun j=>xg (F:=iW b a u rd) (L:=BY) (m:=1) j fun q _=>uC b a u rd q
   repeat' (first|(apply aj (d:=43);exact rfl;apply ai (j:=k);exact rfl;exact rfl;exact hlk)|(apply aj (d:=44);exact rfl;apply aR (ys:=dh u);exact rfl;exact pK;exact hreadu;exact rfl)|(apply av (f:=126);exact rfl;exact rfl;(intro w' hm;exact hFo w' _ hm);rintro _ _ ⟨Ab,cb,rfl,rfl⟩)|refine sT ?_|refine sS ?_|refine sN ?_|refine sM fun _=> ?_|(refine sC ?_ ?_<;>intro hb<;>try omega)|fail)
   all_goals try (exfalso;omega)
   rename_i g11
   refine ax [1,3,24,25,26,7,8,39,40,41,11,61,62] rfl (fun y:Nat × Option Nat × Nat=> [(5,sl y.2.1 (Y++(BY.take y.1).flatMap (iW b a u rd)).length y.2.2),(63,.int .i64 (y.1:Int))]) (fun y=> .own y.2.1 62 11 (Y++(BY.take y.1).flatMap (iW b a u rd)).length y.2.2 ((Y++(BY.take y.1).flatMap (iW b a u rd)).flatMap aH):: .own Ab 3 1 BY.length cb (dY BY):: .box g11 159 (dh u):: .own (some gu) 159 6 U.length cu (U.flatMap dh):: .box g7 50 (aQ a):: .box g8 35 [vS rd,vS wr,vS ow]:: .own (some gc) 50 2 (ba G).length cap ((ba G).flatMap aQ):: .box g1 28 (bn b x)::B) (fun y=>y.1≤BY.length) (fun y=>BY.length - y.1) (0,A,c) (H5 _) (by simp only [JA,Jd,Ig];exact sB) (by simp only [JA,Jd,Ig];exact mS) ?_
   rintro ⟨j,A,c⟩ hj
   dsimp only at hj ⊢
   by_cases hlj:j<BY.length
   ·
    refine ez (A:=Ab) pK (by omega) fun gb hAb=> ?_
    subst hAb
    have hreadb:=zF hlj
    have hnj:=s5 (F:=iW b a u rd) hlj
    have hpb:=hpb j
    have hql:=hby BY[j] (I7 hlj)
    generalize BY[j]=q at hreadb hnj hql
    obtain ⟨An,cn,hgv,hg1,hg2,hg3⟩:=hg
    obtain ⟨gn,on,rfl,hrn⟩:=hg3 (by omega)
    have hto:=(Gn.ro (hrn.elem il q hql)).2.2.1
    obtain ⟨cc,hcc⟩: ∃ cc,decide (b.grants[q].to≠0#64)=cc:=⟨_,rfl⟩
    rw [DT hql hcc] at hnj
    have hnj2:Y++(BY.take (j+1)).flatMap (iW b a u rd)=(Y++(BY.take j).flatMap (iW b a u rd))++(if cc=true then [⟨b.step - 1,⟨a,u.node⟩,u.fn,u.rect,(q:Int),rd⟩] else []):=by rw [hnj,Il]
    have hzl:(Y++(BY.take j).flatMap (iW b a u rd)).length≤57664100:=by rw [HV];omega
    generalize Y++(BY.take j).flatMap (iW b a u rd)=Z at hnj2 hzl ⊢
    clear hnj
    generalize b.grants[q].to=to_ at hto hcc
    cases cc with
    |false=>
     rw [if_neg (by decide),Ig] at hnj2
     repeat' (first|(apply aj (d:=65);exact rfl;apply ai (j:=j);exact rfl;exact rfl;exact hlj)|(apply aj (d:=66);exact rfl;apply aP;exact rfl;exact pK;first|exact hreadb|(rw [show 0+j*1=j by omega];exact hreadb))|(apply aj (d:=70);exact rfl;apply ai (j:=q);first|exact rfl|exact congrArg some hgv;exact rfl;exact hql)|(apply aj (d:=72);exact rfl;apply iF;exact rfl;exact hto)|(apply aj (d:=73);exact rfl;apply oz hcc;exact rfl;exact rfl)|refine sT ?_|refine sS ?_|refine sN ?_|refine sM fun _=> ?_|(refine sC ?_ ?_<;>intro hb<;>try omega)|fail)
     all_goals first
      |(exfalso;omega)
      |(refine ⟨(j+1,A,c),hlj,by dsimp only;omega,by simp only [hnj2];exact sB,by exact sB,by simp only [hnj2];exact mS⟩;done)
    |true=>
     rw [if_pos rfl] at hnj2
     repeat' (first|(apply aj (d:=65);exact rfl;apply ai (j:=j);exact rfl;exact rfl;exact hlj)|(apply aj (d:=66);exact rfl;apply aP;exact rfl;exact pK;first|exact hreadb|(rw [show 0+j*1=j by omega];exact hreadb))|(apply aj (d:=70);exact rfl;apply ai (j:=q);first|exact rfl|exact congrArg some hgv;exact rfl;exact hql)|(apply aj (d:=72);exact rfl;apply iF;exact rfl;exact hto)|(apply aj (d:=73);exact rfl;apply oz hcc;exact rfl;exact rfl)|(apply aj (d:=77);exact rfl;apply qB (c:=b.step - 1);exact rfl;exact rfl;exact hst)|(apply aV (d:=91) (A:=A) (m:=1);(iterate 3 exact rfl);exact pK;(intro w hm;exact hm.cells_own pK);exact rfl;(intro u hu;simp [aH] at hu;rcases hu with rfl|rfl|rfl|rfl|rfl|rfl|rfl|rfl|rfl|rfl|rfl<;>rfl);omega;(simp only [maxLen];omega);(intro A' cap' hA'))|refine sT ?_|refine sS ?_|refine sN ?_|refine sM fun _=> ?_|(refine sC ?_ ?_<;>intro hb<;>try omega)|fail)
     all_goals first
      |(exfalso;omega)
      |(refine ⟨(j+1,A',cap'),hlj,by dsimp only;omega,by simp only [hnj2,List.length_append,List.length_singleton];exact sB,by exact sB,by simp only [hnj2,List.length_append,List.length_singleton,List.flatMap_append,List.flatMap_cons,List.flatMap_nil,List.append_nil];exact mS⟩;done)
   ·
    have e:j=BY.length:=by omega
    subst e
    rw [IX]
    repeat' (first|refine sT ?_|refine sS ?_|refine sN ?_|refine sM fun _=> ?_|(refine sC ?_ ?_<;>intro hb<;>try omega)|fail)
    all_goals first
     |(exfalso;omega)
     |(refine ⟨(k+1,A,c),hlk,by dsimp only;omega,by simp only [hnk2];exact sB,by exact sB,by simp only [hnk2];exact mS⟩;done)
  ·
   have e:k=U.length:=by omega
   subst e
   rw [IX]
   repeat' (first|refine sT ?_|refine sS ?_|refine sN ?_|refine sM fun _=> ?_|(refine sC ?_ ?_<;>intro hb<;>try omega)|fail)
   all_goals first
    |(exfalso;omega)
    |(refine ⟨(i+1,A,c),hlt,by dsimp only;omega,by simp only [hnx];exact sB,by exact sB,by simp only [hnx];exact mS⟩;done)
 ·
  have e:i=(ba G).length:=by omega
  subst e
  rw [IX]
  repeat' (first|refine sT ?_|refine sS ?_|refine sM fun _=> ?_|(refine sC ?_ ?_<;>intro hb<;>try omega)|fail)
  all_goals first
   |(exfalso;omega)
   |(refine bI eIO rfl rfl mS ⟨A,c,rfl,rfl⟩;done)
theorem o6 {b:Bk} (hbo:BkOk b) (hlen:b.ents.length≤900):(cF b).length≤57600000:=by
 obtain ⟨_,hGo,hGl⟩:=Cw hbo
 have h1:=fR (l:=ba (grB b)) (f:=jo b (grB b)) (m:=64000) fun a _=>ra b (grB b) hGo a (yw.1 hbo.g).2.1
 have h2:(ba (grB b)).length≤900:=by rw [ba,IJ];omega
 exact IW h1 (Jl 64000 h2)
theorem tG (L:List Rl) (tv:Value) (w:World) (ht:Reads w tv L.length (L.flatMap bH)) (hlen:L.length≤1000000):
  aF Tryz.prog 36 [tv] w fun v H=> ∃ A cap,v=sl A L.length cap∧H= [.own A 54 7 L.length cap (L.flatMap bH)]:=by
 refine aq Tryz.func36 rfl Tryz.ntmps36 rfl ?_
 have hl:(L.flatMap bH).length=L.length*7:=aC di L
 refine aw 54 7 ?_
 repeat' (first|(apply bp (n' :=0) (c:=0) (A:=none) (m:=L.length);(iterate 3 exact rfl);exact pK;(intro w hm;exact ht.of_w0 hm);exact hl;exact pR L;omega;(simp only [maxLen];omega);intro A' cap' hA)|refine sT ?_|refine sM fun _=> ?_|(refine sC ?_ ?_<;>intro hb<;>try omega)|fail)
 exact bI (.inl rfl) Tryz.results36 rfl (H' := [.own A' 54 7 (0+L.length) cap' ([]++L.flatMap bH)]) mS ⟨A',cap',by rw [H8],by rw [H8];rfl⟩
theorem qt (L:List Ev) (tv:Value) (w:World) (ht:Reads w tv L.length (L.flatMap ed)) (hlen:L.length≤1000000):
  aF Tryz.prog 38 [tv] w fun v H=> ∃ A cap,v=sl A L.length cap∧H= [.own A 58 9 L.length cap (L.flatMap ed)]:=by
 refine aq Tryz.func38 rfl Tryz.ntmps38 rfl ?_
 have hl:(L.flatMap ed).length=L.length*9:=aC jR L
 refine aw 58 9 ?_
 repeat' (first|(apply bp (n' :=0) (c:=0) (A:=none) (m:=L.length);(iterate 3 exact rfl);exact pK;(intro w hm;exact ht.of_w0 hm);exact hl;exact pT L;omega;(simp only [maxLen];omega);intro A' cap' hA)|refine sT ?_|refine sM fun _=> ?_|(refine sC ?_ ?_<;>intro hb<;>try omega)|fail)
 exact bI (.inl rfl) Tryz.results38 rfl (H' := [.own A' 58 9 (0+L.length) cap' ([]++L.flatMap ed)]) mS ⟨A',cap',by rw [H8],by rw [H8];rfl⟩
theorem nH (L:List Rv) (tv:Value) (w:World) (ht:Reads w tv L.length (L.flatMap aH)) (hlen:L.length≤100000000):
  aF Tryz.prog 39 [tv] w fun v H=> ∃ A cap,v=sl A L.length cap∧H= [.own A 62 11 L.length cap (L.flatMap aH)]:=by
 refine aq Tryz.func39 rfl Tryz.ntmps39 rfl ?_
 have hl:(L.flatMap aH).length=L.length*11:=aC cf L
 refine aw 62 11 ?_
 repeat' (first|(apply bp (n' :=0) (c:=0) (A:=none) (m:=L.length);(iterate 3 exact rfl);exact pK;(intro w hm;exact ht.of_w0 hm);exact hl;exact kP L;omega;(simp only [maxLen];omega);intro A' cap' hA)|refine sT ?_|refine sM fun _=> ?_|(refine sC ?_ ?_<;>intro hb<;>try omega)|fail)
 exact bI (.inl rfl) Tryz.results39 rfl (H' := [.own A' 62 11 (0+L.length) cap' ([]++L.flatMap aH)]) mS ⟨A',cap',by rw [H8],by rw [H8];rfl⟩
set_option maxHeartbeats 8000000 in
theorem vZ (b:Bk) (x:Bv) (w:World) (h:BRd w b x) (hs:Small b):aF Tryz.prog 10 [.agg (bn b x).toArray] w fun v H=> ∃ a:Bo,v= .agg (bn b a.v).toArray∧H=aG b a:=by
 refine aq Tryz.func10 rfl Tryz.ntmps10 rfl ?_
 have h1:=fun (w' :World) (H:List Blk) (hm:Mem w w' H)=>p8 b.ents _ w' (h.e.of_w0 hm) hs.e
 have h2:=fun (w' :World) (H:List Blk) (hm:Mem w w' H)=>tG b.rules _ w' (h.r.of_w0 hm) hs.r
 have h3:=fun (w' :World) (H:List Blk) (hm:Mem w w' H)=>qq b.grants _ w' (h.g.of_w0 hm) hs.g
 have h4:=fun (w' :World) (H:List Blk) (hm:Mem w w' H)=>qt b.log _ w' (h.l.of_w0 hm) hs.l
 have h5:=fun (w' :World) (H:List Blk) (hm:Mem w w' H)=>nH b.rels _ w' (h.s.of_w0 hm) hs.s
 simp only [bn]
 repeat' (first|refine sT ?_|refine sS ?_|refine sM fun _=> ?_|(refine sC ?_ ?_<;>intro hb<;>try omega)|fail)
 rename_i g1 g2
 refine aw 0 0 ?_
 refine aw 0 0 ?_
 refine aw 0 0 ?_
 refine aw 0 0 ?_
 refine aw 0 0 ?_
 refine AZ (id:=1) (fun|2=>some fun g=>sl g.1 b.ents.length g.2|5=>some fun g=>sl g.1 b.rules.length g.2|8=>some fun g=>sl g.1 b.grants.length g.2|11=>some fun g=>sl g.1 b.log.length g.2|14=>some fun g=>sl g.1 b.rels.length g.2|_=>none)
  (fun (D:dM) (q:Nat→Gh)=> .box g1 28 [.int .i64 b.users,bif D 16 then sl (q 2).1 b.ents.length (q 2).2 else .slice x.ae b.ents.length x.ce,bif D 18 then sl (q 5).1 b.rules.length (q 5).2 else .slice x.ar b.rules.length x.cr,bif D 20 then sl (q 8).1 b.grants.length (q 8).2 else .slice x.ag b.grants.length x.cg,bif D 22 then sl (q 11).1 b.log.length (q 11).2 else .slice x.al b.log.length x.cl,bif D 24 then sl (q 14).1 b.rels.length (q 14).2 else .slice x.as_ b.rels.length x.cs,.int .i64 b.step]:: .box g2 28 [.int .i64 0,.slice none 0 0,.slice none 0 0,.slice none 0 0,.slice none 0 0,.slice none 0 0,.int .i64 0]::(bif D 2 then Blk.own (q 2).1 52 3 b.ents.length (q 2).2 (b.ents.flatMap cW) else BU)::(bif D 5 then Blk.own (q 5).1 54 7 b.rules.length (q 5).2 (b.rules.flatMap bH) else BU)::(bif D 8 then Blk.own (q 8).1 56 8 b.grants.length (q 8).2 (b.grants.flatMap bB) else BU)::(bif D 11 then Blk.own (q 11).1 58 9 b.log.length (q 11).2 (b.log.flatMap ed) else BU)::(bif D 14 then Blk.own (q 14).1 62 11 b.rels.length (q 14).2 (b.rels.flatMap aH) else BU):: []) ?_ ?_ ?_ ?_
 ·
  kernel_rfl
 ·
  kernel_rfl
 ·
  intro γ
  exact mS
 intro γ
 repeat' (first|(apply tI (d:=4);(iterate 3 exact rfl);(intro D ht;(have n16:D 16=false:=ht.late (j:=16) (f:=60) (by decide+kernel));(simp only [gat,put,upd,Nat.reduceEqDiff,Nat.reduceAdd,reduceIte,n16,cond_true,cond_false,HZ,HW,IV,IK,IR,IZ]);apply dK;exact rfl;exact pK;exact rfl);exact fun _=>rfl)|refine sT ?_|refine sS ?_|refine sX ?_|refine sM fun _=> ?_|(refine sC ?_ ?_<;>intro hb<;>try omega)|(refine sCX ?_ ?_<;>intro hb<;>try omega)|fail)
 refine nW rfl rfl rfl (fun D ht=> ?_) ?_
 ·
  have n2:D 2=false:=ht.not
  have n5:D 5=false:=ht.late (j:=5) (f:=60) (by decide+kernel)
  have n8:D 8=false:=ht.late (j:=8) (f:=60) (by decide+kernel)
  have n11:D 11=false:=ht.late (j:=11) (f:=60) (by decide+kernel)
  have n14:D 14=false:=ht.late (j:=14) (f:=60) (by decide+kernel)
  have n16:D 16=false:=ht.late (j:=16) (f:=60) (by decide+kernel)
  have n18:D 18=false:=ht.late (j:=18) (f:=60) (by decide+kernel)
  have n20:D 20=false:=ht.late (j:=20) (f:=60) (by decide+kernel)
  have n22:D 22=false:=ht.late (j:=22) (f:=60) (by decide+kernel)
  have n24:D 24=false:=ht.late (j:=24) (f:=60) (by decide+kernel)
  (simp only [gat,put,upd,Nat.reduceEqDiff,Nat.reduceAdd,reduceIte,n2,n5,n8,n11,n14,n16,n18,n20,n22,n24,cond_true,cond_false,HZ,HW,IV,IK,IR,IZ])
  (with_reducible apply av (f:=35));exact rfl;exact rfl;(intro w' hm;exact h1 w' _ hm);rintro _ _ ⟨A',c',rfl,rfl⟩
  refine iZ ⟨rfl,(A',c'),rfl,?_⟩
  (simp only [gat,put,upd,Nat.reduceEqDiff,Nat.reduceAdd,reduceIte,n2,n5,n8,n11,n14,n16,n18,n20,n22,n24,cond_true,cond_false,HZ,HW,IV,IK,IR,IZ])
  exact mS
 repeat' (first|(apply tI (d:=7);(iterate 3 exact rfl);(intro D ht;(have n18:D 18=false:=ht.late (j:=18) (f:=60) (by decide+kernel));(simp only [gat,put,upd,Nat.reduceEqDiff,Nat.reduceAdd,reduceIte,n18,cond_true,cond_false,HZ,HW,IV,IK,IR,IZ]);apply dK;exact rfl;exact pK;exact rfl);exact fun _=>rfl)|refine sT ?_|refine sS ?_|refine sX ?_|refine sM fun _=> ?_|(refine sC ?_ ?_<;>intro hb<;>try omega)|(refine sCX ?_ ?_<;>intro hb<;>try omega)|fail)
 refine nW rfl rfl rfl (fun D ht=> ?_) ?_
 ·
  have n5:D 5=false:=ht.not
  have n2:D 2=true:=ht.early (i:=2) (f:=60) (by decide+kernel)
  have n8:D 8=false:=ht.late (j:=8) (f:=60) (by decide+kernel)
  have n11:D 11=false:=ht.late (j:=11) (f:=60) (by decide+kernel)
  have n14:D 14=false:=ht.late (j:=14) (f:=60) (by decide+kernel)
  have n16:D 16=false:=ht.late (j:=16) (f:=60) (by decide+kernel)
  have n18:D 18=false:=ht.late (j:=18) (f:=60) (by decide+kernel)
  have n20:D 20=false:=ht.late (j:=20) (f:=60) (by decide+kernel)
  have n22:D 22=false:=ht.late (j:=22) (f:=60) (by decide+kernel)
  have n24:D 24=false:=ht.late (j:=24) (f:=60) (by decide+kernel)
  (simp only [gat,put,upd,Nat.reduceEqDiff,Nat.reduceAdd,reduceIte,n2,n5,n8,n11,n14,n16,n18,n20,n22,n24,cond_true,cond_false,HZ,HW,IV,IK,IR,IZ])
  (with_reducible apply av (f:=36));exact rfl;exact rfl;(intro w' hm;exact h2 w' _ hm);rintro _ _ ⟨A',c',rfl,rfl⟩
  refine iZ ⟨rfl,(A',c'),rfl,?_⟩
  (simp only [gat,put,upd,Nat.reduceEqDiff,Nat.reduceAdd,reduceIte,n2,n5,n8,n11,n14,n16,n18,n20,n22,n24,cond_true,cond_false,HZ,HW,IV,IK,IR,IZ])
  exact mS
 repeat' (first|(apply tI (d:=10);(iterate 3 exact rfl);(intro D ht;(have n20:D 20=false:=ht.late (j:=20) (f:=60) (by decide+kernel));(simp only [gat,put,upd,Nat.reduceEqDiff,Nat.reduceAdd,reduceIte,n20,cond_true,cond_false,HZ,HW,IV,IK,IR,IZ]);apply dK;exact rfl;exact pK;exact rfl);exact fun _=>rfl)|refine sT ?_|refine sS ?_|refine sX ?_|refine sM fun _=> ?_|(refine sC ?_ ?_<;>intro hb<;>try omega)|(refine sCX ?_ ?_<;>intro hb<;>try omega)|fail)
 refine nW rfl rfl rfl (fun D ht=> ?_) ?_
 ·
  have n8:D 8=false:=ht.not
  have n2:D 2=true:=ht.early (i:=2) (f:=60) (by decide+kernel)
  have n5:D 5=true:=ht.early (i:=5) (f:=60) (by decide+kernel)
  have n11:D 11=false:=ht.late (j:=11) (f:=60) (by decide+kernel)
  have n14:D 14=false:=ht.late (j:=14) (f:=60) (by decide+kernel)
  have n16:D 16=false:=ht.late (j:=16) (f:=60) (by decide+kernel)
  have n18:D 18=false:=ht.late (j:=18) (f:=60) (by decide+kernel)
  have n20:D 20=false:=ht.late (j:=20) (f:=60) (by decide+kernel)
  have n22:D 22=false:=ht.late (j:=22) (f:=60) (by decide+kernel)
  have n24:D 24=false:=ht.late (j:=24) (f:=60) (by decide+kernel)
  (simp only [gat,put,upd,Nat.reduceEqDiff,Nat.reduceAdd,reduceIte,n2,n5,n8,n11,n14,n16,n18,n20,n22,n24,cond_true,cond_false,HZ,HW,IV,IK,IR,IZ])
  (with_reducible apply av (f:=37));exact rfl;exact rfl;(intro w' hm;exact h3 w' _ hm);rintro _ _ ⟨A',c',rfl,rfl⟩
  refine iZ ⟨rfl,(A',c'),rfl,?_⟩
  (simp only [gat,put,upd,Nat.reduceEqDiff,Nat.reduceAdd,reduceIte,n2,n5,n8,n11,n14,n16,n18,n20,n22,n24,cond_true,cond_false,HZ,HW,IV,IK,IR,IZ])
  exact mS
 repeat' (first|(apply tI (d:=13);(iterate 3 exact rfl);(intro D ht;(have n22:D 22=false:=ht.late (j:=22) (f:=60) (by decide+kernel));(simp only [gat,put,upd,Nat.reduceEqDiff,Nat.reduceAdd,reduceIte,n22,cond_true,cond_false,HZ,HW,IV,IK,IR,IZ]);apply dK;exact rfl;exact pK;exact rfl);exact fun _=>rfl)|refine sT ?_|refine sS ?_|refine sX ?_|refine sM fun _=> ?_|(refine sC ?_ ?_<;>intro hb<;>try omega)|(refine sCX ?_ ?_<;>intro hb<;>try omega)|fail)
 refine nW rfl rfl rfl (fun D ht=> ?_) ?_
 ·
  have n11:D 11=false:=ht.not
  have n2:D 2=true:=ht.early (i:=2) (f:=60) (by decide+kernel)
  have n5:D 5=true:=ht.early (i:=5) (f:=60) (by decide+kernel)
  have n8:D 8=true:=ht.early (i:=8) (f:=60) (by decide+kernel)
  have n14:D 14=false:=ht.late (j:=14) (f:=60) (by decide+kernel)
  have n16:D 16=false:=ht.late (j:=16) (f:=60) (by decide+kernel)
  have n18:D 18=false:=ht.late (j:=18) (f:=60) (by decide+kernel)
  have n20:D 20=false:=ht.late (j:=20) (f:=60) (by decide+kernel)
  have n22:D 22=false:=ht.late (j:=22) (f:=60) (by decide+kernel)
  have n24:D 24=false:=ht.late (j:=24) (f:=60) (by decide+kernel)
  (simp only [gat,put,upd,Nat.reduceEqDiff,Nat.reduceAdd,reduceIte,n2,n5,n8,n11,n14,n16,n18,n20,n22,n24,cond_true,cond_false,HZ,HW,IV,IK,IR,IZ])
  (with_reducible apply av (f:=38));exact rfl;exact rfl;(intro w' hm;exact h4 w' _ hm);rintro _ _ ⟨A',c',rfl,rfl⟩
  refine iZ ⟨rfl,(A',c'),rfl,?_⟩
  (simp only [gat,put,upd,Nat.reduceEqDiff,Nat.reduceAdd,reduceIte,n2,n5,n8,n11,n14,n16,n18,n20,n22,n24,cond_true,cond_false,HZ,HW,IV,IK,IR,IZ])
  exact mS
 repeat' (first|(apply tI (d:=16);(iterate 3 exact rfl);(intro D ht;(have n24:D 24=false:=ht.late (j:=24) (f:=60) (by decide+kernel));(simp only [gat,put,upd,Nat.reduceEqDiff,Nat.reduceAdd,reduceIte,n24,cond_true,cond_false,HZ,HW,IV,IK,IR,IZ]);apply dK;exact rfl;exact pK;exact rfl);exact fun _=>rfl)|refine sT ?_|refine sS ?_|refine sX ?_|refine sM fun _=> ?_|(refine sC ?_ ?_<;>intro hb<;>try omega)|(refine sCX ?_ ?_<;>intro hb<;>try omega)|fail)
 refine nW rfl rfl rfl (fun D ht=> ?_) ?_
 ·
  have n14:D 14=false:=ht.not
  have n2:D 2=true:=ht.early (i:=2) (f:=60) (by decide+kernel)
  have n5:D 5=true:=ht.early (i:=5) (f:=60) (by decide+kernel)
  have n8:D 8=true:=ht.early (i:=8) (f:=60) (by decide+kernel)
  have n11:D 11=true:=ht.early (i:=11) (f:=60) (by decide+kernel)
  have n16:D 16=false:=ht.late (j:=16) (f:=60) (by decide+kernel)
  have n18:D 18=false:=ht.late (j:=18) (f:=60) (by decide+kernel)
  have n20:D 20=false:=ht.late (j:=20) (f:=60) (by decide+kernel)
  have n22:D 22=false:=ht.late (j:=22) (f:=60) (by decide+kernel)
  have n24:D 24=false:=ht.late (j:=24) (f:=60) (by decide+kernel)
  (simp only [gat,put,upd,Nat.reduceEqDiff,Nat.reduceAdd,reduceIte,n2,n5,n8,n11,n14,n16,n18,n20,n22,n24,cond_true,cond_false,HZ,HW,IV,IK,IR,IZ])
  (with_reducible apply av (f:=39));exact rfl;exact rfl;(intro w' hm;exact h5 w' _ hm);rintro _ _ ⟨A',c',rfl,rfl⟩
  refine iZ ⟨rfl,(A',c'),rfl,?_⟩
  (simp only [gat,put,upd,Nat.reduceEqDiff,Nat.reduceAdd,reduceIte,n2,n5,n8,n11,n14,n16,n18,n20,n22,n24,cond_true,cond_false,HZ,HW,IV,IK,IR,IZ])
  exact mS
 repeat' (first|refine sT ?_|refine sS ?_|refine sX ?_|refine sM fun _=> ?_|(refine sC ?_ ?_<;>intro hb<;>try omega)|(refine sCX ?_ ?_<;>intro hb<;>try omega)|fail)
 refine nV (T:=28) (vs:= [sl (γ 2).1 b.ents.length (γ 2).2]) rfl rfl rfl rfl rfl rfl rfl (fun D ht=> ?_) ?_
 ·
  have n16:D 16=false:=ht.not
  have n2:D 2=true:=ht.early (i:=2) (f:=60) (by decide+kernel)
  have n5:D 5=true:=ht.early (i:=5) (f:=60) (by decide+kernel)
  have n8:D 8=true:=ht.early (i:=8) (f:=60) (by decide+kernel)
  have n11:D 11=true:=ht.early (i:=11) (f:=60) (by decide+kernel)
  have n14:D 14=true:=ht.early (i:=14) (f:=60) (by decide+kernel)
  (simp only [gat,put,upd,Nat.reduceEqDiff,Nat.reduceAdd,reduceIte,n2,n5,n8,n11,n14,n16,cond_true,cond_false,HZ,HW,IV,IK,IR,IZ])
  refine ⟨_,_,.hd,?_,?_⟩
  ·
   exact Ji rfl
  ·
   exact mS
 repeat' (first|refine sT ?_|refine sS ?_|refine sX ?_|refine sM fun _=> ?_|(refine sC ?_ ?_<;>intro hb<;>try omega)|(refine sCX ?_ ?_<;>intro hb<;>try omega)|fail)
 refine nV (T:=28) (vs:= [sl (γ 5).1 b.rules.length (γ 5).2]) rfl rfl rfl rfl rfl rfl rfl (fun D ht=> ?_) ?_
 ·
  have n18:D 18=false:=ht.not
  have n2:D 2=true:=ht.early (i:=2) (f:=60) (by decide+kernel)
  have n5:D 5=true:=ht.early (i:=5) (f:=60) (by decide+kernel)
  have n8:D 8=true:=ht.early (i:=8) (f:=60) (by decide+kernel)
  have n11:D 11=true:=ht.early (i:=11) (f:=60) (by decide+kernel)
  have n14:D 14=true:=ht.early (i:=14) (f:=60) (by decide+kernel)
  (simp only [gat,put,upd,Nat.reduceEqDiff,Nat.reduceAdd,reduceIte,n2,n5,n8,n11,n14,n18,cond_true,cond_false,HZ,HW,IV,IK,IR,IZ])
  refine ⟨_,_,.hd,?_,?_⟩
  ·
   exact Ji rfl
  ·
   exact mS
 repeat' (first|refine sT ?_|refine sS ?_|refine sX ?_|refine sM fun _=> ?_|(refine sC ?_ ?_<;>intro hb<;>try omega)|(refine sCX ?_ ?_<;>intro hb<;>try omega)|fail)
 refine nV (T:=28) (vs:= [sl (γ 8).1 b.grants.length (γ 8).2]) rfl rfl rfl rfl rfl rfl rfl (fun D ht=> ?_) ?_
 ·
  have n20:D 20=false:=ht.not
  have n2:D 2=true:=ht.early (i:=2) (f:=60) (by decide+kernel)
  have n5:D 5=true:=ht.early (i:=5) (f:=60) (by decide+kernel)
  have n8:D 8=true:=ht.early (i:=8) (f:=60) (by decide+kernel)
  have n11:D 11=true:=ht.early (i:=11) (f:=60) (by decide+kernel)
  have n14:D 14=true:=ht.early (i:=14) (f:=60) (by decide+kernel)
  (simp only [gat,put,upd,Nat.reduceEqDiff,Nat.reduceAdd,reduceIte,n2,n5,n8,n11,n14,n20,cond_true,cond_false,HZ,HW,IV,IK,IR,IZ])
  refine ⟨_,_,.hd,?_,?_⟩
  ·
   exact Ji rfl
  ·
   exact mS
 repeat' (first|refine sT ?_|refine sS ?_|refine sX ?_|refine sM fun _=> ?_|(refine sC ?_ ?_<;>intro hb<;>try omega)|(refine sCX ?_ ?_<;>intro hb<;>try omega)|fail)
 refine nV (T:=28) (vs:= [sl (γ 11).1 b.log.length (γ 11).2]) rfl rfl rfl rfl rfl rfl rfl (fun D ht=> ?_) ?_
 ·
  have n22:D 22=false:=ht.not
  have n2:D 2=true:=ht.early (i:=2) (f:=60) (by decide+kernel)
  have n5:D 5=true:=ht.early (i:=5) (f:=60) (by decide+kernel)
  have n8:D 8=true:=ht.early (i:=8) (f:=60) (by decide+kernel)
  have n11:D 11=true:=ht.early (i:=11) (f:=60) (by decide+kernel)
  have n14:D 14=true:=ht.early (i:=14) (f:=60) (by decide+kernel)
  (simp only [gat,put,upd,Nat.reduceEqDiff,Nat.reduceAdd,reduceIte,n2,n5,n8,n11,n14,n22,cond_true,cond_false,HZ,HW,IV,IK,IR,IZ])
  refine ⟨_,_,.hd,?_,?_⟩
  ·
   exact Ji rfl
  ·
   exact mS
 repeat' (first|refine sT ?_|refine sS ?_|refine sX ?_|refine sM fun _=> ?_|(refine sC ?_ ?_<;>intro hb<;>try omega)|(refine sCX ?_ ?_<;>intro hb<;>try omega)|fail)
 refine nV (T:=28) (vs:= [sl (γ 14).1 b.rels.length (γ 14).2]) rfl rfl rfl rfl rfl rfl rfl (fun D ht=> ?_) ?_
 ·
  have n24:D 24=false:=ht.not
  have n2:D 2=true:=ht.early (i:=2) (f:=60) (by decide+kernel)
  have n5:D 5=true:=ht.early (i:=5) (f:=60) (by decide+kernel)
  have n8:D 8=true:=ht.early (i:=8) (f:=60) (by decide+kernel)
  have n11:D 11=true:=ht.early (i:=11) (f:=60) (by decide+kernel)
  have n14:D 14=true:=ht.early (i:=14) (f:=60) (by decide+kernel)
  (simp only [gat,put,upd,Nat.reduceEqDiff,Nat.reduceAdd,reduceIte,n2,n5,n8,n11,n14,n24,cond_true,cond_false,HZ,HW,IV,IK,IR,IZ])
  refine ⟨_,_,.hd,?_,?_⟩
  ·
   exact Ji rfl
  ·
   exact mS
 repeat' (first|refine sT ?_|refine sS ?_|refine sX ?_|refine sM fun _=> ?_|(refine sC ?_ ?_<;>intro hb<;>try omega)|(refine sCX ?_ ?_<;>intro hb<;>try omega)|fail)
 intro D hD
 have n2:=hD 2 (by decide)
 have n5:=hD 5 (by decide)
 have n8:=hD 8 (by decide)
 have n11:=hD 11 (by decide)
 have n14:=hD 14 (by decide)
 have n16:=hD 16 (by decide)
 have n18:=hD 18 (by decide)
 have n20:=hD 20 (by decide)
 have n22:=hD 22 (by decide)
 have n24:=hD 24 (by decide)
 (simp only [gat,put,upd,Nat.reduceEqDiff,Nat.reduceAdd,reduceIte,n2,n5,n8,n11,n14,n16,n18,n20,n22,n24,cond_true,cond_false,HZ,HW,IV,IK,IR,IZ])
 repeat' (first|refine sT ?_|refine sS ?_|refine sM fun _=> ?_|(refine sC ?_ ?_<;>intro hb<;>try omega)|fail)
 exact sq (.inl rfl) rfl rfl pK rfl (H' :=aG b ⟨(γ 2).1,(γ 5).1,(γ 8).1,(γ 11).1,(γ 14).1,(γ 2).2,(γ 5).2,(γ 8).2,(γ 11).2,(γ 14).2⟩) (by unfold aG;exact mS) ⟨⟨(γ 2).1,(γ 5).1,(γ 8).1,(γ 11).1,(γ 14).1,(γ 2).2,(γ 5).2,(γ 8).2,(γ 11).2,(γ 14).2⟩,rfl,rfl⟩
def lvE (b:Bk):List Rv × Int:=if bkE b≠0 then ([],bkE b) else (cF b,0)
def frE (b c:Bk):List Rv × Int:=if bkE b≠0 then ([],bkE b) else if bkE c≠0 then ([],bkE c) else (dO (cF c) (cF b),0)
def cvE (b:Bk):Bool × Int:=if bkE b≠0 then (false,bkE b) else (decide (dO (cF b) b.rels= []),0)
def onE (b:Bk):Bk × Int:=if bkE b≠0 then (iY,bkE b) else (BR b,0)
theorem jT {b:Bk} (h: ¬ bkE b≠0):BkOk b:=xw.1 (Decidable.not_not.1 h)
theorem DX {L:List Rv}:decide ((L.length:Int)=0)=decide (L= []):=by
 cases L with
 |nil=>rfl
 |cons a l=>
  rw [decide_eq_false (by rw [IA];omega),decide_eq_false (by simp)]
section
variable {P:Program} {w0:World} {s:ap} {H:List Blk} {ty:TypeId}
theorem FF {x y:Operand} {a b:Int} {c:Bool} {t t' :TypeId} (hx:ev s x=some (.int .i64 a)) (hy:ev s y=some (.int .i64 b)) (h:decide (a=b)=c):VOp P w0 s H (.binOp .eql t x y t') ty (.bool c):=h ▸ EZ hx hy
end
theorem yq {b:Bk} (hlen:b.ents.length≤900):(lvE b).1.length≤57600000:=by
 unfold lvE
 split
 ·
  exact H5 _
 ·
  rename_i h;exact o6 (jT h) hlen
set_option maxHeartbeats 8000000 in
theorem eR (b:Bk) (x:Bv) (w:World) (h:BRd w b x) (hW:Words w) (hlen:b.ents.length≤900):aF Tryz.prog 21 [.agg (bn b x).toArray] w fun v H=> ∃ A cap,v= .tuple #[sl A (lvE b).1.length cap,.int .i64 (lvE b).2]∧H= [.own A 62 11 (lvE b).1.length cap ((lvE b).1.flatMap aH)]:=by
 refine aq Tryz.func21 rfl Tryz.ntmps21 rfl ?_
 have hC:=fun (w' :World) (H:List Blk) (hm:Mem w w' H)=>kQ b x w' (h.of_w0 hm) (hW.next hm) (by omega)
 unfold lvE
 by_cases hbe:bkE b≠0
 ·
  rw [if_pos hbe]
  refine aw 62 11 ?_
  repeat' (first|(apply ah (f:=15);exact rfl;exact rfl;(intro w' hm;exact hC w' _ hm))|refine sT ?_|refine sS ?_|refine sM fun _=> ?_|(refine sC ?_ ?_<;>intro hb<;>try omega)|fail)
  all_goals first
   |(exfalso;omega)
   |(exact gU eIO rfl rfl rfl (H' := [.own none 62 11 0 0 []]) mS ⟨none,0,rfl,rfl⟩)
 rw [if_neg hbe]
 have hV:=fun (w' :World) (H:List Blk) (hm:Mem w w' H)=>oP b x w' (h.of_w0 hm) (jT hbe) (hW.next hm) hlen
 rw [show bkE b=0 by omega] at hC
 generalize cF b=V at hV ⊢
 repeat' (first|(apply ah (f:=15);exact rfl;exact rfl;(intro w' hm;exact hC w' _ hm))|(apply av (f:=79);exact rfl;exact rfl;(intro w' hm;exact hV w' _ hm);rintro _ _ ⟨A,c,rfl,rfl⟩)|refine sT ?_|refine sS ?_|refine sM fun _=> ?_|(refine sC ?_ ?_<;>intro hb<;>try omega)|fail)
 all_goals first
  |(exfalso;omega)
  |(exact gU eIO rfl rfl rfl (H' := [.own A 62 11 V.length c (V.flatMap aH)]) mS ⟨A,c,rfl,rfl⟩)
theorem Cd {b:Bk} (h: ¬ bkE b≠0):lvE b=(cF b,0):=by unfold lvE;rw [if_neg h]
theorem Ce {b:Bk} (h:bkE b≠0):lvE b=([],bkE b):=by unfold lvE;rw [if_pos h]
set_option maxHeartbeats 8000000 in
theorem mK (b c:Bk) (x y:Bv) (w:World) (h:BRd w b x) (k:BRd w c y) (hW:Words w) (hlen:b.ents.length≤900) (hlen2:c.ents.length≤900):aF Tryz.prog 24 [.agg (bn b x).toArray,.agg (bn c y).toArray] w fun v H=> ∃ A cap,v= .tuple #[sl A (frE b c).1.length cap,.int .i64 (frE b c).2]∧H= [.own A 62 11 (frE b c).1.length cap ((frE b c).1.flatMap aH)]:=by
 refine aq Tryz.func24 rfl Tryz.ntmps24 rfl ?_
 have h1:=fun (w' :World) (H:List Blk) (hm:Mem w w' H)=>eR b x w' (h.of_w0 hm) (hW.next hm) hlen
 have h2:=fun (w' :World) (H:List Blk) (hm:Mem w w' H)=>eR c y w' (k.of_w0 hm) (hW.next hm) hlen2
 have hl1:=yq hlen
 have hl2:=yq hlen2
 unfold frE
 by_cases hbe:bkE b≠0
 ·
  rw [if_pos hbe]
  rw [Ce hbe] at h1
  generalize bkE b=e at h1 hbe ⊢
  refine aw 62 11 ?_
  repeat' (first|(apply av (d:=11);exact rfl;exact rfl;(intro w' hm;exact h1 w' _ hm);rintro _ _ ⟨A,c1,rfl,rfl⟩)|refine sT ?_|refine sS ?_|refine sM fun _=> ?_|(refine sC ?_ ?_<;>intro hb<;>try omega)|fail)
  all_goals first
   |(exfalso;omega)
   |(exact gU eIO rfl rfl rfl (H' := [.own none 62 11 0 0 []]) mS ⟨none,0,rfl,rfl⟩)
 rw [if_neg hbe]
 rw [Cd hbe] at h1 hl1
 generalize cF b=U at h1 hl1 ⊢
 by_cases hce:bkE c≠0
 ·
  rw [if_pos hce]
  rw [Ce hce] at h2
  generalize bkE c=e at h2 hce ⊢
  refine aw 62 11 ?_
  repeat' (first|(apply av (d:=11);exact rfl;exact rfl;(intro w' hm;exact h1 w' _ hm);rintro _ _ ⟨A,c1,rfl,rfl⟩)|(apply av (d:=19);exact rfl;exact rfl;(intro w' hm;exact h2 w' _ hm);rintro _ _ ⟨A2,c2,rfl,rfl⟩)|refine sT ?_|refine sS ?_|refine sM fun _=> ?_|(refine sC ?_ ?_<;>intro hb<;>try omega)|fail)
  all_goals first
   |(exfalso;omega)
   |(exact gU eIO rfl rfl rfl (H' := [.own none 62 11 0 0 []]) mS ⟨none,0,rfl,rfl⟩)
 rw [if_neg hce]
 rw [Cd hce] at h2 hl2
 generalize cF c=V at h2 hl2 ⊢
 dsimp only at hl1 hl2
 have hM:=fun (lv mv:Value) (w' :World) (hl:Reads w' lv V.length (V.flatMap aH)) (hm:Reads w' mv U.length (U.flatMap aH))=>kr V U lv mv w' hl hm (by omega)
 generalize dO V U=M at hM ⊢
 repeat' (first|(apply av (d:=11);exact rfl;exact rfl;(intro w' hm;exact h1 w' _ hm);rintro _ _ ⟨A,c1,rfl,rfl⟩)|(apply av (d:=19);exact rfl;exact rfl;(intro w' hm;exact h2 w' _ hm);rintro _ _ ⟨A2,c2,rfl,rfl⟩)|(apply av (d:=27);exact rfl;exact rfl;(intro w' hm;exact hM _ _ w' (Reads.of_own hm pK) (Reads.of_own hm pK));rintro _ _ ⟨A3,c3,rfl,rfl⟩)|refine sT ?_|refine sS ?_|refine sM fun _=> ?_|(refine sC ?_ ?_<;>intro hb<;>try omega)|fail)
 all_goals first
  |(exfalso;omega)
  |(exact gU eIO rfl rfl rfl (H' := [.own A3 62 11 M.length c3 (M.flatMap aH)]) mS ⟨A3,c3,rfl,rfl⟩)
set_option maxHeartbeats 8000000 in
theorem nu (b:Bk) (x:Bv) (w:World) (h:BRd w b x) (hW:Words w) (hlen:b.ents.length≤900):ay Tryz.prog 26 [.agg (bn b x).toArray] w (.tuple #[.bool (cvE b).1,.int .i64 (cvE b).2]):=by
 refine aq Tryz.func26 rfl Tryz.ntmps26 rfl ?_
 have hC:=fun (w' :World) (H:List Blk) (hm:Mem w w' H)=>kQ b x w' (h.of_w0 hm) (hW.next hm) (by omega)
 have hs:=h.s
 unfold cvE
 by_cases hbe:bkE b≠0
 ·
  rw [if_pos hbe]
  repeat' (first|(apply ah (f:=15);exact rfl;exact rfl;(intro w' hm;exact hC w' _ hm))|refine sT ?_|refine sS ?_|refine sM fun _=> ?_|(refine sC ?_ ?_<;>intro hb<;>try omega)|fail)
  all_goals first|(exfalso;omega)|((refine rT2 ?_);rfl)
 rw [if_neg hbe]
 have hV:=fun (w' :World) (H:List Blk) (hm:Mem w w' H)=>oP b x w' (h.of_w0 hm) (jT hbe) (hW.next hm) hlen
 have hvl:=o6 (jT hbe) hlen
 rw [show bkE b=0 by omega] at hC
 generalize cF b=V at hV hvl ⊢
 have hM:=fun (lv mv:Value) (w' :World) (hl:Reads w' lv V.length (V.flatMap aH)) (hm:Reads w' mv b.rels.length (b.rels.flatMap aH))=>kr V b.rels lv mv w' hl hm (by omega)
 rw [← DX]
 generalize dO V b.rels=M at hM ⊢
 obtain ⟨cc,hcc⟩: ∃ cc,decide ((M.length:Int)=0)=cc:=⟨_,rfl⟩
 rw [hcc]
 repeat' (first|(apply ah (f:=15);exact rfl;exact rfl;(intro w' hm;exact hC w' _ hm))|((refine jE (id:=4) [1,4] [] [.box _ 28 (bn b x)] (by kernel_rfl) (by kernel_rfl) (by kernel_rfl) mS ?_))|(apply av (f:=79);exact rfl;exact rfl;(intro w' hm;exact hV w' _ hm);rintro _ _ ⟨A,c,rfl,rfl⟩)|(apply av (f:=81);exact rfl;exact rfl;(intro w' hm;exact hM _ _ w' (Reads.of_own (A:=A) hm pK) (hs.of_w0 hm));rintro _ _ ⟨A3,c3,rfl,rfl⟩)|(apply gG (d:=16);(iterate 3 exact rfl);apply FF;exact rfl;exact rfl;exact hcc)|refine sT ?_|refine sS ?_|refine sW ?_|refine sM fun _=> ?_|(refine sC ?_ ?_<;>intro hb<;>try omega)|(refine sCW ?_ ?_<;>intro hb<;>try omega)|fail)
 all_goals first|(exfalso;omega)|((refine rT2 ?_);rfl)
set_option maxHeartbeats 16000000 in
theorem CX (b:Bk) (x:Bv) (w:World) (h:BRd w b x) (hW:Words w) (hlen:b.ents.length≤900) (hsm:Small b):aF Tryz.prog 28 [.agg (bn b x).toArray] w fun v H=> ∃ a:Bo,v= .tuple #[.agg (bn (onE b).1 a.v).toArray,.int .i64 (onE b).2]∧H=aG (onE b).1 a:=by
 refine aq Tryz.func28 rfl Tryz.ntmps28 rfl ?_
 have hC:=fun (w' :World) (H:List Blk) (hm:Mem w w' H)=>kQ b x w' (h.of_w0 hm) (hW.next hm) (by omega)
 have hY:=fun (w' :World) (H:List Blk) (hm:Mem w w' H)=>zY b x w' (h.of_w0 hm) hsm
 have hs:=h.s
 have hsl:=hsm.s
 unfold onE
 by_cases hbe:bkE b≠0
 ·
  rw [if_pos hbe]
  clear hY
  refine aw 52 3 ?_
  refine aw 54 7 ?_
  refine aw 56 8 ?_
  refine aw 58 9 ?_
  refine aw 62 11 ?_
  generalize bkE b=e at hC hbe ⊢
  simp only [bn] at hC ⊢
  repeat' (first|(apply ah (f:=15);exact rfl;exact rfl;(intro w' hm;exact hC w' _ hm))|refine sT ?_|refine sS ?_|refine sM fun _=> ?_|(refine sC ?_ ?_<;>intro hb<;>try omega)|fail)
  all_goals first
   |(exfalso;omega)
   |(refine qR eIO rfl rfl pK rfl rfl (H' :=aG iY rF) (by unfold aG;exact mS) ⟨rF,rfl,rfl⟩;done)
 rw [if_neg hbe]
 have hV:=fun (w' :World) (H:List Blk) (hm:Mem w w' H)=>oP b x w' (h.of_w0 hm) (jT hbe) (hW.next hm) hlen
 have hvl:=o6 (jT hbe) hlen
 rw [show bkE b=0 by omega] at hC
 unfold BR AU
 have hml:=qZ (cF b) b.rels
 have hM:=fun (lv mv:Value) (w' :World) (hl:Reads w' lv (cF b).length ((cF b).flatMap aH)) (hm:Reads w' mv b.rels.length (b.rels.flatMap aH))=>kr (cF b) b.rels lv mv w' hl hm (by omega)
 generalize dO (cF b) b.rels=M at hM hml ⊢
 generalize cF b=V at hV hM hvl hml
 have el1:(b.rels++M).length=b.rels.length+M.length:=HV
 have el2:(b.rels++M).flatMap aH=b.rels.flatMap aH++M.flatMap aH:=I2
 simp only [bn,aG,el1,el2] at hC hY hV ⊢
 repeat' (first|(apply ah (f:=15);exact rfl;exact rfl;(intro w' hm;exact hC w' _ hm))|(apply av (f:=20);exact rfl;exact rfl;(intro w' hm;exact hY w' _ hm);rintro _ _ ⟨a,rfl,rfl⟩)|refine sT ?_|refine sS ?_|refine sM fun _=> ?_|(refine sC ?_ ?_<;>intro hb<;>try omega)|fail)
 all_goals try (exfalso;omega)
 refine nM (id:=5) [1,3,6,7,9] [.box _ 28 (bn b x)] 10 rfl rfl (by simp only [bn];exact mS) ?_
 simp only [bn]
 repeat' (first|(apply dI (i:=0);(iterate 4 exact rfl);decide+kernel;decide+kernel;decide+kernel;(exact vC))|(apply dI (i:=2);(iterate 4 exact rfl);decide+kernel;decide+kernel;decide+kernel;(exact vC))|(apply dI (i:=4);(iterate 4 exact rfl);decide+kernel;decide+kernel;decide+kernel;(exact vC))|(apply dI (i:=5);(iterate 4 exact rfl);decide+kernel;decide+kernel;decide+kernel;(exact vC))|(apply dI (i:=8);(iterate 4 exact rfl);decide+kernel;decide+kernel;decide+kernel;(exact vC))|(apply dR (i:=1) (j:=3);(iterate 6 exact rfl);decide+kernel)|(apply dR (i:=1) (j:=6);(iterate 6 exact rfl);decide+kernel)|(apply bM (i:=1);(iterate 3 exact rfl);decide+kernel)|(apply bM (i:=3);(iterate 3 exact rfl);decide+kernel)|(apply bM (i:=6);(iterate 3 exact rfl);decide+kernel)|(apply bM (i:=7);(iterate 3 exact rfl);decide+kernel)|(apply bM (i:=9);(iterate 3 exact rfl);decide+kernel)|(apply nK;decide+kernel)|(apply CR;(focus (exact mS;done)))|(apply av (f:=79);exact rfl;exact rfl;(intro w' hm;exact hV w' _ hm);rintro _ _ ⟨A,c,rfl,rfl⟩)|(apply av (f:=81);exact rfl;exact rfl;(intro w' hm;exact hM _ _ w' (Reads.of_own (A:=A) hm pK) (hs.of_w0 hm));rintro _ _ ⟨A3,c3,rfl,rfl⟩)|(apply bp (d:=21) (A:=a.s) (n' :=b.rels.length) (m:=M.length);(iterate 3 exact rfl);exact pK;(intro w hm;exact Reads.of_own (A:=A3) hm pK);exact aC cf M;exact kP M;omega;(simp only [maxLen];omega);intro A17 c17 h17)|refine sT ?_|refine sS ?_|refine sM fun _=> ?_|(refine sC ?_ ?_<;>intro hb<;>try omega)|fail)
 all_goals first
  |(exfalso;omega)
  |(refine qR eIO rfl rfl pK rfl rfl (H' := [.own a.e 52 3 b.ents.length a.ce (b.ents.flatMap cW),.own a.r 54 7 b.rules.length a.cr (b.rules.flatMap bH),.own a.g 56 8 b.grants.length a.cg (b.grants.flatMap bB),.own a.l 58 9 b.log.length a.cl (b.log.flatMap ed),.own A17 62 11 (b.rels.length+M.length) c17 (b.rels.flatMap aH++M.flatMap aH)]) mS ⟨⟨a.e,a.r,a.g,a.l,A17,a.ce,a.cr,a.cg,a.cl,c17⟩,rfl,rfl⟩;done)
end Go.SL
namespace Go.SL
open Go
def lvB (b:Bk):List Rv:=lvC b ((nD b.ents).1.getD [])
theorem o3 (b:Bk):cF b=lvB b:=Cf b _
theorem sH {b:Bk} {l:List Rv} (h:bkE b=0) (h2:lvB b=l):lvE b=(l,0):=by
 unfold lvE
 rw [if_neg (by rw [h];decide),o3,h2]
theorem Cz {b c:Bk} {l m:List Rv} (h:bkE b=0) (k:bkE c=0) (h2:lvB b=l) (k2:lvB c=m):frE b c=(dO m l,0):=by
 unfold frE
 rw [if_neg (by rw [h];decide),if_neg (by rw [k];decide),o3,o3,h2,k2]
def vK:Bk:=⟨3,j6,bkR,[],[],[],1⟩
def uu:Bk:=⟨3,j6,bkR,[⟨⟨2,1,2,3⟩,1,2#64,0,true⟩],[],[],1⟩
def Fa:ByteArray:=⟨#[61,68,83,85,77,40,66,49,58,66,50,41]⟩
def HJ:List Et:= [⟨⟨1,1⟩,⟨#[53]⟩⟩,⟨⟨2,1⟩,⟨#[49,48]⟩⟩,⟨⟨1,2⟩,inB⟩,⟨⟨2,2⟩,⟨#[50,48]⟩⟩,⟨⟨1,3⟩,Fa⟩,⟨⟨1,4⟩,inD⟩]
def uM:Bk:=⟨3,HJ,bkR,[Cx],[],[],1⟩
def uR:Bk:=⟨3,j6,bkR,[⟨⟨2,1,2,3⟩,1,0#64,0,false⟩],[],[],1⟩
def wX:Bk:=⟨3,j6,bkR,[Cx],[],[eV],1⟩
def E9:ByteArray:=⟨#[61,68,83,85,77,40,66,49,58,66,51,41,43,68,83,85,77,40,66,49,58,66,51,41,42,68,67,79,85,78,84,40,66,49,58,66,51,41]⟩
def HO:List Et:= [⟨⟨1,1⟩,⟨#[53]⟩⟩,⟨⟨2,1⟩,⟨#[49,48]⟩⟩,⟨⟨1,2⟩,inB⟩,⟨⟨2,2⟩,⟨#[50,48]⟩⟩,⟨⟨1,3⟩,inC⟩,⟨⟨1,4⟩,E9⟩]
def F9:Gn:=⟨⟨2,1,2,3⟩,3,4#64,0,false⟩
def kR:Bk:=⟨3,HO,bkR,[Cx,F9],[],[],1⟩
def zx:List Nat:= [1,1,1,1,3,3,5]
def zH:List Nat:= [0,1,0,1,0,1,1]
set_option maxRecDepth 100000 in
theorem pM:lvB aM= [eV]:=by rw [← o3];exact jQ
set_option maxRecDepth 100000 in
theorem yE:bkE vK=0∧lvB vK= []:=⟨by decide+kernel,by decide+kernel⟩
set_option maxRecDepth 100000 in
theorem BB:bkE uu=0∧lvB uu= []:=⟨by decide+kernel,by decide+kernel⟩
set_option maxRecDepth 100000 in
theorem BP:bkE uM=0∧lvB uM= []:=⟨by decide+kernel,by decide+kernel⟩
set_option maxRecDepth 100000 in
theorem BT:bkE uR=0∧lvB uR= []:=⟨by decide+kernel,by decide+kernel⟩
set_option maxRecDepth 100000 in
theorem BS:bkE wX=0∧lvB wX= [eV]:=⟨by decide+kernel,by decide+kernel⟩
set_option maxRecDepth 100000 in
theorem CT:bkE kR=0:=by decide+kernel
set_option maxRecDepth 100000 in
theorem Gd:(lvB kR).length=7∧ ∀ i:Fin 7,((lvB kR)[i.val]?.map fun r=>(r.call.at_.col,r.call.at_.row,r.call.node,r.grant))=some (1,(if 1<i.val then 4 else 3),((zx[i.val]?.getD 0:Nat):Int),((zH[i.val]?.getD 0:Nat):Int)):=⟨by decide+kernel,by decide+kernel⟩
theorem Hs:frE vK aM=([eV],0):=by
 rw [Cz yE.1 ij yE.2 pM]
 decide+kernel
theorem Hr:frE aM aM=([],0):=by
 rw [Cz ij ij pM pM]
 decide+kernel
theorem Hw:cvE aM=(false,0):=by
 unfold cvE
 rw [if_neg (by rw [ij];decide),jQ]
 decide+kernel
theorem Hq:onE aM=(wX,0):=by
 unfold onE BR AU
 rw [if_neg (by rw [ij];decide),jQ]
 have h:dO [eV] aM.rels= [eV]:=by decide+kernel
 rw [h]
 rfl
theorem Ht:cvE wX=(true,0):=by
 unfold cvE
 rw [if_neg (by rw [BS.1];decide),o3,BS.2]
 decide+kernel
theorem Hp:lvE iY=([],2):=by
 unfold lvE
 rw [if_pos (by decide)]
 exact congrArg (fun e=>([],e)) (by decide:bkE iY=2)
theorem G9:frE kR iY=([],2):=by
 unfold frE
 rw [if_neg (by rw [CT];decide),if_pos (by decide)]
 exact congrArg (fun e=>([],e)) (by decide:bkE iY=2)
end Go.SL
namespace Go.SL
open Go Go.Proofs
attribute [local irreducible] W WL WQ WG WA WX WLI WR WT WC WE VOp RW thn blk bo scp aN bf bi aF FnIn FnP ceP
def xk:Bk:=⟨3,j6,bkR,[Cx],[],[],0⟩
set_option maxHeartbeats 8000000 in
theorem tD (w:World):aF Tryz.prog 83 [] w fun v H=> ∃ a:Bo,v= .agg (bn xk a.v).toArray∧H=aG xk a:=by
 refine aq Tryz.func83 rfl Tryz.ntmps83 rfl ?_
 repeat' (first|(apply av (f:=57);exact rfl;exact rfl;(intro w' hm;exact tF w');rintro _ _ ⟨⟨ae,ar,ag,al,as_,ce,cr,cg,cl,cs⟩,rfl,rfl⟩;unfold aG)|refine sT ?_|refine sS ?_|refine sM fun _=> ?_|(refine sC ?_ ?_<;>intro hb<;>try omega)|fail)
 refine jB (A:=ar) (xs:=Eo.rules.flatMap bH) pK (by decide) fun gr hA=> ?_
 subst hA
 repeat' (first|(apply aj (d:=5);exact rfl;apply ai (j:=1);exact rfl;exact rfl;decide)|(apply aj (d:=7);exact rfl;apply mN;exact rfl;exact pK;exact rfl;exact rfl)|refine sT ?_|refine sS ?_|refine sM fun _=> ?_|(refine sC ?_ ?_<;>intro hb<;>try omega)|fail)
 rename_i gn
 exact sq eIO rfl rfl pK rfl (H' :=aG xk ⟨ae,some gr,some gn,al,as_,ce,cr,1,cl,cs⟩) (by unfold aG;exact mS) ⟨⟨ae,some gr,some gn,al,as_,ce,cr,1,cl,cs⟩,rfl,rfl⟩
set_option maxHeartbeats 8000000 in
theorem lD (w:World):aF Tryz.prog 31 [] w fun v H=> ∃ a:Bo,v= .agg (bn aM a.v).toArray∧H=aG aM a:=by
 refine aq Tryz.func31 rfl Tryz.ntmps31 rfl ?_
 repeat' (first|(apply av (f:=83);exact rfl;exact rfl;(intro w' hm;exact tD w');rintro _ _ ⟨a,rfl,rfl⟩;unfold aG)|refine sT ?_|refine sS ?_|refine sM fun _=> ?_|(refine sC ?_ ?_<;>intro hb<;>try omega)|fail)
 exact sq eIO rfl rfl pK rfl (H' :=aG aM a) (by unfold aG;exact mS) ⟨a,rfl,rfl⟩
theorem pP (w:World):ay Tryz.prog 32 [] w (.agg (aH eV).toArray):=by
 refine aq Tryz.func32 rfl Tryz.ntmps32 rfl ?_
 repeat' (first|refine sT ?_|refine sM fun _=> ?_|(refine sC ?_ ?_<;>intro hb<;>try omega)|fail)
 (refine eRC ?_)
 rfl
theorem Ep:lvE aM=([eV],0):=by
 unfold lvE
 rw [if_neg (by rw [ij];decide),jQ]
theorem iR (L:List Rv) {lv mv:Value} {w:World} (hl:Reads w lv L.length (L.flatMap aH)) (hm:Reads w mv L.length (L.flatMap aH)):ay Tryz.prog 23 [lv,mv] w (.bool true):=by
 have:=vW L L lv mv w hl hm
 rwa [decide_eq_true rfl] at this
set_option maxHeartbeats 8000000 in
theorem xy (w:World) (hW:Words w):ay Tryz.prog 30 [] w (.bool true):=by
 refine aq Tryz.func30 rfl Tryz.ntmps30 rfl ?_
 have hL:=fun (a:Bo) (w' :World) (H:List Blk) (hm:Mem w w' H) (hr:BRd w' aM a.v)=>Ep ▸ eR aM a.v w' hr (hW.next hm) (by decide)
 repeat' (first|(apply av (f:=31);exact rfl;exact rfl;(intro w' hm;exact lD w');rintro _ _ ⟨a,rfl,rfl⟩;unfold aG)|(apply av (f:=21);exact rfl;exact rfl;(intro w' hm;exact hL a w' _ hm (BRd.of_rows hm pK pK pK pK pK));rintro _ _ ⟨A,c,rfl,rfl⟩)|(apply ah;exact rfl;exact rfl;(intro w hm;exact pP w))|(apply ah (f:=23);exact rfl;exact rfl;(intro w' hm;exact iR [eV] (Reads.of_own (A:=A) hm pK) (Reads.of_own (A:=some _) hm pK)))|refine sT ?_|refine sS ?_|refine sM fun _=> ?_|(refine sC ?_ ?_<;>intro hb<;>try omega)|fail)
 all_goals first|(exfalso;omega)|((refine rT1 ?_);rfl)
theorem rV {w0:World} {s:ap} {H:List Blk} {ty t' :TypeId} {x y:Operand} {a:Cl} (hx:ev s x=some (.agg (lK a).toArray)) (hy:ev s y=some (.agg (lK a).toArray)):VOp Tryz.prog w0 s H (.binOp .neq 60 x y t') ty (.bool false):=by
 have h:=Dw (w0:=w0) (H:=H) (ty:=ty) (t' :=t') hx hy
 rwa [pN.2 rfl] at h
theorem pL:Small aM:=⟨by decide,by decide,by decide,by decide,by decide⟩
set_option maxRecDepth 40000 in
set_option maxHeartbeats 64000000 in
theorem kS (w:World) (hW:Words w):ay Tryz.prog 6 [] w (.bool true):=by
 refine aq Tryz.func6 rfl Tryz.ntmps6 rfl ?_
 have haw:=fun (w' :World) (H:List Blk) (hm:Mem w w' H)=>xy w' (hW.next hm)
 have hcp:=fun (y:Bv) (w' :World) (H:List Blk) (hm:Mem w w' H) (hr:BRd w' aM y)=>vZ aM y w' hr pL
 have hF1:=fun (y z:Bv) (w' :World) (H:List Blk) (hm:Mem w w' H) (hr:BRd w' vK y) (hr2:BRd w' aM z)=>Hs ▸ mK vK aM y z w' hr hr2 (hW.next hm) (by decide) (by decide)
 have hF2:=fun (y z:Bv) (w' :World) (H:List Blk) (hm:Mem w w' H) (hr:BRd w' aM y) (hr2:BRd w' aM z)=>Hr ▸ mK aM aM y z w' hr hr2 (hW.next hm) (by decide) (by decide)
 have hC1:=fun (y:Bv) (w' :World) (H:List Blk) (hm:Mem w w' H) (hr:BRd w' aM y)=>Hw ▸ nu aM y w' hr (hW.next hm) (by decide)
 have hO1:=fun (y:Bv) (w' :World) (H:List Blk) (hm:Mem w w' H) (hr:BRd w' aM y)=>Hq ▸ CX aM y w' hr (hW.next hm) (by decide) pL
 have hC2:=fun (y:Bv) (w' :World) (H:List Blk) (hm:Mem w w' H) (hr:BRd w' wX y)=>Ht ▸ nu wX y w' hr (hW.next hm) (by decide)
 repeat' (first
  |((with_reducible apply av (f:=31));exact rfl;exact rfl;(intro w' hm;exact lD w');rintro _ _ ⟨⟨ae,ar,ag,al,as_,ce,cr,cg,cl,cs⟩,rfl,rfl⟩;unfold aG)
  |((with_reducible apply av (d:=25));exact rfl;exact rfl;(intro w' hm;exact hcp _ w' _ hm (BRd.of_rows hm (by (repeat first|exact .hd|apply Sel.tl|apply In.tl)) (by (repeat first|exact .hd|apply Sel.tl|apply In.tl)) (by (repeat first|exact .hd|apply Sel.tl|apply In.tl)) (by (repeat first|exact .hd|apply Sel.tl|apply In.tl)) (by (repeat first|exact .hd|apply Sel.tl|apply In.tl))));rintro _ _ ⟨a2,rfl,rfl⟩;unfold aG)
  |((with_reducible apply av (d:=30));exact rfl;exact rfl;(intro w' hm;exact hF1 (Bo.v ⟨a2.e,a2.r,none,a2.l,a2.s,a2.ce,a2.cr,0,a2.cl,a2.cs⟩) (Bo.v ⟨ae,ar,ag,al,as_,ce,cr,cg,cl,cs⟩) w' _ hm ⟨Reads.of_own (A:=a2.e) hm (by (repeat first|exact .hd|apply Sel.tl|apply In.tl)),Reads.of_own (A:=a2.r) hm (by (repeat first|exact .hd|apply Sel.tl|apply In.tl)),bT _,Reads.of_own (A:=a2.l) hm (by (repeat first|exact .hd|apply Sel.tl|apply In.tl)),Reads.of_own (A:=a2.s) hm (by (repeat first|exact .hd|apply Sel.tl|apply In.tl))⟩ (BRd.of_rows hm (by (repeat first|exact .hd|apply Sel.tl|apply In.tl)) (by (repeat first|exact .hd|apply Sel.tl|apply In.tl)) (by (repeat first|exact .hd|apply Sel.tl|apply In.tl)) (by (repeat first|exact .hd|apply Sel.tl|apply In.tl)) (by (repeat first|exact .hd|apply Sel.tl|apply In.tl))));rintro _ _ ⟨A3,c3,rfl,rfl⟩)
  |((with_reducible apply av (d:=36));exact rfl;exact rfl;(intro w' hm;exact hF2 _ _ w' _ hm (BRd.of_rows hm (by (repeat first|exact .hd|apply Sel.tl|apply In.tl)) (by (repeat first|exact .hd|apply Sel.tl|apply In.tl)) (by (repeat first|exact .hd|apply Sel.tl|apply In.tl)) (by (repeat first|exact .hd|apply Sel.tl|apply In.tl)) (by (repeat first|exact .hd|apply Sel.tl|apply In.tl))) (BRd.of_rows hm (by (repeat first|exact .hd|apply Sel.tl|apply In.tl)) (by (repeat first|exact .hd|apply Sel.tl|apply In.tl)) (by (repeat first|exact .hd|apply Sel.tl|apply In.tl)) (by (repeat first|exact .hd|apply Sel.tl|apply In.tl)) (by (repeat first|exact .hd|apply Sel.tl|apply In.tl))));rintro _ _ ⟨A5,c5,rfl,rfl⟩)
  |((with_reducible apply ah);exact rfl;exact rfl;(intro w hm;exact pP w))
  |((with_reducible apply ah (d:=42));exact rfl;exact rfl;(intro w' hm;exact iR [eV] (Reads.of_own (A:=A3) hm (by (repeat first|exact .hd|apply Sel.tl|apply In.tl))) (Reads.of_own (A:=some _) hm (by (repeat first|exact .hd|apply Sel.tl|apply In.tl)))))
  |((with_reducible apply ah (d:=59));exact rfl;exact rfl;(intro w' hm;exact hC1 _ w' _ hm (BRd.of_rows hm (by (repeat first|exact .hd|apply Sel.tl|apply In.tl)) (by (repeat first|exact .hd|apply Sel.tl|apply In.tl)) (by (repeat first|exact .hd|apply Sel.tl|apply In.tl)) (by (repeat first|exact .hd|apply Sel.tl|apply In.tl)) (by (repeat first|exact .hd|apply Sel.tl|apply In.tl)))))
  |((with_reducible apply av (d:=64));exact rfl;exact rfl;(intro w' hm;exact hO1 _ w' _ hm (BRd.of_rows hm (by (repeat first|exact .hd|apply Sel.tl|apply In.tl)) (by (repeat first|exact .hd|apply Sel.tl|apply In.tl)) (by (repeat first|exact .hd|apply Sel.tl|apply In.tl)) (by (repeat first|exact .hd|apply Sel.tl|apply In.tl)) (by (repeat first|exact .hd|apply Sel.tl|apply In.tl))));rintro _ _ ⟨a8,rfl,rfl⟩;unfold aG)
  |((with_reducible apply ah (d:=69));exact rfl;exact rfl;(intro w' hm;exact hC2 _ w' _ hm (BRd.of_rows hm (by (repeat first|exact .hd|apply Sel.tl|apply In.tl)) (by (repeat first|exact .hd|apply Sel.tl|apply In.tl)) (by (repeat first|exact .hd|apply Sel.tl|apply In.tl)) (by (repeat first|exact .hd|apply Sel.tl|apply In.tl)) (by (repeat first|exact .hd|apply Sel.tl|apply In.tl)))))
  |((refine jE (id:=11) [12,13,14,26] [] [.box _ 28 (bn wX a8.v)] (by kernel_rfl) (by kernel_rfl) (by kernel_rfl) (by (repeat (first|exact MSub.nil _|refine MSub.pick (by (repeat first|exact .hd|apply Sel.tl|apply In.tl)) ?_|exact MSub.refl _|refine MSub.drop .hd ?_))) ?_))
  |((with_reducible apply ah (d:=86));exact rfl;exact rfl;(intro w' hm;exact iR [eV] (Reads.of_own (A:=a8.s) hm (by (repeat first|exact .hd|apply Sel.tl|apply In.tl))) (Reads.of_own (A:=some _) hm (by (repeat first|exact .hd|apply Sel.tl|apply In.tl)))))
  |((with_reducible apply ah (d:=98));exact rfl;exact rfl;(intro w' hm;exact haw w' _ hm))
  |((with_reducible apply aj);exact rfl;(first|((with_reducible apply Fx);exact rfl)|((with_reducible apply uf);exact rfl)|((with_reducible apply GK);exact rfl)|((with_reducible apply Bj);exact rfl)|((with_reducible apply dK);exact rfl;(repeat first|exact .hd|apply Sel.tl|apply In.tl);exact rfl)|((with_reducible apply FE);exact rfl;exact rfl)|((with_reducible apply v_neqb);exact rfl;exact rfl)|((with_reducible apply tX);exact rfl;(repeat first|exact .hd|apply Sel.tl|apply In.tl);exact rfl)|((with_reducible apply tY);exact rfl;(repeat first|exact .hd|apply Sel.tl|apply In.tl);exact rfl;exact rfl)|((with_reducible apply DC);(iterate 3 exact rfl))))
  |((with_reducible apply Dg);exact rfl;exact rfl)
  |((with_reducible apply AK);(iterate 4 exact rfl))
  |((with_reducible apply AJ);(iterate 3 exact rfl))
  |((with_reducible apply AR);exact rfl;intro _)
  |((with_reducible apply qf);exact rfl;exact rfl;(repeat first|exact .hd|apply Sel.tl|apply In.tl);(iterate 3 exact rfl))
  |((with_reducible apply tN);exact rfl;exact rfl;(repeat first|exact .hd|apply Sel.tl|apply In.tl);(iterate 4 exact rfl))
  |((with_reducible apply qh);(iterate 7 exact rfl);intro _)
  |((with_reducible apply yP)<;>first|exact rfl|(intro hb;(replace hb:=Tidy.out hb;try (exfalso;omega))))
  |(with_reducible first|apply iZ|apply GS|apply Gx|apply AX|apply Gz|apply Fs|apply Fu|apply Dp|apply GQ|apply GU|apply HB|apply Hz|apply HC|apply cut_r|apply cut_e|apply Dk|apply Dl|apply scp_n|apply GY|apply scp_e)
  |((with_reducible apply tU);exact rfl)
  |((with_reducible apply rT);exact rfl)
  |((with_reducible apply Fw)<;>first|exact rfl|(intro hb;(replace hb:=Tidy.out hb;try (exfalso;omega))))
  |((with_reducible apply Hy);exact rfl)
  |((with_reducible apply cH (i:=()))<;>first|exact trivial|((repeat (first|exact Sub.nil _|refine Sub.cons rfl ?_));done)|((repeat (first|exact MSub.nil _|refine MSub.pick (by (repeat first|exact .hd|apply Sel.tl|apply In.tl)) ?_|exact MSub.refl _|refine MSub.drop .hd ?_));done))
  |((with_reducible apply gG);(iterate 3 exact rfl);(first|((with_reducible apply Fx);exact rfl)|((with_reducible apply uf);exact rfl)|((with_reducible apply GK);exact rfl)|((with_reducible apply Bj);exact rfl)|((with_reducible apply dK);exact rfl;(repeat first|exact .hd|apply Sel.tl|apply In.tl);exact rfl)|((with_reducible apply FE);exact rfl;exact rfl)|((with_reducible apply v_neqb);exact rfl;exact rfl)|((with_reducible apply tX);exact rfl;(repeat first|exact .hd|apply Sel.tl|apply In.tl);exact rfl)|((with_reducible apply tY);exact rfl;(repeat first|exact .hd|apply Sel.tl|apply In.tl);exact rfl;exact rfl)|((with_reducible apply DC);(iterate 3 exact rfl))))
  |((with_reducible apply Fq);(iterate 3 exact rfl))
  |((with_reducible apply wc_gno0);exact rfl)
  |((with_reducible apply HE);exact rfl;exact rfl)
  |((with_reducible apply wc_p);(iterate 4 exact rfl);(first|((with_reducible apply Fx);exact rfl)|((with_reducible apply uf);exact rfl)|((with_reducible apply GK);exact rfl)|((with_reducible apply Bj);exact rfl)|((with_reducible apply dK);exact rfl;(repeat first|exact .hd|apply Sel.tl|apply In.tl);exact rfl)|((with_reducible apply FE);exact rfl;exact rfl)|((with_reducible apply v_neqb);exact rfl;exact rfl)|((with_reducible apply tX);exact rfl;(repeat first|exact .hd|apply Sel.tl|apply In.tl);exact rfl)|((with_reducible apply tY);exact rfl;(repeat first|exact .hd|apply Sel.tl|apply In.tl);exact rfl;exact rfl)|((with_reducible apply DC);(iterate 3 exact rfl))))
  |((with_reducible apply yU)<;>first|exact rfl|(intro hb;(replace hb:=Tidy.out hb;try (exfalso;omega))))
  |(with_reducible apply Fp)
  |((with_reducible apply CR);(repeat (first|exact MSub.nil _|refine MSub.pick (by (repeat first|exact .hd|apply Sel.tl|apply In.tl)) ?_|exact MSub.refl _|refine MSub.drop .hd ?_))))
 all_goals first|(exfalso;omega)|skip
 refine xP (.box _ 28 (bn aM (Bo.v ⟨ae,ar,ag,al,as_,ce,cr,cg,cl,cs⟩))::aG aM ⟨ae,ar,ag,al,as_,ce,cr,cg,cl,cs⟩) (by unfold aG;(repeat (first|exact MSub.nil _|refine MSub.pick (by (repeat first|exact .hd|apply Sel.tl|apply In.tl)) ?_|exact MSub.refl _|refine MSub.drop .hd ?_))) ?_
 clear hF1 hF2 hC1 hO1 hC2
 unfold aG
 repeat' (first
  |((with_reducible apply av (d:=102));exact rfl;exact rfl;(intro w' hm;exact hcp _ w' _ hm (BRd.of_rows hm (by (repeat first|exact .hd|apply Sel.tl|apply In.tl)) (by (repeat first|exact .hd|apply Sel.tl|apply In.tl)) (by (repeat first|exact .hd|apply Sel.tl|apply In.tl)) (by (repeat first|exact .hd|apply Sel.tl|apply In.tl)) (by (repeat first|exact .hd|apply Sel.tl|apply In.tl))));rintro _ _ ⟨⟨be,br,bg,bl,bs,de,dr,dg,dl,ds⟩,rfl,rfl⟩;unfold aG)
  |((with_reducible apply aj);exact rfl;(first|((with_reducible apply Fx);exact rfl)|((with_reducible apply uf);exact rfl)|((with_reducible apply GK);exact rfl)|((with_reducible apply Bj);exact rfl)|((with_reducible apply dK);exact rfl;(repeat first|exact .hd|apply Sel.tl|apply In.tl);exact rfl)|((with_reducible apply FE);exact rfl;exact rfl)|((with_reducible apply v_neqb);exact rfl;exact rfl)|((with_reducible apply tX);exact rfl;(repeat first|exact .hd|apply Sel.tl|apply In.tl);exact rfl)|((with_reducible apply tY);exact rfl;(repeat first|exact .hd|apply Sel.tl|apply In.tl);exact rfl;exact rfl)|((with_reducible apply DC);(iterate 3 exact rfl))))
  |((with_reducible apply Dg);exact rfl;exact rfl)
  |((with_reducible apply AK);(iterate 4 exact rfl))
  |((with_reducible apply AJ);(iterate 3 exact rfl))
  |((with_reducible apply AR);exact rfl;intro _)
  |((with_reducible apply qf);exact rfl;exact rfl;(repeat first|exact .hd|apply Sel.tl|apply In.tl);(iterate 3 exact rfl))
  |((with_reducible apply tN);exact rfl;exact rfl;(repeat first|exact .hd|apply Sel.tl|apply In.tl);(iterate 4 exact rfl))
  |((with_reducible apply qh);(iterate 7 exact rfl);intro _)
  |((with_reducible apply yP)<;>first|exact rfl|(intro hb;(replace hb:=Tidy.out hb;try (exfalso;omega))))
  |(with_reducible first|apply iZ|apply GS|apply Gx|apply AX|apply Gz|apply Fs|apply Fu|apply Dp|apply GQ|apply GU|apply HB|apply Hz|apply HC|apply cut_r|apply cut_e|apply Dk|apply Dl|apply scp_n|apply GY|apply scp_e)
  |((with_reducible apply tU);exact rfl)
  |((with_reducible apply rT);exact rfl)
  |((with_reducible apply Fw)<;>first|exact rfl|(intro hb;(replace hb:=Tidy.out hb;try (exfalso;omega))))
  |((with_reducible apply Hy);exact rfl)
  |((with_reducible apply cH (i:=()))<;>first|exact trivial|((repeat (first|exact Sub.nil _|refine Sub.cons rfl ?_));done)|((repeat (first|exact MSub.nil _|refine MSub.pick (by (repeat first|exact .hd|apply Sel.tl|apply In.tl)) ?_|exact MSub.refl _|refine MSub.drop .hd ?_));done)))
 refine jB (A:=bg) (xs:=aM.grants.flatMap bB) (by (repeat first|exact .hd|apply Sel.tl|apply In.tl)) (by decide) fun gg hA=> ?_
 subst hA
 repeat' (first
  |((with_reducible apply aj (d:=105));exact rfl;(with_reducible apply ai (j:=0));exact rfl;exact rfl;decide)
  |((with_reducible apply fG (vs:= [.bool true]) (off:=0+0*8+7));exact rfl;exact rfl;(repeat first|exact .hd|apply Sel.tl|apply In.tl);exact rfl;exact rfl;(intro u hu;simp at hu;subst hu;rfl);decide)
  |((with_reducible apply av (d:=108));exact rfl;exact rfl;(intro w' hm;exact hcp (Bo.v ⟨ae,ar,ag,al,as_,ce,cr,cg,cl,cs⟩) w' _ hm (BRd.of_rows hm (by (repeat first|exact .hd|apply Sel.tl|apply In.tl)) (by (repeat first|exact .hd|apply Sel.tl|apply In.tl)) (by (repeat first|exact .hd|apply Sel.tl|apply In.tl)) (by (repeat first|exact .hd|apply Sel.tl|apply In.tl)) (by (repeat first|exact .hd|apply Sel.tl|apply In.tl))));rintro _ _ ⟨⟨me,mr,mg,ml,ms,ne,nr,ng,nl,ns⟩,rfl,rfl⟩;unfold aG)
  |((with_reducible apply aj);exact rfl;(first|((with_reducible apply Fx);exact rfl)|((with_reducible apply uf);exact rfl)|((with_reducible apply GK);exact rfl)|((with_reducible apply Bj);exact rfl)|((with_reducible apply dK);exact rfl;(repeat first|exact .hd|apply Sel.tl|apply In.tl);exact rfl)|((with_reducible apply FE);exact rfl;exact rfl)|((with_reducible apply v_neqb);exact rfl;exact rfl)|((with_reducible apply tX);exact rfl;(repeat first|exact .hd|apply Sel.tl|apply In.tl);exact rfl)|((with_reducible apply tY);exact rfl;(repeat first|exact .hd|apply Sel.tl|apply In.tl);exact rfl;exact rfl)|((with_reducible apply DC);(iterate 3 exact rfl))))
  |((with_reducible apply Dg);exact rfl;exact rfl)
  |((with_reducible apply AK);(iterate 4 exact rfl))
  |((with_reducible apply AJ);(iterate 3 exact rfl))
  |((with_reducible apply AR);exact rfl;intro _)
  |((with_reducible apply qf);exact rfl;exact rfl;(repeat first|exact .hd|apply Sel.tl|apply In.tl);(iterate 3 exact rfl))
  |((with_reducible apply tN);exact rfl;exact rfl;(repeat first|exact .hd|apply Sel.tl|apply In.tl);(iterate 4 exact rfl))
  |((with_reducible apply qh);(iterate 7 exact rfl);intro _)
  |((with_reducible apply yP)<;>first|exact rfl|(intro hb;(replace hb:=Tidy.out hb;try (exfalso;omega))))
  |(with_reducible first|apply iZ|apply GS|apply Gx|apply AX|apply Gz|apply Fs|apply Fu|apply Dp|apply GQ|apply GU|apply HB|apply Hz|apply HC|apply cut_r|apply cut_e|apply Dk|apply Dl|apply scp_n|apply GY|apply scp_e)
  |((with_reducible apply tU);exact rfl)
  |((with_reducible apply rT);exact rfl)
  |((with_reducible apply Fw)<;>first|exact rfl|(intro hb;(replace hb:=Tidy.out hb;try (exfalso;omega))))
  |((with_reducible apply Hy);exact rfl)
  |((with_reducible apply cH (i:=()))<;>first|exact trivial|((repeat (first|exact Sub.nil _|refine Sub.cons rfl ?_));done)|((repeat (first|exact MSub.nil _|refine MSub.pick (by (repeat first|exact .hd|apply Sel.tl|apply In.tl)) ?_|exact MSub.refl _|refine MSub.drop .hd ?_));done)))
 refine jB (A:=me) (xs:=aM.ents.flatMap cW) (by (repeat first|exact .hd|apply Sel.tl|apply In.tl)) (by decide) fun gm hA=> ?_
 subst hA
 repeat' (first
  |((with_reducible apply aj (d:=111));exact rfl;(with_reducible apply ai (j:=4));exact rfl;exact rfl;decide)
  |((with_reducible apply fG (vs:= [.string Fa]) (off:=0+4*3+2));exact rfl;exact rfl;(repeat first|exact .hd|apply Sel.tl|apply In.tl);exact rfl;exact rfl;(intro u hu;simp at hu;subst hu;rfl);decide)
  |((with_reducible apply av (d:=114));exact rfl;exact rfl;(intro w' hm;exact hcp (Bo.v ⟨ae,ar,ag,al,as_,ce,cr,cg,cl,cs⟩) w' _ hm (BRd.of_rows hm (by (repeat first|exact .hd|apply Sel.tl|apply In.tl)) (by (repeat first|exact .hd|apply Sel.tl|apply In.tl)) (by (repeat first|exact .hd|apply Sel.tl|apply In.tl)) (by (repeat first|exact .hd|apply Sel.tl|apply In.tl)) (by (repeat first|exact .hd|apply Sel.tl|apply In.tl))));rintro _ _ ⟨⟨pe,pr,pg,pl,ps,qe,qr,qg,ql,qs⟩,rfl,rfl⟩;unfold aG)
  |((with_reducible apply aj);exact rfl;(first|((with_reducible apply Fx);exact rfl)|((with_reducible apply uf);exact rfl)|((with_reducible apply GK);exact rfl)|((with_reducible apply Bj);exact rfl)|((with_reducible apply dK);exact rfl;(repeat first|exact .hd|apply Sel.tl|apply In.tl);exact rfl)|((with_reducible apply FE);exact rfl;exact rfl)|((with_reducible apply v_neqb);exact rfl;exact rfl)|((with_reducible apply tX);exact rfl;(repeat first|exact .hd|apply Sel.tl|apply In.tl);exact rfl)|((with_reducible apply tY);exact rfl;(repeat first|exact .hd|apply Sel.tl|apply In.tl);exact rfl;exact rfl)|((with_reducible apply DC);(iterate 3 exact rfl))))
  |((with_reducible apply Dg);exact rfl;exact rfl)
  |((with_reducible apply AK);(iterate 4 exact rfl))
  |((with_reducible apply AJ);(iterate 3 exact rfl))
  |((with_reducible apply AR);exact rfl;intro _)
  |((with_reducible apply qf);exact rfl;exact rfl;(repeat first|exact .hd|apply Sel.tl|apply In.tl);(iterate 3 exact rfl))
  |((with_reducible apply tN);exact rfl;exact rfl;(repeat first|exact .hd|apply Sel.tl|apply In.tl);(iterate 4 exact rfl))
  |((with_reducible apply qh);(iterate 7 exact rfl);intro _)
  |((with_reducible apply yP)<;>first|exact rfl|(intro hb;(replace hb:=Tidy.out hb;try (exfalso;omega))))
  |(with_reducible first|apply iZ|apply GS|apply Gx|apply AX|apply Gz|apply Fs|apply Fu|apply Dp|apply GQ|apply GU|apply HB|apply Hz|apply HC|apply cut_r|apply cut_e|apply Dk|apply Dl|apply scp_n|apply GY|apply scp_e)
  |((with_reducible apply tU);exact rfl)
  |((with_reducible apply rT);exact rfl)
  |((with_reducible apply Fw)<;>first|exact rfl|(intro hb;(replace hb:=Tidy.out hb;try (exfalso;omega))))
  |((with_reducible apply Hy);exact rfl)
  |((with_reducible apply cH (i:=()))<;>first|exact trivial|((repeat (first|exact Sub.nil _|refine Sub.cons rfl ?_));done)|((repeat (first|exact MSub.nil _|refine MSub.pick (by (repeat first|exact .hd|apply Sel.tl|apply In.tl)) ?_|exact MSub.refl _|refine MSub.drop .hd ?_));done)))
 refine jB (A:=pg) (xs:=aM.grants.flatMap bB) (by (repeat first|exact .hd|apply Sel.tl|apply In.tl)) (by decide) fun gq hA=> ?_
 subst hA
 clear hcp
 repeat' (first
  |((with_reducible apply aj (d:=117));exact rfl;(with_reducible apply ai (j:=0));exact rfl;exact rfl;decide)
  |((with_reducible apply fG (vs:= [vS 0#64]) (off:=0+0*8+5));exact rfl;exact rfl;(repeat first|exact .hd|apply Sel.tl|apply In.tl);exact rfl;exact rfl;(intro u hu;simp at hu;subst hu;rfl);decide)
  |((with_reducible apply aj);exact rfl;(first|((with_reducible apply Fx);exact rfl)|((with_reducible apply uf);exact rfl)|((with_reducible apply GK);exact rfl)|((with_reducible apply Bj);exact rfl)|((with_reducible apply dK);exact rfl;(repeat first|exact .hd|apply Sel.tl|apply In.tl);exact rfl)|((with_reducible apply FE);exact rfl;exact rfl)|((with_reducible apply v_neqb);exact rfl;exact rfl)|((with_reducible apply tX);exact rfl;(repeat first|exact .hd|apply Sel.tl|apply In.tl);exact rfl)|((with_reducible apply tY);exact rfl;(repeat first|exact .hd|apply Sel.tl|apply In.tl);exact rfl;exact rfl)|((with_reducible apply DC);(iterate 3 exact rfl))))
  |((with_reducible apply Dg);exact rfl;exact rfl)
  |((with_reducible apply AK);(iterate 4 exact rfl))
  |((with_reducible apply AJ);(iterate 3 exact rfl))
  |((with_reducible apply AR);exact rfl;intro _)
  |((with_reducible apply qf);exact rfl;exact rfl;(repeat first|exact .hd|apply Sel.tl|apply In.tl);(iterate 3 exact rfl))
  |((with_reducible apply tN);exact rfl;exact rfl;(repeat first|exact .hd|apply Sel.tl|apply In.tl);(iterate 4 exact rfl))
  |((with_reducible apply qh);(iterate 7 exact rfl);intro _)
  |((with_reducible apply yP)<;>first|exact rfl|(intro hb;(replace hb:=Tidy.out hb;try (exfalso;omega))))
  |(with_reducible first|apply iZ|apply GS|apply Gx|apply AX|apply Gz|apply Fs|apply Fu|apply Dp|apply GQ|apply GU|apply HB|apply Hz|apply HC|apply cut_r|apply cut_e|apply Dk|apply Dl|apply scp_n|apply GY|apply scp_e)
  |((with_reducible apply tU);exact rfl)
  |((with_reducible apply rT);exact rfl)
  |((with_reducible apply Fw)<;>first|exact rfl|(intro hb;(replace hb:=Tidy.out hb;try (exfalso;omega))))
  |((with_reducible apply Hy);exact rfl)
  |((with_reducible apply cH (i:=()))<;>first|exact trivial|((repeat (first|exact Sub.nil _|refine Sub.cons rfl ?_));done)|((repeat (first|exact MSub.nil _|refine MSub.pick (by (repeat first|exact .hd|apply Sel.tl|apply In.tl)) ?_|exact MSub.refl _|refine MSub.drop .hd ?_));done)))
 rename_i g1 _ _ _ _ g11 g12 g13 g122
 simp only [Ij,HW,HZ]
 have hL0:=fun (y:Bv) (w' :World) (H:List Blk) (hm:Mem w w' H) (hr:BRd w' uu y)=>sH BB.1 BB.2 ▸ eR uu y w' hr (hW.next hm) (by decide)
 have hL1:=fun (y:Bv) (w' :World) (H:List Blk) (hm:Mem w w' H) (hr:BRd w' uM y)=>sH BP.1 BP.2 ▸ eR uM y w' hr (hW.next hm) (by decide)
 have hL2:=fun (y:Bv) (w' :World) (H:List Blk) (hm:Mem w w' H) (hr:BRd w' uR y)=>sH BT.1 BT.2 ▸ eR uR y w' hr (hW.next hm) (by decide)
 refine ax [1,122,123] rfl (fun i:Nat=> [(124,.int .i64 (i:Int))]) (fun _=> .own (some g122) 28 7 3 3 (bn uu (Bo.v ⟨be,br,some gg,bl,bs,de,dr,dg,dl,ds⟩)++(bn uM (Bo.v ⟨some gm,mr,mg,ml,ms,ne,nr,ng,nl,ns⟩)++bn uR (Bo.v ⟨pe,pr,some gq,pl,ps,qe,qr,qg,ql,qs⟩))):: .box g1 28 (bn aM (Bo.v ⟨ae,ar,ag,al,as_,ce,cr,cg,cl,cs⟩))::(aG uu ⟨be,br,some gg,bl,bs,de,dr,dg,dl,ds⟩++(aG uM ⟨some gm,mr,mg,ml,ms,ne,nr,ng,nl,ns⟩++(aG uR ⟨pe,pr,some gq,pl,ps,qe,qr,qg,ql,qs⟩++aG aM ⟨ae,ar,ag,al,as_,ce,cr,cg,cl,cs⟩)))) (fun i=>i≤3) (fun i=>3 - i) 0 (H5 _) (by (repeat (first|exact Sub.nil _|refine Sub.cons rfl ?_))) (by unfold aG;simp only [Ij,HW,HZ];(repeat (first|exact MSub.nil _|refine MSub.pick (by (repeat first|exact .hd|apply Sel.tl|apply In.tl)) ?_|exact MSub.refl _|refine MSub.drop .hd ?_))) ?_
 rintro i hi
 try dsimp only at hi ⊢
 unfold aG
 simp only [Ij,HW,HZ]
 by_cases hlt:i<3
 ·
  rcases (by omega:i=0∨i=1∨i=2) with rfl|rfl|rfl
  ·
   repeat' (first
    |((with_reducible apply aj (d:=126));exact rfl;(with_reducible apply ai (j:=0));exact rfl;exact rfl;decide)
    |((with_reducible apply aj (d:=127));exact rfl;(with_reducible apply aR (ys:=bn uu (Bo.v ⟨be,br,some gg,bl,bs,de,dr,dg,dl,ds⟩)));exact rfl;(repeat first|exact .hd|apply Sel.tl|apply In.tl);exact rfl;exact rfl)
    |((with_reducible apply av (d:=130));exact rfl;exact rfl;(intro w' hm;exact hL0 (Bo.v ⟨be,br,some gg,bl,bs,de,dr,dg,dl,ds⟩) w' _ hm (BRd.of_rows (b:=uu) (a:=⟨be,br,some gg,bl,bs,de,dr,dg,dl,ds⟩) hm (by (repeat first|exact .hd|apply Sel.tl|apply In.tl)) (by (repeat first|exact .hd|apply Sel.tl|apply In.tl)) (by (repeat first|exact .hd|apply Sel.tl|apply In.tl)) (by (repeat first|exact .hd|apply Sel.tl|apply In.tl)) (by (repeat first|exact .hd|apply Sel.tl|apply In.tl))));rintro _ _ ⟨A9,c9,rfl,rfl⟩)
    |((with_reducible apply aj);exact rfl;(first|((with_reducible apply Fx);exact rfl)|((with_reducible apply uf);exact rfl)|((with_reducible apply GK);exact rfl)|((with_reducible apply Bj);exact rfl)|((with_reducible apply dK);exact rfl;(repeat first|exact .hd|apply Sel.tl|apply In.tl);exact rfl)|((with_reducible apply FE);exact rfl;exact rfl)|((with_reducible apply v_neqb);exact rfl;exact rfl)|((with_reducible apply tX);exact rfl;(repeat first|exact .hd|apply Sel.tl|apply In.tl);exact rfl)|((with_reducible apply tY);exact rfl;(repeat first|exact .hd|apply Sel.tl|apply In.tl);exact rfl;exact rfl)|((with_reducible apply DC);(iterate 3 exact rfl))))
    |((with_reducible apply Dg);exact rfl;exact rfl)
    |((with_reducible apply AK);(iterate 4 exact rfl))
    |((with_reducible apply AJ);(iterate 3 exact rfl))
    |((with_reducible apply AR);exact rfl;intro _)
    |((with_reducible apply qf);exact rfl;exact rfl;(repeat first|exact .hd|apply Sel.tl|apply In.tl);(iterate 3 exact rfl))
    |((with_reducible apply tN);exact rfl;exact rfl;(repeat first|exact .hd|apply Sel.tl|apply In.tl);(iterate 4 exact rfl))
    |((with_reducible apply qh);(iterate 7 exact rfl);intro _)
    |((with_reducible apply yP)<;>first|exact rfl|(intro hb;(replace hb:=Tidy.out hb;try (exfalso;omega))))
    |(with_reducible first|apply iZ|apply GS|apply Gx|apply AX|apply Gz|apply Fs|apply Fu|apply Dp|apply GQ|apply GU|apply HB|apply Hz|apply HC|apply cut_r|apply cut_e|apply Dk|apply Dl|apply scp_n|apply GY|apply scp_e)
    |((with_reducible apply tU);exact rfl)
    |((with_reducible apply rT);exact rfl)
    |((with_reducible apply Fw)<;>first|exact rfl|(intro hb;(replace hb:=Tidy.out hb;try (exfalso;omega))))
    |((with_reducible apply Hy);exact rfl)
    |((with_reducible apply cH (i:=()))<;>first|exact trivial|((repeat (first|exact Sub.nil _|refine Sub.cons rfl ?_));done)|((repeat (first|exact MSub.nil _|refine MSub.pick (by (repeat first|exact .hd|apply Sel.tl|apply In.tl)) ?_|exact MSub.refl _|refine MSub.drop .hd ?_));done))
    |((with_reducible apply aj);exact rfl;(with_reducible apply jF);exact rfl;exact rfl;(simp only [maxLen] at*;omega))
    |((with_reducible apply aj);exact rfl;(with_reducible apply v_1addN);exact rfl;exact rfl;(simp only [maxLen] at*;omega))
    |((with_reducible apply aj);exact rfl;(with_reducible apply iG);exact rfl;exact rfl;(simp only [maxLen] at*;omega)))
   all_goals first
    |(exfalso;omega)
    |(refine ⟨1,by decide,by decide,by (repeat (first|exact Sub.nil _|refine Sub.cons rfl ?_)),by (repeat (first|exact Sub.nil _|refine Sub.cons rfl ?_)),by (try unfold aG);(try simp only [Ij,HW,HZ]);(repeat (first|exact MSub.nil _|refine MSub.pick (by (repeat first|exact .hd|apply Sel.tl|apply In.tl)) ?_|exact MSub.refl _|refine MSub.drop .hd ?_))⟩;done)
  ·
   repeat' (first
    |((with_reducible apply aj (d:=126));exact rfl;(with_reducible apply ai (j:=1));exact rfl;exact rfl;decide)
    |((with_reducible apply aj (d:=127));exact rfl;(with_reducible apply aR (ys:=bn uM (Bo.v ⟨some gm,mr,mg,ml,ms,ne,nr,ng,nl,ns⟩)));exact rfl;(repeat first|exact .hd|apply Sel.tl|apply In.tl);exact rfl;exact rfl)
    |((with_reducible apply av (d:=130));exact rfl;exact rfl;(intro w' hm;exact hL1 (Bo.v ⟨some gm,mr,mg,ml,ms,ne,nr,ng,nl,ns⟩) w' _ hm (BRd.of_rows (b:=uM) (a:=⟨some gm,mr,mg,ml,ms,ne,nr,ng,nl,ns⟩) hm (by (repeat first|exact .hd|apply Sel.tl|apply In.tl)) (by (repeat first|exact .hd|apply Sel.tl|apply In.tl)) (by (repeat first|exact .hd|apply Sel.tl|apply In.tl)) (by (repeat first|exact .hd|apply Sel.tl|apply In.tl)) (by (repeat first|exact .hd|apply Sel.tl|apply In.tl))));rintro _ _ ⟨A9,c9,rfl,rfl⟩)
    |((with_reducible apply aj);exact rfl;(first|((with_reducible apply Fx);exact rfl)|((with_reducible apply uf);exact rfl)|((with_reducible apply GK);exact rfl)|((with_reducible apply Bj);exact rfl)|((with_reducible apply dK);exact rfl;(repeat first|exact .hd|apply Sel.tl|apply In.tl);exact rfl)|((with_reducible apply FE);exact rfl;exact rfl)|((with_reducible apply v_neqb);exact rfl;exact rfl)|((with_reducible apply tX);exact rfl;(repeat first|exact .hd|apply Sel.tl|apply In.tl);exact rfl)|((with_reducible apply tY);exact rfl;(repeat first|exact .hd|apply Sel.tl|apply In.tl);exact rfl;exact rfl)|((with_reducible apply DC);(iterate 3 exact rfl))))
    |((with_reducible apply Dg);exact rfl;exact rfl)
    |((with_reducible apply AK);(iterate 4 exact rfl))
    |((with_reducible apply AJ);(iterate 3 exact rfl))
    |((with_reducible apply AR);exact rfl;intro _)
    |((with_reducible apply qf);exact rfl;exact rfl;(repeat first|exact .hd|apply Sel.tl|apply In.tl);(iterate 3 exact rfl))
    |((with_reducible apply tN);exact rfl;exact rfl;(repeat first|exact .hd|apply Sel.tl|apply In.tl);(iterate 4 exact rfl))
    |((with_reducible apply qh);(iterate 7 exact rfl);intro _)
    |((with_reducible apply yP)<;>first|exact rfl|(intro hb;(replace hb:=Tidy.out hb;try (exfalso;omega))))
    |(with_reducible first|apply iZ|apply GS|apply Gx|apply AX|apply Gz|apply Fs|apply Fu|apply Dp|apply GQ|apply GU|apply HB|apply Hz|apply HC|apply cut_r|apply cut_e|apply Dk|apply Dl|apply scp_n|apply GY|apply scp_e)
    |((with_reducible apply tU);exact rfl)
    |((with_reducible apply rT);exact rfl)
    |((with_reducible apply Fw)<;>first|exact rfl|(intro hb;(replace hb:=Tidy.out hb;try (exfalso;omega))))
    |((with_reducible apply Hy);exact rfl)
    |((with_reducible apply cH (i:=()))<;>first|exact trivial|((repeat (first|exact Sub.nil _|refine Sub.cons rfl ?_));done)|((repeat (first|exact MSub.nil _|refine MSub.pick (by (repeat first|exact .hd|apply Sel.tl|apply In.tl)) ?_|exact MSub.refl _|refine MSub.drop .hd ?_));done))
    |((with_reducible apply aj);exact rfl;(with_reducible apply jF);exact rfl;exact rfl;(simp only [maxLen] at*;omega))
    |((with_reducible apply aj);exact rfl;(with_reducible apply v_1addN);exact rfl;exact rfl;(simp only [maxLen] at*;omega))
    |((with_reducible apply aj);exact rfl;(with_reducible apply iG);exact rfl;exact rfl;(simp only [maxLen] at*;omega)))
   all_goals first
    |(exfalso;omega)
    |(refine ⟨2,by decide,by decide,by (repeat (first|exact Sub.nil _|refine Sub.cons rfl ?_)),by (repeat (first|exact Sub.nil _|refine Sub.cons rfl ?_)),by (try unfold aG);(try simp only [Ij,HW,HZ]);(repeat (first|exact MSub.nil _|refine MSub.pick (by (repeat first|exact .hd|apply Sel.tl|apply In.tl)) ?_|exact MSub.refl _|refine MSub.drop .hd ?_))⟩;done)
  ·
   repeat' (first
    |((with_reducible apply aj (d:=126));exact rfl;(with_reducible apply ai (j:=2));exact rfl;exact rfl;decide)
    |((with_reducible apply aj (d:=127));exact rfl;(with_reducible apply aR (ys:=bn uR (Bo.v ⟨pe,pr,some gq,pl,ps,qe,qr,qg,ql,qs⟩)));exact rfl;(repeat first|exact .hd|apply Sel.tl|apply In.tl);exact rfl;exact rfl)
    |((with_reducible apply av (d:=130));exact rfl;exact rfl;(intro w' hm;exact hL2 (Bo.v ⟨pe,pr,some gq,pl,ps,qe,qr,qg,ql,qs⟩) w' _ hm (BRd.of_rows (b:=uR) (a:=⟨pe,pr,some gq,pl,ps,qe,qr,qg,ql,qs⟩) hm (by (repeat first|exact .hd|apply Sel.tl|apply In.tl)) (by (repeat first|exact .hd|apply Sel.tl|apply In.tl)) (by (repeat first|exact .hd|apply Sel.tl|apply In.tl)) (by (repeat first|exact .hd|apply Sel.tl|apply In.tl)) (by (repeat first|exact .hd|apply Sel.tl|apply In.tl))));rintro _ _ ⟨A9,c9,rfl,rfl⟩)
    |((with_reducible apply aj);exact rfl;(first|((with_reducible apply Fx);exact rfl)|((with_reducible apply uf);exact rfl)|((with_reducible apply GK);exact rfl)|((with_reducible apply Bj);exact rfl)|((with_reducible apply dK);exact rfl;(repeat first|exact .hd|apply Sel.tl|apply In.tl);exact rfl)|((with_reducible apply FE);exact rfl;exact rfl)|((with_reducible apply v_neqb);exact rfl;exact rfl)|((with_reducible apply tX);exact rfl;(repeat first|exact .hd|apply Sel.tl|apply In.tl);exact rfl)|((with_reducible apply tY);exact rfl;(repeat first|exact .hd|apply Sel.tl|apply In.tl);exact rfl;exact rfl)|((with_reducible apply DC);(iterate 3 exact rfl))))
    |((with_reducible apply Dg);exact rfl;exact rfl)
    |((with_reducible apply AK);(iterate 4 exact rfl))
    |((with_reducible apply AJ);(iterate 3 exact rfl))
    |((with_reducible apply AR);exact rfl;intro _)
    |((with_reducible apply qf);exact rfl;exact rfl;(repeat first|exact .hd|apply Sel.tl|apply In.tl);(iterate 3 exact rfl))
    |((with_reducible apply tN);exact rfl;exact rfl;(repeat first|exact .hd|apply Sel.tl|apply In.tl);(iterate 4 exact rfl))
    |((with_reducible apply qh);(iterate 7 exact rfl);intro _)
    |((with_reducible apply yP)<;>first|exact rfl|(intro hb;(replace hb:=Tidy.out hb;try (exfalso;omega))))
    |(with_reducible first|apply iZ|apply GS|apply Gx|apply AX|apply Gz|apply Fs|apply Fu|apply Dp|apply GQ|apply GU|apply HB|apply Hz|apply HC|apply cut_r|apply cut_e|apply Dk|apply Dl|apply scp_n|apply GY|apply scp_e)
    |((with_reducible apply tU);exact rfl)
    |((with_reducible apply rT);exact rfl)
    |((with_reducible apply Fw)<;>first|exact rfl|(intro hb;(replace hb:=Tidy.out hb;try (exfalso;omega))))
    |((with_reducible apply Hy);exact rfl)
    |((with_reducible apply cH (i:=()))<;>first|exact trivial|((repeat (first|exact Sub.nil _|refine Sub.cons rfl ?_));done)|((repeat (first|exact MSub.nil _|refine MSub.pick (by (repeat first|exact .hd|apply Sel.tl|apply In.tl)) ?_|exact MSub.refl _|refine MSub.drop .hd ?_));done))
    |((with_reducible apply aj);exact rfl;(with_reducible apply jF);exact rfl;exact rfl;(simp only [maxLen] at*;omega))
    |((with_reducible apply aj);exact rfl;(with_reducible apply v_1addN);exact rfl;exact rfl;(simp only [maxLen] at*;omega))
    |((with_reducible apply aj);exact rfl;(with_reducible apply iG);exact rfl;exact rfl;(simp only [maxLen] at*;omega)))
   all_goals first
    |(exfalso;omega)
    |(refine ⟨3,by decide,by decide,by (repeat (first|exact Sub.nil _|refine Sub.cons rfl ?_)),by (repeat (first|exact Sub.nil _|refine Sub.cons rfl ?_)),by (try unfold aG);(try simp only [Ij,HW,HZ]);(repeat (first|exact MSub.nil _|refine MSub.pick (by (repeat first|exact .hd|apply Sel.tl|apply In.tl)) ?_|exact MSub.refl _|refine MSub.drop .hd ?_))⟩;done)
 have e:i=3:=by omega
 subst e
 clear hL0 hL1 hL2
 repeat' (first
  |((with_reducible apply aj);exact rfl;(first|((with_reducible apply Fx);exact rfl)|((with_reducible apply uf);exact rfl)|((with_reducible apply GK);exact rfl)|((with_reducible apply Bj);exact rfl)|((with_reducible apply dK);exact rfl;(repeat first|exact .hd|apply Sel.tl|apply In.tl);exact rfl)|((with_reducible apply FE);exact rfl;exact rfl)|((with_reducible apply v_neqb);exact rfl;exact rfl)|((with_reducible apply tX);exact rfl;(repeat first|exact .hd|apply Sel.tl|apply In.tl);exact rfl)|((with_reducible apply tY);exact rfl;(repeat first|exact .hd|apply Sel.tl|apply In.tl);exact rfl;exact rfl)|((with_reducible apply DC);(iterate 3 exact rfl))))
  |((with_reducible apply Dg);exact rfl;exact rfl)
  |((with_reducible apply AK);(iterate 4 exact rfl))
  |((with_reducible apply AJ);(iterate 3 exact rfl))
  |((with_reducible apply AR);exact rfl;intro _)
  |((with_reducible apply qf);exact rfl;exact rfl;(repeat first|exact .hd|apply Sel.tl|apply In.tl);(iterate 3 exact rfl))
  |((with_reducible apply tN);exact rfl;exact rfl;(repeat first|exact .hd|apply Sel.tl|apply In.tl);(iterate 4 exact rfl))
  |((with_reducible apply qh);(iterate 7 exact rfl);intro _)
  |((with_reducible apply yP)<;>first|exact rfl|(intro hb;(replace hb:=Tidy.out hb;try (exfalso;omega))))
  |(with_reducible first|apply iZ|apply GS|apply Gx|apply AX|apply Gz|apply Fs|apply Fu|apply Dp|apply GQ|apply GU|apply HB|apply Hz|apply HC|apply cut_r|apply cut_e|apply Dk|apply Dl|apply scp_n|apply GY|apply scp_e)
  |((with_reducible apply tU);exact rfl)
  |((with_reducible apply rT);exact rfl)
  |((with_reducible apply Fw)<;>first|exact rfl|(intro hb;(replace hb:=Tidy.out hb;try (exfalso;omega))))
  |((with_reducible apply Hy);exact rfl)
  |((with_reducible apply cH (i:=()))<;>first|exact trivial|((repeat (first|exact Sub.nil _|refine Sub.cons rfl ?_));done)|((repeat (first|exact MSub.nil _|refine MSub.pick (by (repeat first|exact .hd|apply Sel.tl|apply In.tl)) ?_|exact MSub.refl _|refine MSub.drop .hd ?_));done)))
 refine jB (A:=ae) (xs:=aM.ents.flatMap cW) (by (repeat first|exact .hd|apply Sel.tl|apply In.tl)) (by decide) fun ge hA=> ?_
 subst hA
 refine jB (A:=ag) (xs:=aM.grants.flatMap bB) (by (repeat first|exact .hd|apply Sel.tl|apply In.tl)) (by decide) fun gn hA=> ?_
 subst hA
 repeat' (first
  |((with_reducible apply aj (d:=143));exact rfl;(with_reducible apply ai (j:=5));exact rfl;exact rfl;decide)
  |((with_reducible apply fG (vs:= [.string E9]) (off:=0+5*3+2));exact rfl;exact rfl;(repeat first|exact .hd|apply Sel.tl|apply In.tl);exact rfl;exact rfl;(intro u hu;simp at hu;subst hu;rfl);decide)
  |((with_reducible apply aj);exact rfl;(first|((with_reducible apply Fx);exact rfl)|((with_reducible apply uf);exact rfl)|((with_reducible apply GK);exact rfl)|((with_reducible apply Bj);exact rfl)|((with_reducible apply dK);exact rfl;(repeat first|exact .hd|apply Sel.tl|apply In.tl);exact rfl)|((with_reducible apply FE);exact rfl;exact rfl)|((with_reducible apply v_neqb);exact rfl;exact rfl)|((with_reducible apply tX);exact rfl;(repeat first|exact .hd|apply Sel.tl|apply In.tl);exact rfl)|((with_reducible apply tY);exact rfl;(repeat first|exact .hd|apply Sel.tl|apply In.tl);exact rfl;exact rfl)|((with_reducible apply DC);(iterate 3 exact rfl))))
  |((with_reducible apply Dg);exact rfl;exact rfl)
  |((with_reducible apply AK);(iterate 4 exact rfl))
  |((with_reducible apply AJ);(iterate 3 exact rfl))
  |((with_reducible apply AR);exact rfl;intro _)
  |((with_reducible apply qf);exact rfl;exact rfl;(repeat first|exact .hd|apply Sel.tl|apply In.tl);(iterate 3 exact rfl))
  |((with_reducible apply tN);exact rfl;exact rfl;(repeat first|exact .hd|apply Sel.tl|apply In.tl);(iterate 4 exact rfl))
  |((with_reducible apply qh);(iterate 7 exact rfl);intro _)
  |((with_reducible apply yP)<;>first|exact rfl|(intro hb;(replace hb:=Tidy.out hb;try (exfalso;omega))))
  |(with_reducible first|apply iZ|apply GS|apply Gx|apply AX|apply Gz|apply Fs|apply Fu|apply Dp|apply GQ|apply GU|apply HB|apply Hz|apply HC|apply cut_r|apply cut_e|apply Dk|apply Dl|apply scp_n|apply GY|apply scp_e)
  |((with_reducible apply tU);exact rfl)
  |((with_reducible apply rT);exact rfl)
  |((with_reducible apply Fw)<;>first|exact rfl|(intro hb;(replace hb:=Tidy.out hb;try (exfalso;omega))))
  |((with_reducible apply Hy);exact rfl)
  |((with_reducible apply cH (i:=()))<;>first|exact trivial|((repeat (first|exact Sub.nil _|refine Sub.cons rfl ?_));done)|((repeat (first|exact MSub.nil _|refine MSub.pick (by (repeat first|exact .hd|apply Sel.tl|apply In.tl)) ?_|exact MSub.refl _|refine MSub.drop .hd ?_));done)))
 (refine lX (id:=27) (ι:=Nat × Nat) (fun z=> [(1,.pointer (some ⟨g1,0,none⟩))]) (fun z=> .box g1 28 (bn kR (Bo.v ⟨some ge,ar,some z.1,al,as_,ce,cr,z.2,cl,cs⟩))::aG kR ⟨some ge,ar,some z.1,al,as_,ce,cr,z.2,cl,cs⟩) (fun _=>True) ?_ ?_)
 ·
  refine nM (id:=27) [1,3,6,8,9,11] [] 12 rfl rfl (MSub.nil _) ?_
  repeat' (first
   |((with_reducible apply dI (i:=0));(iterate 4 exact rfl);decide+kernel;decide+kernel;decide+kernel;(first|((with_reducible apply Fx);exact rfl)|((with_reducible apply uf);exact rfl)|((with_reducible apply GK);exact rfl)|((with_reducible apply Bj);exact rfl)|((with_reducible apply oC);exact rfl)|((with_reducible apply dK);exact rfl;(repeat first|exact .hd|apply Sel.tl|apply In.tl);exact rfl)|((with_reducible apply FE);exact rfl;exact rfl)|((with_reducible apply v_neqb);exact rfl;exact rfl)|((with_reducible apply xY);exact rfl;exact rfl)|((with_reducible apply Bh);exact rfl;exact rfl)|((with_reducible apply tX);exact rfl;(repeat first|exact .hd|apply Sel.tl|apply In.tl);exact rfl)|((with_reducible apply tY);exact rfl;(repeat first|exact .hd|apply Sel.tl|apply In.tl);exact rfl;exact rfl)|((with_reducible apply DC);(iterate 3 exact rfl))|((with_reducible apply xX);(iterate 3 exact rfl))|((with_reducible apply ud);exact rfl;exact rfl;(first|assumption|omega))|((with_reducible apply FC);exact rfl;exact rfl;(first|assumption|omega))|((with_reducible apply wy);(iterate 3 exact rfl);(first|assumption|omega))|((with_reducible apply Ba);exact rfl;exact rfl;(first|assumption|omega))|((with_reducible apply Dr);exact rfl;exact rfl;(first|assumption|omega))|((with_reducible apply Bb);exact rfl;exact rfl;(first|assumption|omega))|((with_reducible apply eB);exact rfl)|((with_reducible apply Dx);exact rfl)|((with_reducible apply v_neqpn);exact rfl)))
   |((with_reducible apply dI (i:=2));(iterate 4 exact rfl);decide+kernel;decide+kernel;decide+kernel;(first|((with_reducible apply Fx);exact rfl)|((with_reducible apply uf);exact rfl)|((with_reducible apply GK);exact rfl)|((with_reducible apply Bj);exact rfl)|((with_reducible apply oC);exact rfl)|((with_reducible apply dK);exact rfl;(repeat first|exact .hd|apply Sel.tl|apply In.tl);exact rfl)|((with_reducible apply FE);exact rfl;exact rfl)|((with_reducible apply v_neqb);exact rfl;exact rfl)|((with_reducible apply xY);exact rfl;exact rfl)|((with_reducible apply Bh);exact rfl;exact rfl)|((with_reducible apply tX);exact rfl;(repeat first|exact .hd|apply Sel.tl|apply In.tl);exact rfl)|((with_reducible apply tY);exact rfl;(repeat first|exact .hd|apply Sel.tl|apply In.tl);exact rfl;exact rfl)|((with_reducible apply DC);(iterate 3 exact rfl))|((with_reducible apply xX);(iterate 3 exact rfl))|((with_reducible apply ud);exact rfl;exact rfl;(first|assumption|omega))|((with_reducible apply FC);exact rfl;exact rfl;(first|assumption|omega))|((with_reducible apply wy);(iterate 3 exact rfl);(first|assumption|omega))|((with_reducible apply Ba);exact rfl;exact rfl;(first|assumption|omega))|((with_reducible apply Dr);exact rfl;exact rfl;(first|assumption|omega))|((with_reducible apply Bb);exact rfl;exact rfl;(first|assumption|omega))|((with_reducible apply eB);exact rfl)|((with_reducible apply Dx);exact rfl)|((with_reducible apply v_neqpn);exact rfl)))
   |((with_reducible apply dI (i:=5));(iterate 4 exact rfl);decide+kernel;decide+kernel;decide+kernel;(first|((with_reducible apply Fx);exact rfl)|((with_reducible apply uf);exact rfl)|((with_reducible apply GK);exact rfl)|((with_reducible apply Bj);exact rfl)|((with_reducible apply oC);exact rfl)|((with_reducible apply dK);exact rfl;(repeat first|exact .hd|apply Sel.tl|apply In.tl);exact rfl)|((with_reducible apply FE);exact rfl;exact rfl)|((with_reducible apply v_neqb);exact rfl;exact rfl)|((with_reducible apply xY);exact rfl;exact rfl)|((with_reducible apply Bh);exact rfl;exact rfl)|((with_reducible apply tX);exact rfl;(repeat first|exact .hd|apply Sel.tl|apply In.tl);exact rfl)|((with_reducible apply tY);exact rfl;(repeat first|exact .hd|apply Sel.tl|apply In.tl);exact rfl;exact rfl)|((with_reducible apply DC);(iterate 3 exact rfl))|((with_reducible apply xX);(iterate 3 exact rfl))|((with_reducible apply ud);exact rfl;exact rfl;(first|assumption|omega))|((with_reducible apply FC);exact rfl;exact rfl;(first|assumption|omega))|((with_reducible apply wy);(iterate 3 exact rfl);(first|assumption|omega))|((with_reducible apply Ba);exact rfl;exact rfl;(first|assumption|omega))|((with_reducible apply Dr);exact rfl;exact rfl;(first|assumption|omega))|((with_reducible apply Bb);exact rfl;exact rfl;(first|assumption|omega))|((with_reducible apply eB);exact rfl)|((with_reducible apply Dx);exact rfl)|((with_reducible apply v_neqpn);exact rfl)))
   |((with_reducible apply dI (i:=7));(iterate 4 exact rfl);decide+kernel;decide+kernel;decide+kernel;(first|((with_reducible apply Fx);exact rfl)|((with_reducible apply uf);exact rfl)|((with_reducible apply GK);exact rfl)|((with_reducible apply Bj);exact rfl)|((with_reducible apply oC);exact rfl)|((with_reducible apply dK);exact rfl;(repeat first|exact .hd|apply Sel.tl|apply In.tl);exact rfl)|((with_reducible apply FE);exact rfl;exact rfl)|((with_reducible apply v_neqb);exact rfl;exact rfl)|((with_reducible apply xY);exact rfl;exact rfl)|((with_reducible apply Bh);exact rfl;exact rfl)|((with_reducible apply tX);exact rfl;(repeat first|exact .hd|apply Sel.tl|apply In.tl);exact rfl)|((with_reducible apply tY);exact rfl;(repeat first|exact .hd|apply Sel.tl|apply In.tl);exact rfl;exact rfl)|((with_reducible apply DC);(iterate 3 exact rfl))|((with_reducible apply xX);(iterate 3 exact rfl))|((with_reducible apply ud);exact rfl;exact rfl;(first|assumption|omega))|((with_reducible apply FC);exact rfl;exact rfl;(first|assumption|omega))|((with_reducible apply wy);(iterate 3 exact rfl);(first|assumption|omega))|((with_reducible apply Ba);exact rfl;exact rfl;(first|assumption|omega))|((with_reducible apply Dr);exact rfl;exact rfl;(first|assumption|omega))|((with_reducible apply Bb);exact rfl;exact rfl;(first|assumption|omega))|((with_reducible apply eB);exact rfl)|((with_reducible apply Dx);exact rfl)|((with_reducible apply v_neqpn);exact rfl)))
   |((with_reducible apply dI (i:=10));(iterate 4 exact rfl);decide+kernel;decide+kernel;decide+kernel;(first|((with_reducible apply Fx);exact rfl)|((with_reducible apply uf);exact rfl)|((with_reducible apply GK);exact rfl)|((with_reducible apply Bj);exact rfl)|((with_reducible apply oC);exact rfl)|((with_reducible apply dK);exact rfl;(repeat first|exact .hd|apply Sel.tl|apply In.tl);exact rfl)|((with_reducible apply FE);exact rfl;exact rfl)|((with_reducible apply v_neqb);exact rfl;exact rfl)|((with_reducible apply xY);exact rfl;exact rfl)|((with_reducible apply Bh);exact rfl;exact rfl)|((with_reducible apply tX);exact rfl;(repeat first|exact .hd|apply Sel.tl|apply In.tl);exact rfl)|((with_reducible apply tY);exact rfl;(repeat first|exact .hd|apply Sel.tl|apply In.tl);exact rfl;exact rfl)|((with_reducible apply DC);(iterate 3 exact rfl))|((with_reducible apply xX);(iterate 3 exact rfl))|((with_reducible apply ud);exact rfl;exact rfl;(first|assumption|omega))|((with_reducible apply FC);exact rfl;exact rfl;(first|assumption|omega))|((with_reducible apply wy);(iterate 3 exact rfl);(first|assumption|omega))|((with_reducible apply Ba);exact rfl;exact rfl;(first|assumption|omega))|((with_reducible apply Dr);exact rfl;exact rfl;(first|assumption|omega))|((with_reducible apply Bb);exact rfl;exact rfl;(first|assumption|omega))|((with_reducible apply eB);exact rfl)|((with_reducible apply Dx);exact rfl)|((with_reducible apply v_neqpn);exact rfl)))
   |((with_reducible apply dR (i:=1) (j:=3));(iterate 6 exact rfl);decide+kernel)
   |((with_reducible apply dR (i:=1) (j:=6));(iterate 6 exact rfl);decide+kernel)
   |((with_reducible apply dR (i:=1) (j:=8));(iterate 6 exact rfl);decide+kernel)
   |((with_reducible apply bM (i:=1));(iterate 3 exact rfl);decide+kernel)
   |((with_reducible apply bM (i:=3));(iterate 3 exact rfl);decide+kernel)
   |((with_reducible apply bM (i:=6));(iterate 3 exact rfl);decide+kernel)
   |((with_reducible apply bM (i:=8));(iterate 3 exact rfl);decide+kernel)
   |((with_reducible apply bM (i:=9));(iterate 3 exact rfl);decide+kernel)
   |((with_reducible apply bM (i:=11));(iterate 3 exact rfl);decide+kernel)
   |((with_reducible apply nK);decide+kernel)
   |((with_reducible apply CR);(focus ((repeat (first|exact MSub.nil _|refine MSub.pick (by (repeat first|exact .hd|apply Sel.tl|apply In.tl)) ?_|exact MSub.refl _|refine MSub.drop .hd ?_));done)))
   |((with_reducible apply dI (i:=4));(iterate 4 exact rfl);decide+kernel;decide+kernel;decide+kernel;((with_reducible apply ai (j:=0));exact rfl;exact rfl;decide))
   |((with_reducible apply aj (d:=151));exact rfl;(with_reducible apply mN);exact rfl;(repeat first|exact .hd|apply Sel.tl|apply In.tl);exact rfl;exact rfl)
   |((with_reducible apply fH (d:=154) (A:=some gn) (news:=bB F9));(iterate 3 exact rfl);(repeat first|exact .hd|apply Sel.tl|apply In.tl);(repeat first|exact .hd|apply Sel.tl|apply In.tl);exact rfl;(intro u hu;simp [bB,F9] at hu;rcases hu with rfl|rfl|rfl|rfl|rfl|rfl|rfl|rfl<;>rfl);decide;decide;intro gz cz)
   |((with_reducible apply aj);exact rfl;(first|((with_reducible apply Fx);exact rfl)|((with_reducible apply uf);exact rfl)|((with_reducible apply GK);exact rfl)|((with_reducible apply Bj);exact rfl)|((with_reducible apply dK);exact rfl;(repeat first|exact .hd|apply Sel.tl|apply In.tl);exact rfl)|((with_reducible apply FE);exact rfl;exact rfl)|((with_reducible apply v_neqb);exact rfl;exact rfl)|((with_reducible apply tX);exact rfl;(repeat first|exact .hd|apply Sel.tl|apply In.tl);exact rfl)|((with_reducible apply tY);exact rfl;(repeat first|exact .hd|apply Sel.tl|apply In.tl);exact rfl;exact rfl)|((with_reducible apply DC);(iterate 3 exact rfl))))
   |((with_reducible apply Dg);exact rfl;exact rfl)
   |((with_reducible apply AK);(iterate 4 exact rfl))
   |((with_reducible apply AJ);(iterate 3 exact rfl))
   |((with_reducible apply AR);exact rfl;intro _)
   |((with_reducible apply qf);exact rfl;exact rfl;(repeat first|exact .hd|apply Sel.tl|apply In.tl);(iterate 3 exact rfl))
   |((with_reducible apply tN);exact rfl;exact rfl;(repeat first|exact .hd|apply Sel.tl|apply In.tl);(iterate 4 exact rfl))
   |((with_reducible apply qh);(iterate 7 exact rfl);intro _)
   |((with_reducible apply yP)<;>first|exact rfl|(intro hb;(replace hb:=Tidy.out hb;try (exfalso;omega))))
   |(with_reducible first|apply iZ|apply GS|apply Gx|apply AX|apply Gz|apply Fs|apply Fu|apply Dp|apply GQ|apply GU|apply HB|apply Hz|apply HC|apply cut_r|apply cut_e|apply Dk|apply Dl|apply scp_n|apply GY|apply scp_e)
   |((with_reducible apply tU);exact rfl)
   |((with_reducible apply rT);exact rfl)
   |((with_reducible apply Fw)<;>first|exact rfl|(intro hb;(replace hb:=Tidy.out hb;try (exfalso;omega))))
   |((with_reducible apply Hy);exact rfl)
   |((with_reducible apply cH (i:=()))<;>first|exact trivial|((repeat (first|exact Sub.nil _|refine Sub.cons rfl ?_));done)|((repeat (first|exact MSub.nil _|refine MSub.pick (by (repeat first|exact .hd|apply Sel.tl|apply In.tl)) ?_|exact MSub.refl _|refine MSub.drop .hd ?_));done)))
  all_goals
   refine cH (i:=(gz,cz)) trivial (by (repeat (first|exact Sub.nil _|refine Sub.cons rfl ?_))) (by dsimp only;(try unfold aG);(try simp only [List.append_eq,List.cons_append,List.nil_append]);(repeat (first|exact MSub.nil _|refine MSub.pick (by (repeat first|exact .hd|apply Sel.tl|apply In.tl)) ?_|exact MSub.refl _|refine MSub.drop .hd ?_)))
 rintro ⟨gn2,cn2⟩ _
 dsimp only
 unfold aG
 have hLb:=fun (y:Bv) (w' :World) (H:List Blk) (hm:Mem w w' H) (hr:BRd w' kR y)=>sH CT rfl ▸ eR kR y w' hr (hW.next hm) (by decide)
 have hZ1:=fun (w' :World) (H:List Blk) (hm:Mem w w' H)=>Hp ▸ eR iY rF.v w' ⟨bT _,bT _,bT _,bT _,bT _⟩ (hW.next hm) (by decide)
 have hZ2:=fun (y:Bv) (w' :World) (H:List Blk) (hm:Mem w w' H) (hr:BRd w' kR y)=>G9 ▸ mK kR iY y rF.v w' hr ⟨bT _,bT _,bT _,bT _,bT _⟩ (hW.next hm) (by decide) (by decide)
 have hbl:=Gd
 generalize lvB kR=V at hLb hbl
 obtain ⟨hVl,hV⟩:=hbl
 dsimp only at hLb
 repeat' (first
  |((with_reducible apply av (d:=158));exact rfl;exact rfl;(intro w' hm;exact hLb (Bo.v ⟨some ge,ar,some gn2,al,as_,ce,cr,cn2,cl,cs⟩) w' _ hm (BRd.of_rows (b:=kR) (a:=⟨some ge,ar,some gn2,al,as_,ce,cr,cn2,cl,cs⟩) hm (by (repeat first|exact .hd|apply Sel.tl|apply In.tl)) (by (repeat first|exact .hd|apply Sel.tl|apply In.tl)) (by (repeat first|exact .hd|apply Sel.tl|apply In.tl)) (by (repeat first|exact .hd|apply Sel.tl|apply In.tl)) (by (repeat first|exact .hd|apply Sel.tl|apply In.tl))));rintro _ _ ⟨A18,c18,rfl,rfl⟩)
  |((with_reducible apply aj);exact rfl;(first|((with_reducible apply Fx);exact rfl)|((with_reducible apply uf);exact rfl)|((with_reducible apply GK);exact rfl)|((with_reducible apply Bj);exact rfl)|((with_reducible apply dK);exact rfl;(repeat first|exact .hd|apply Sel.tl|apply In.tl);exact rfl)|((with_reducible apply FE);exact rfl;exact rfl)|((with_reducible apply v_neqb);exact rfl;exact rfl)|((with_reducible apply tX);exact rfl;(repeat first|exact .hd|apply Sel.tl|apply In.tl);exact rfl)|((with_reducible apply tY);exact rfl;(repeat first|exact .hd|apply Sel.tl|apply In.tl);exact rfl;exact rfl)|((with_reducible apply DC);(iterate 3 exact rfl))))
  |((with_reducible apply Dg);exact rfl;exact rfl)
  |((with_reducible apply AK);(iterate 4 exact rfl))
  |((with_reducible apply AJ);(iterate 3 exact rfl))
  |((with_reducible apply AR);exact rfl;intro _)
  |((with_reducible apply qf);exact rfl;exact rfl;(repeat first|exact .hd|apply Sel.tl|apply In.tl);(iterate 3 exact rfl))
  |((with_reducible apply tN);exact rfl;exact rfl;(repeat first|exact .hd|apply Sel.tl|apply In.tl);(iterate 4 exact rfl))
  |((with_reducible apply qh);(iterate 7 exact rfl);intro _)
  |((with_reducible apply yP)<;>first|exact rfl|(intro hb;(replace hb:=Tidy.out hb;try (exfalso;omega))))
  |(with_reducible first|apply iZ|apply GS|apply Gx|apply AX|apply Gz|apply Fs|apply Fu|apply Dp|apply GQ|apply GU|apply HB|apply Hz|apply HC|apply cut_r|apply cut_e|apply Dk|apply Dl|apply scp_n|apply GY|apply scp_e)
  |((with_reducible apply tU);exact rfl)
  |((with_reducible apply rT);exact rfl)
  |((with_reducible apply Fw)<;>first|exact rfl|(intro hb;(replace hb:=Tidy.out hb;try (exfalso;omega))))
  |((with_reducible apply Hy);exact rfl)
  |((with_reducible apply cH (i:=()))<;>first|exact trivial|((repeat (first|exact Sub.nil _|refine Sub.cons rfl ?_));done)|((repeat (first|exact MSub.nil _|refine MSub.pick (by (repeat first|exact .hd|apply Sel.tl|apply In.tl)) ?_|exact MSub.refl _|refine MSub.drop .hd ?_));done)))
 all_goals first|(exfalso;omega)|skip
 rename_i g19 g20
 refine ax [1,18,19,20] rfl (fun i:Nat=> [(21,.int .i64 (i:Int))]) (fun _=> .own A18 62 11 V.length c18 (V.flatMap aH):: .own (some g19) 3 1 7 7 (dY zx):: .own (some g20) 3 1 7 7 (dY zH):: .box g1 28 (bn kR (Bo.v ⟨some ge,ar,some gn2,al,as_,ce,cr,cn2,cl,cs⟩))::aG kR ⟨some ge,ar,some gn2,al,as_,ce,cr,cn2,cl,cs⟩) (fun i=>i≤V.length) (fun i=>V.length - i) 0 (H5 _) (by (repeat (first|exact Sub.nil _|refine Sub.cons rfl ?_))) (by unfold aG;(repeat (first|exact MSub.nil _|refine MSub.pick (by (repeat first|exact .hd|apply Sel.tl|apply In.tl)) ?_|exact MSub.refl _|refine MSub.drop .hd ?_))) ?_
 rintro i hi
 try dsimp only at hi ⊢
 by_cases hlt:i<V.length
 ·
  have hi7:i<7:=by omega
  have hvi:=hV ⟨i,hi7⟩
  rw [HY hlt,Jk,Option.some.injEq,Prod.mk.injEq,Prod.mk.injEq,Prod.mk.injEq] at hvi
  obtain ⟨v1,v2,v3,v4⟩:=hvi
  dsimp only at v1 v2 v3 v4
  have hn:(dY zx)[0+i*1]? =some (.int .i64 ((zx[i]?.getD 0:Nat):Int)):=by
   rcases (by omega:i=0∨i=1∨i=2∨i=3∨i=4∨i=5∨i=6) with rfl|rfl|rfl|rfl|rfl|rfl|rfl<;>rfl
  have hg:(dY zH)[0+i*1]? =some (.int .i64 ((zH[i]?.getD 0:Nat):Int)):=by
   rcases (by omega:i=0∨i=1∨i=2∨i=3∨i=4∨i=5∨i=6) with rfl|rfl|rfl|rfl|rfl|rfl|rfl<;>rfl
  have hread:((V.flatMap aH).drop (0+i*11)).take 11=aH V[i]:=by rw [H8];exact cd cf V i hlt
  have hgc:=mE cf V i 9 hlt (by decide)
  generalize V[i]=r at v1 v2 v3 v4 hread hgc
  generalize (zx[i]?.getD 0:Nat)=nd at v3 hn
  generalize (zH[i]?.getD 0:Nat)=gr at v4 hg
  obtain ⟨rs,⟨⟨rc,rr⟩,rn⟩,rf,rre,rg,rt⟩:=r
  dsimp only at v1 v2 v3 v4
  subst v1 v2 v3 v4
  have hcl:((V.flatMap aH).drop (0+i*11+1)).take 3=lK ⟨⟨1,if 1<i then 4 else 3⟩,(nd:Int)⟩:=by
   calc ((V.flatMap aH).drop (0+i*11+1)).take 3=((((V.flatMap aH).drop (0+i*11)).take 11).drop 1).take 3:=by rw [List.drop_take,JG,List.take_take];rfl
    _=_:=by rw [hread];rfl
  have hgc2:(V.flatMap aH)[0+i*11+9]? =some (.int .i64 (gr:Int)):=by rw [show 0+i*11+9=i*11+9 by omega,hgc];rfl
  clear hread hgc hV
  refine ez (A:=A18) (by (repeat first|exact .hd|apply Sel.tl|apply In.tl)) (by omega) fun g18 hA=> ?_
  subst hA
  by_cases h1i:1<i
  all_goals first|rw [if_pos h1i] at hcl|rw [if_neg h1i] at hcl
  all_goals
   repeat' (first
    |((refine jE (id:=38) [] [] [.own (some g18) 62 11 V.length c18 (V.flatMap aH),.own (some g19) 3 1 7 7 (dY zx),.own (some g20) 3 1 7 7 (dY zH)] (by kernel_rfl) (by kernel_rfl) (by kernel_rfl) (by (repeat (first|exact MSub.nil _|refine MSub.pick (by (repeat first|exact .hd|apply Sel.tl|apply In.tl)) ?_|exact MSub.refl _|refine MSub.drop .hd ?_))) ?_))
    |((with_reducible apply gG (d:=182));(iterate 3 exact rfl);(with_reducible apply ai (j:=i));exact rfl;exact rfl;exact hlt)
    |((with_reducible apply gG (d:=184));(iterate 3 exact rfl);(with_reducible apply aR (ys:=lK ⟨⟨1,_⟩,(nd:Int)⟩));exact rfl;(repeat first|exact .hd|apply Sel.tl|apply In.tl);exact hcl;exact rfl)
    |((with_reducible apply gG (d:=189));(iterate 3 exact rfl);(with_reducible apply ai (j:=i));exact rfl;exact rfl;exact hi7)
    |((with_reducible apply gG (d:=190));(iterate 3 exact rfl);(with_reducible apply aP);exact rfl;(repeat first|exact .hd|apply Sel.tl|apply In.tl);exact hn)
    |((with_reducible apply gG (d:=192));(iterate 3 exact rfl);(with_reducible apply rV (a:=⟨⟨1,_⟩,(nd:Int)⟩));exact rfl;exact rfl)
    |((with_reducible apply gG (d:=196));(iterate 3 exact rfl);(with_reducible apply ai (j:=i));exact rfl;exact rfl;exact hlt)
    |((with_reducible apply gG (d:=198));(iterate 3 exact rfl);(with_reducible apply aP);exact rfl;(repeat first|exact .hd|apply Sel.tl|apply In.tl);exact hgc2)
    |((with_reducible apply gG (d:=201));(iterate 3 exact rfl);(with_reducible apply ai (j:=i));exact rfl;exact rfl;exact hi7)
    |((with_reducible apply gG (d:=202));(iterate 3 exact rfl);(with_reducible apply aP);exact rfl;(repeat first|exact .hd|apply Sel.tl|apply In.tl);exact hg)
    |((with_reducible apply gG (d:=203));(iterate 3 exact rfl);(with_reducible apply wA);exact rfl;exact rfl)
    |((with_reducible apply aj);exact rfl;(first|((with_reducible apply Fx);exact rfl)|((with_reducible apply uf);exact rfl)|((with_reducible apply GK);exact rfl)|((with_reducible apply Bj);exact rfl)|((with_reducible apply dK);exact rfl;(repeat first|exact .hd|apply Sel.tl|apply In.tl);exact rfl)|((with_reducible apply FE);exact rfl;exact rfl)|((with_reducible apply v_neqb);exact rfl;exact rfl)|((with_reducible apply tX);exact rfl;(repeat first|exact .hd|apply Sel.tl|apply In.tl);exact rfl)|((with_reducible apply tY);exact rfl;(repeat first|exact .hd|apply Sel.tl|apply In.tl);exact rfl;exact rfl)|((with_reducible apply DC);(iterate 3 exact rfl))))
    |((with_reducible apply Dg);exact rfl;exact rfl)
    |((with_reducible apply AK);(iterate 4 exact rfl))
    |((with_reducible apply AJ);(iterate 3 exact rfl))
    |((with_reducible apply AR);exact rfl;intro _)
    |((with_reducible apply qf);exact rfl;exact rfl;(repeat first|exact .hd|apply Sel.tl|apply In.tl);(iterate 3 exact rfl))
    |((with_reducible apply tN);exact rfl;exact rfl;(repeat first|exact .hd|apply Sel.tl|apply In.tl);(iterate 4 exact rfl))
    |((with_reducible apply qh);(iterate 7 exact rfl);intro _)
    |((with_reducible apply yP)<;>first|exact rfl|(intro hb;(replace hb:=Tidy.out hb;try (exfalso;omega))))
    |(with_reducible first|apply iZ|apply GS|apply Gx|apply AX|apply Gz|apply Fs|apply Fu|apply Dp|apply GQ|apply GU|apply HB|apply Hz|apply HC|apply cut_r|apply cut_e|apply Dk|apply Dl|apply scp_n|apply GY|apply scp_e)
    |((with_reducible apply tU);exact rfl)
    |((with_reducible apply rT);exact rfl)
    |((with_reducible apply Fw)<;>first|exact rfl|(intro hb;(replace hb:=Tidy.out hb;try (exfalso;omega))))
    |((with_reducible apply Hy);exact rfl)
    |((with_reducible apply cH (i:=()))<;>first|exact trivial|((repeat (first|exact Sub.nil _|refine Sub.cons rfl ?_));done)|((repeat (first|exact MSub.nil _|refine MSub.pick (by (repeat first|exact .hd|apply Sel.tl|apply In.tl)) ?_|exact MSub.refl _|refine MSub.drop .hd ?_));done))
    |((with_reducible apply aj);exact rfl;(with_reducible apply jF);exact rfl;exact rfl;(simp only [maxLen] at*;omega))
    |((with_reducible apply aj);exact rfl;(with_reducible apply v_1addN);exact rfl;exact rfl;(simp only [maxLen] at*;omega))
    |((with_reducible apply aj);exact rfl;(with_reducible apply iG);exact rfl;exact rfl;(simp only [maxLen] at*;omega))
    |((with_reducible apply gG);(iterate 3 exact rfl);(first|((with_reducible apply Fx);exact rfl)|((with_reducible apply uf);exact rfl)|((with_reducible apply GK);exact rfl)|((with_reducible apply Bj);exact rfl)|((with_reducible apply dK);exact rfl;(repeat first|exact .hd|apply Sel.tl|apply In.tl);exact rfl)|((with_reducible apply FE);exact rfl;exact rfl)|((with_reducible apply v_neqb);exact rfl;exact rfl)|((with_reducible apply tX);exact rfl;(repeat first|exact .hd|apply Sel.tl|apply In.tl);exact rfl)|((with_reducible apply tY);exact rfl;(repeat first|exact .hd|apply Sel.tl|apply In.tl);exact rfl;exact rfl)|((with_reducible apply DC);(iterate 3 exact rfl))))
    |((with_reducible apply gG);(iterate 3 exact rfl);(with_reducible apply jF);exact rfl;exact rfl;(simp only [maxLen] at*;omega))
    |((with_reducible apply gG);(iterate 3 exact rfl);(with_reducible apply v_1addN);exact rfl;exact rfl;(simp only [maxLen] at*;omega))
    |((with_reducible apply gG);(iterate 3 exact rfl);(with_reducible apply iG);exact rfl;exact rfl;(simp only [maxLen] at*;omega))
    |((with_reducible apply Fq);(iterate 3 exact rfl))
    |((with_reducible apply wc_gno0);exact rfl)
    |((with_reducible apply HE);exact rfl;exact rfl)
    |((with_reducible apply wc_p);(iterate 4 exact rfl);(first|((with_reducible apply Fx);exact rfl)|((with_reducible apply uf);exact rfl)|((with_reducible apply GK);exact rfl)|((with_reducible apply Bj);exact rfl)|((with_reducible apply dK);exact rfl;(repeat first|exact .hd|apply Sel.tl|apply In.tl);exact rfl)|((with_reducible apply FE);exact rfl;exact rfl)|((with_reducible apply v_neqb);exact rfl;exact rfl)|((with_reducible apply tX);exact rfl;(repeat first|exact .hd|apply Sel.tl|apply In.tl);exact rfl)|((with_reducible apply tY);exact rfl;(repeat first|exact .hd|apply Sel.tl|apply In.tl);exact rfl;exact rfl)|((with_reducible apply DC);(iterate 3 exact rfl))))
    |((with_reducible apply yU)<;>first|exact rfl|(intro hb;(replace hb:=Tidy.out hb;try (exfalso;omega))))
    |(with_reducible apply Fp)
    |((with_reducible apply CR);(repeat (first|exact MSub.nil _|refine MSub.pick (by (repeat first|exact .hd|apply Sel.tl|apply In.tl)) ?_|exact MSub.refl _|refine MSub.drop .hd ?_))))
  all_goals first
   |(exfalso;omega)
   |(refine ⟨i+1,hlt,by omega,by (repeat (first|exact Sub.nil _|refine Sub.cons rfl ?_)),by (repeat (first|exact Sub.nil _|refine Sub.cons rfl ?_)),by (try unfold aG);(repeat (first|exact MSub.nil _|refine MSub.pick (by (repeat first|exact .hd|apply Sel.tl|apply In.tl)) ?_|exact MSub.refl _|refine MSub.drop .hd ?_))⟩;done)
 have e:i=V.length:=by omega
 subst e
 unfold aG
 repeat' (first
  |((with_reducible apply av (d:=207));exact rfl;exact rfl;(intro w' hm;exact hZ1 w' _ hm);rintro _ _ ⟨A7,c7,rfl,rfl⟩)
  |((with_reducible apply av (d:=213));exact rfl;exact rfl;(intro w' hm;exact hZ2 (Bo.v ⟨some ge,ar,some gn2,al,as_,ce,cr,cn2,cl,cs⟩) w' _ hm (BRd.of_rows (b:=kR) (a:=⟨some ge,ar,some gn2,al,as_,ce,cr,cn2,cl,cs⟩) hm (by (repeat first|exact .hd|apply Sel.tl|apply In.tl)) (by (repeat first|exact .hd|apply Sel.tl|apply In.tl)) (by (repeat first|exact .hd|apply Sel.tl|apply In.tl)) (by (repeat first|exact .hd|apply Sel.tl|apply In.tl)) (by (repeat first|exact .hd|apply Sel.tl|apply In.tl))));rintro _ _ ⟨A8,c8,rfl,rfl⟩)
  |((with_reducible apply aj);exact rfl;(first|((with_reducible apply Fx);exact rfl)|((with_reducible apply uf);exact rfl)|((with_reducible apply GK);exact rfl)|((with_reducible apply Bj);exact rfl)|((with_reducible apply dK);exact rfl;(repeat first|exact .hd|apply Sel.tl|apply In.tl);exact rfl)|((with_reducible apply FE);exact rfl;exact rfl)|((with_reducible apply v_neqb);exact rfl;exact rfl)|((with_reducible apply tX);exact rfl;(repeat first|exact .hd|apply Sel.tl|apply In.tl);exact rfl)|((with_reducible apply tY);exact rfl;(repeat first|exact .hd|apply Sel.tl|apply In.tl);exact rfl;exact rfl)|((with_reducible apply DC);(iterate 3 exact rfl))))
  |((with_reducible apply Dg);exact rfl;exact rfl)
  |((with_reducible apply AK);(iterate 4 exact rfl))
  |((with_reducible apply AJ);(iterate 3 exact rfl))
  |((with_reducible apply AR);exact rfl;intro _)
  |((with_reducible apply qf);exact rfl;exact rfl;(repeat first|exact .hd|apply Sel.tl|apply In.tl);(iterate 3 exact rfl))
  |((with_reducible apply tN);exact rfl;exact rfl;(repeat first|exact .hd|apply Sel.tl|apply In.tl);(iterate 4 exact rfl))
  |((with_reducible apply qh);(iterate 7 exact rfl);intro _)
  |((with_reducible apply yP)<;>first|exact rfl|(intro hb;(replace hb:=Tidy.out hb;try (exfalso;omega))))
  |(with_reducible first|apply iZ|apply GS|apply Gx|apply AX|apply Gz|apply Fs|apply Fu|apply Dp|apply GQ|apply GU|apply HB|apply Hz|apply HC|apply cut_r|apply cut_e|apply Dk|apply Dl|apply scp_n|apply GY|apply scp_e)
  |((with_reducible apply tU);exact rfl)
  |((with_reducible apply rT);exact rfl)
  |((with_reducible apply Fw)<;>first|exact rfl|(intro hb;(replace hb:=Tidy.out hb;try (exfalso;omega))))
  |((with_reducible apply Hy);exact rfl)
  |((with_reducible apply cH (i:=()))<;>first|exact trivial|((repeat (first|exact Sub.nil _|refine Sub.cons rfl ?_));done)|((repeat (first|exact MSub.nil _|refine MSub.pick (by (repeat first|exact .hd|apply Sel.tl|apply In.tl)) ?_|exact MSub.refl _|refine MSub.drop .hd ?_));done)))
 all_goals first|(exfalso;omega)|(((with_reducible apply bI);exact .inl rfl;exact rfl;exact rfl;exact MSub.nil _);rfl)
end Go.SL
