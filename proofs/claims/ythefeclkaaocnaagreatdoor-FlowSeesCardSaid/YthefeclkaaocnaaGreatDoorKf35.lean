/-
  Lemmas and walks, put together: Nc.
-/
import Derived.Test.YthefeclkaaocnaaGreatDoorKf34
set_option linter.unusedSimpArgs false
set_option linter.unusedVariables false
set_option maxRecDepth 20000
namespace Go.SL
open Go Go.Proofs
attribute [local irreducible] W WL WQ WG WA WX WLI WR WT WC WE VOp RW thn blk bF scp ba aZ bC FnAt FnIn FnP ceP gA cP dR
theorem oR {L:List Rl} {N:List Gn} {ok:Bool} (ho:ok=true) (hL:(dw 64 L).2=0) (hN:(gQ 64 N).2=0):stE ok L N=0:=by
 unfold stE
 rw [if_neg (by rw [ho];decide),if_neg (by rw [hL];decide)];exact hN
theorem JF {G:Gr} {L:List Rl} {N:List Gn} (hL:(dw 64 L).2=0) (hN:(gQ 64 N).2=0) {c:Rf} (hc:c.valid=true):zq G L N c=(dr G (aI L N) c,0):=by
 unfold zq
 rw [if_neg (by rw [oR hc hL hN];decide)]
theorem Py {G:Gr} {L:List Rl} {N:List Gn} (hL:(dw 64 L).2=0) (hN:(gQ 64 N).2=0) {r:Rct} (hr:dY r=0):KD G L N r=(G3 G (aI L N) r,0):=by
 unfold KD
 rw [if_neg (by rw [oR (decide_eq_true hr) hL hN];decide)]
theorem Qg {G:Gr} (hG:GrOk G) {L:List Rl} {N:List Gn} (hL:(dw 64 L).2=0) (hN:(gQ 64 N).2=0) {c:Rf} (hc:c.valid=true) {u:Us} (hu:u∈aK G c) (hp:0≤u.node):LI G L N c u.node=(G3 G (aI L N) u.rect|||(aI L N).to u,0):=by
 unfold LI Si
 rw [if_neg (by rw [oR hc hL hN];decide),(zQ hG hu hp).2.2]
theorem JL {G:Gr} (hG:GrOk G) {L:List Rl} {N:List Gn} (hL:(dw 64 L).2=0) (hN:(gQ 64 N).2=0) {c:Rf} {u:Us} (hu:u∈aK G c) (hp:0≤u.node):(dO u.fn u.rect L N).1=(aI L N).to u∧(dO u.fn u.rect L N).2.2=0:=by
 constructor
 ·
  unfold aI
  dsimp only
  rw [if_neg (by omega)]
 ·
  have h:=zQ hG hu hp
  unfold dO
  rw [if_neg (by omega),if_neg (by rw [jg hG hu];decide),if_neg (by rw [hL];decide),if_neg (by rw [hN];decide)]
theorem MF {L:List Rl} {N:List Gn} {u:Us} (h:u.node<0):(aI L N).to u=0#64:=by
 unfold aI
 dsimp only
 rw [if_pos h]
section
variable {P:Program} {w0:World} {s:aB} {H:List Blk} {ty:TypeId}
theorem j6 {x y:Operand} {a:BitVec 64} {t t' :TypeId} (hx:ev s x=some (vS a)) (hy:ev s y=some (vS a)):VOp P w0 s H (.binOp .neq t x y t') ty (.bool false):=by
 have h:=BG (P:=P) (w0:=w0) (H:=H) (ty:=ty) (t:=t) (t' :=t') hx hy
 rwa [decide_eq_true rfl] at h
end
set_option maxHeartbeats 16000000 in
theorem uR (L:List Et) (R:List Rl) (N:List Gn) (lv rv nv:Value) (w:World) (hl:Reads w lv L.length (L.flatMap du)) (hr:Reads w rv R.length (R.flatMap bM)) (hn:Reads w nv N.length (N.flatMap bp)) (hW:Words w):
  aD Tryz.prog 9 [lv,rv,nv] w (.bool true):=by
 have hg:=fun (w' :World) (H:List Blk) (hm:Mem w w' H)=>mN L R N lv rv nv w' (hl.of_w0 hm) (hr.of_w0 hm) (hn.of_w0 hm)
 have haw:=fun (w' :World) (H:List Blk) (hm:Mem w w' H)=>n9 w' (hW.next hm)
 refine ax Tryz.func9 rfl Tryz.ntmps9 rfl ?_
 cases hgd:tz L R N with
 |false=>
  rw [hgd] at hg
  obtain ⟨Al,cl,rfl, -⟩:=hl
  obtain ⟨Ar,cr,rfl, -⟩:=hr
  obtain ⟨An,cn,rfl, -⟩:=hn
  repeat' (first|(apply aa (f:=32);exact rfl;exact rfl;(intro w' hm;exact hg w' _ hm))|refine sT ?_|refine sS ?_|refine sM fun _=> ?_|(refine sC ?_ ?_<;>intro hb<;>try omega)|fail)
  all_goals first|(exfalso;omega)|((refine rT1 ?_);rfl)|trace_state
 |true=>
  rw [hgd] at hg
  obtain ⟨k1,k2,k3,hL,hN,G,hG,hGo,hGl⟩:=pI hgd
  have hmd:=fun (w' :World) (H:List Blk) (hm:Mem w w' H)=>qi L hG k1 lv w' (hl.of_w0 hm) (hW.next hm)
  obtain ⟨Al,cl,rfl, -⟩:=hl
  have hr2:=hr
  have hn2:=hn
  obtain ⟨Ar,cr,rfl, -⟩:=hr
  obtain ⟨An,cn,rfl, -⟩:=hn
  repeat' (first|(apply aa (f:=32);exact rfl;exact rfl;(intro w' hm;exact hg w' _ hm))|(apply aF (f:=33);exact rfl;exact rfl;(intro w' hm;exact hmd w' _ hm);rintro _ _ ⟨gg,gm,E,clock,Rb,rfl,rfl,hA⟩;refine pW (gB gg gm (E.map En.m) clock++Rb) (MSub.appL _ _) ?_)|(apply au (f:=34);exact rfl;exact rfl;exact (hA.rdr hGo (by omega) gg gm w).fm _ (MSub.refl _);rintro _ _ ⟨Ac,cap,rfl,rfl⟩)|refine sT ?_|refine sS ?_|refine sM fun _=> ?_|(refine sC ?_ ?_<;>intro hb<;>try omega)|fail)
  all_goals try (exfalso;omega)
  have hR:=hA.rdr hGo (by omega) gg gm w
  generalize gB gg gm (E.map En.m) clock++Rb=B at hR ⊢
  obtain ⟨K,hK⟩: ∃ K,aq G=K:=⟨_,rfl⟩
  have hKl:K.length≤900:=by rw [← hK,aq,Uf];omega
  rw [hK]
  refine ay [1,2,7,8] rfl (fun i:Nat=> [(9,.int .i64 (i:Int))]) (fun _=> .own Ac 51 2 K.length cap (K.flatMap aC)::B) (fun i=>i≤K.length) (fun i=>K.length - i) 0 (TW _) sB mS ?_
  rintro i hi
  by_cases hlt:i<K.length
  ·
   refine bK (A:=Ac) pK (by omega) fun gk hA=> ?_
   subst hA
   have hread:=xJ hlt
   have hck:K[i]∈aq G:=by rw [hK];exact UA hlt
   generalize hc:K[i]=c at hread hck
   have hcv:=jr hGo hck
   have hat:=fun (w' :World) (H:List Blk) (hm:Mem w w' H)=>wN c R _ w' (hr2.of_w0 hm)
   rw [(uP hL hcv).2] at hat
   have hst:=K4 (G:=G) (w:=aI R N) (c:=c)
   have hrd:(aI R N).rd c=(atE c R).1.1:=rfl
   rw [hrd] at hst
   generalize (atE c R).1.1=rd at hat hst
   generalize (atE c R).1.2.1=rd2 at hat
   generalize (atE c R).1.2.2=rd3 at hat
   have hlb:=JF (G:=G) hL hN hcv
   have hUl:=kM hGo c
   have hUc:=fun (u:Us) (hu:u∈aK G c) (hp:0≤u.node)=>Qg hGo hL hN hcv hu hp
   have hUf:=fun (u:Us) (hu:u∈aK G c) (hp:0≤u.node)=>JL hGo hL hN hu hp
   have hUr:=fun (u:Us) (hu:u∈aK G c)=>Py (G:=G) hL hN (jg hGo hu)
   have hUs:=hR.us c
   generalize aK G c=U at hst hUl hUc hUf hUr hUs
   obtain ⟨lb,hlbe⟩: ∃ x,dr G (aI R N) c=x:=⟨_,rfl⟩
   rw [hlbe] at hlb hst
   repeat' (first|(apply ak;exact rfl;apply aj (j:=i);exact rfl;exact rfl;exact hlt)|(apply ak;exact rfl;apply aA;exact rfl;exact pK;exact hread;exact rfl)|(apply aa (f:=31);exact rfl;exact rfl;(intro w' hm;exact hat w' _ hm))|(apply au (f:=35);exact rfl;exact rfl;exact tM hlb hR mS Ar An cr cn (fun w' hm=>hr2.of_w0 hm) (fun w' hm=>hn2.of_w0 hm) (by omega);rintro _ _ ⟨rfl,rfl⟩)|(apply au (f:=42);exact rfl;exact rfl;exact hUs _ mS;rintro _ _ ⟨Au,cu,rfl,rfl⟩)|refine sT ?_|refine sS ?_|refine sN ?_|refine sM fun _=> ?_|(refine sC ?_ ?_<;>intro hb<;>try omega)|fail)
   all_goals try (exfalso;omega)
   refine ay [1,2,7,8,9,12,15] rfl (fun k:Nat=> [(14,vS (eO G (aI R N) (dr G (aI R N)) (U.take k) rd)),(16,.int .i64 (k:Int))]) (fun _=> .own Au 100 6 U.length cu (U.flatMap cV):: .own (some gk) 51 2 K.length cap (K.flatMap aC)::B) (fun k=>k≤U.length) (fun k=>U.length - k) 0 (TW _) sB mS ?_
   rintro k hk
   by_cases hltu:k<U.length
   ·
    refine bK (A:=Au) pK (by omega) fun gu hA=> ?_
    subst hA
    have hreadu:=Aq hltu
    have hum:=UA hltu
    have hsn:eO G (aI R N) (dr G (aI R N)) (U.take (k+1)) rd=eO G (aI R N) (dr G (aI R N)) (U.take k) rd &&& (G3 G (aI R N) U[k].rect|||(aI R N).to U[k]):=by rw [TP hltu,xw];rfl
    generalize U[k]=u at hreadu hum hsn
    have hrg:=hUr u hum
    generalize eO G (aI R N) (dr G (aI R N)) (U.take k) rd=acc at hsn ⊢
    by_cases hp:0≤u.node
    ·
     have hcl:=hUc u hum hp
     obtain ⟨hf1,hf2⟩:=hUf u hum hp
     have hfo:=fun (w' :World) (H:List Blk) (hm:Mem w w' H)=>C9 u.fn u.rect R N _ _ w' (hr2.of_w0 hm) (hn2.of_w0 hm) (by omega)
     rw [hf1,hf2] at hfo
     generalize (aI R N).to u=tu at hcl hfo hsn
     generalize G3 G (aI R N) u.rect=ru at hcl hrg hsn
     generalize (dO u.fn u.rect R N).2.1=by_ at hfo
     repeat' (first|(apply ak;exact rfl;apply aj (j:=k);exact rfl;exact rfl;exact hltu)|(apply ak;exact rfl;apply aA;exact rfl;exact pK;exact hreadu;exact rfl)|(apply au (f:=43);exact rfl;exact rfl;exact FW hR mS Ar An cr cn (fun w' hm=>hr2.of_w0 hm) (fun w' hm=>hn2.of_w0 hm) (by omega) hrg;rintro _ _ ⟨rfl,rfl⟩)|(apply aF (f:=44);exact rfl;exact rfl;(intro w' hm;exact hfo w' _ hm);rintro _ _ ⟨Ab,cb,rfl,rfl⟩)|refine sT ?_|refine sS ?_|refine sN ?_|refine sM fun _=> ?_|(refine sC ?_ ?_<;>intro hb<;>try omega)|fail)
     all_goals try (exfalso;omega)
     rename_i g17
     refine fu (id:=23) [10] [] [.box g17 100 (cV u),.own (some gk) 51 2 K.length cap (K.flatMap aC)] (by kernel_rfl) (by kernel_rfl) (by kernel_rfl) mS ?_
     repeat' (first|(apply eG (d:=113);(iterate 3 exact rfl);apply aj (j:=i);exact rfl;exact rfl;exact hlt)|(apply eG (d:=114);(iterate 3 exact rfl);apply aA (ys:=aC c);exact rfl;exact pK;exact hread;exact rfl)|(apply au (f:=45);exact rfl;exact rfl;exact Qv hR mS Ar An cr cn (fun w' hm=>hr2.of_w0 hm) (fun w' hm=>hn2.of_w0 hm) (by omega) hcl;rintro _ _ ⟨rfl,rfl⟩)|(apply ak;exact rfl;apply rf;exact rfl;exact rfl)|(apply ak;exact rfl;apply j6;exact rfl;exact rfl)|(apply ak;exact rfl;apply ng;exact rfl;exact rfl)|refine sT ?_|refine sS ?_|refine sW ?_|refine sN ?_|refine sWN ?_|refine sM fun _=> ?_|(refine sC ?_ ?_<;>intro hb<;>try omega)|(refine sCW ?_ ?_<;>intro hb<;>try omega)|fail)
     all_goals first
      |(exfalso;omega)
      |(refine ⟨k+1,hltu,by omega,by rw [hsn];exact sB,by exact sB,by exact mS⟩;done)
      |trace_state
    ·
     have hto:=MF (L:=R) (N:=N) (show u.node<0 by omega)
     rw [hto,BitVec.or_zero] at hsn
     generalize G3 G (aI R N) u.rect=ru at hrg hsn
     repeat' (first|(apply ak;exact rfl;apply aj (j:=k);exact rfl;exact rfl;exact hltu)|(apply ak;exact rfl;apply aA;exact rfl;exact pK;exact hreadu;exact rfl)|(apply au (f:=43);exact rfl;exact rfl;exact FW hR mS Ar An cr cn (fun w' hm=>hr2.of_w0 hm) (fun w' hm=>hn2.of_w0 hm) (by omega) hrg;rintro _ _ ⟨rfl,rfl⟩)|(apply ak;exact rfl;apply ng;exact rfl;exact rfl)|refine sT ?_|refine sS ?_|refine sN ?_|refine sM fun _=> ?_|(refine sC ?_ ?_<;>intro hb<;>try omega)|fail)
     all_goals first
      |(exfalso;omega)
      |(refine ⟨k+1,hltu,by omega,by rw [hsn];exact sB,by exact sB,by exact mS⟩;done)
      |trace_state
   ·
    have e:k=U.length:=by omega
    subst e
    rw [Ux,← hst]
    repeat' (first|(apply ak;exact rfl;apply j6;exact rfl;exact rfl)|refine sT ?_|refine sS ?_|refine sN ?_|refine sM fun _=> ?_|(refine sC ?_ ?_<;>intro hb<;>try omega)|fail)
    all_goals first
     |(exfalso;omega)
     |(refine ⟨i+1,hlt,by omega,by exact sB,by exact sB,by exact mS⟩;done)
     |trace_state
  ·
   repeat' (first|(apply aa (f:=37);exact rfl;exact rfl;(intro w' hm;exact haw w' _ hm))|refine sT ?_|refine sS ?_|refine sN ?_|refine sM fun _=> ?_|(refine sC ?_ ?_<;>intro hb<;>try omega)|fail)
   all_goals first
    |(exfalso;omega)
    |((refine rT1 ?_);rfl)
    |trace_state
end Go.SL
