/-
  Lemmas and walks, put together: Pf2 Hr Hs Ht.
-/
import Derived.Test.YthefeclkaaocnaaGreatDoorKf32
set_option linter.unusedSimpArgs false
set_option linter.unusedVariables false
set_option maxRecDepth 20000
namespace Go.SL
open Go
def pcL (x:BitVec 64):Nat:=((List.range 64).filter fun i=>x.getLsbD i).length
theorem JN {p q:Nat→Bool} (h: ∀ i,p i=true→q i=true): ∀ l:List Nat,(l.filter p).length≤(l.filter q).length
 | []=>TQ _
 |a::l=>by
  have ih:=JN h l
  rw [Vf,Vf]
  cases hp:p a
  ·
   cases hq:q a<;>simp<;>omega
  ·
   rw [h a hp];simp;omega
theorem JM {p q:Nat→Bool} (h: ∀ i,p i=true→q i=true) {j:Nat} (hp:p j=false) (hq:q j=true): ∀ {l:List Nat},j∈l→(l.filter p).length<(l.filter q).length
 | [],hj=>by cases hj
 |a::l,hj=>by
  have h1:=JN h l
  rw [Vf,Vf]
  rcases TS.1 hj with rfl|hj
  ·
   rw [hp,hq];simp;omega
  ·
   have ih:=JM h hp hq hj
   cases hpa:p a
   ·
    cases hqa:q a<;>simp<;>omega
   ·
    rw [h a hpa];simp;omega
theorem S9 {x:BitVec 64}:pcL x≤64:=by
 have:=VC (fun i=>x.getLsbD i) (List.range 64)
 rw [List.length_range] at this
 exact this
theorem SZ {s x:BitVec 64} (h: ∀ i,s.getLsbD i=true→x.getLsbD i=true) (hne:s≠x):pcL s<pcL x:=by
 have: ∃ i,i<64∧s.getLsbD i≠x.getLsbD i:=Classical.byContradiction fun hn=>hne (VT fun i hi=>Classical.byContradiction fun h2=>hn ⟨i,hi,h2⟩)
 obtain ⟨i,hi,h1⟩:=this
 refine JM h (j:=i) ?_ ?_ (List.mem_range.2 hi)
 ·
  cases h2:s.getLsbD i
  ·
   rfl
  ·
   exact absurd ((h2.trans (h i h2).symm)) h1
 ·
  cases h2:x.getLsbD i
  ·
   cases h3:s.getLsbD i
   ·
    exact absurd (h3.trans h2.symm) h1
   ·
    exact absurd ((h i h3).symm.trans h2) (by decide)
  ·
   rfl
def xv (lab:Rf→BitVec 64) (K:List Rf):Nat:=(K.map fun c=>pcL (lab c)).sum
theorem DP {lab:Rf→BitVec 64}: ∀ K:List Rf,xv lab K≤64*K.length
 | []=>TQ _
 |c::K=>by
  have h:=DP (lab:=lab) K
  have h1:=S9 (x:=lab c)
  simp only [xv,Ud,List.sum_cons,TZ] at h ⊢
  omega
theorem Jo {lab:Rf→BitVec 64} {x:Rf} {s:BitVec 64} (hs:pcL s≤pcL (lab x)): ∀ K:List Rf,xv (zb lab x s) K≤xv lab K
 | []=>TQ _
 |c::K=>by
  have h:=Jo hs K
  simp only [xv,Ud,List.sum_cons] at h ⊢
  by_cases e:c=x
  ·
   subst e;rw [mi];omega
  ·
   rw [iy e];omega
theorem Jn {lab:Rf→BitVec 64} {x:Rf} {s:BitVec 64} (hs:pcL s<pcL (lab x)): ∀ {K:List Rf},x∈K→xv (zb lab x s) K<xv lab K
 | [],h=>by cases h
 |c::K,h=>by
  have h1:=Jo (Nat.le_of_lt hs) K
  by_cases e:c=x
  ·
   subst e
   simp only [xv,Ud,List.sum_cons] at h1 ⊢
   rw [mi];omega
  ·
   have h2:=Jn hs (by rcases TS.1 h with h|h;exact absurd h.symm e;exact h)
   simp only [xv,Ud,List.sum_cons] at h2 ⊢
   rw [iy e];omega
theorem GL {G:Gr} {w:Lw} {lab:Rf→BitVec 64} {U:List Us} {s:BitVec 64} (i:Nat) (h:(eO G w lab U s).getLsbD i=true):s.getLsbD i=true:=(ed.1 h).1
end Go.SL
namespace Go.SL
open Go Go.Proofs
attribute [local irreducible] W WL WQ WG WA WX WLI WR WT WC WE VOp RW thn blk bF scp ba aZ bC FnAt FnIn FnP ceP gA cP dR
def aI (L:List Rl) (N:List Gn):Lw:=⟨fun c=>(atE c L).1.1,fun r=>(ovE r L).1.1,fun u=>if u.node<0 then 0#64 else (dO u.fn u.rect L N).1⟩
def stE (ok:Bool) (L:List Rl) (N:List Gn):Int:=if ok=false then 3 else if (dw 64 L).2≠0 then (dw 64 L).2 else (gQ 64 N).2
theorem yC (L:List Rf): ∀ u∈L.flatMap aC,u.oneCell' =true:=fun u hu=>by
 obtain ⟨c,_,hc⟩:=UM.1 hu
 simp only [aC,TS,Vr,or_false] at hc
 rcases hc with rfl|rfl<;>rfl
theorem EA {f:Rf→Value} {K:List Rf} (hn:K.Nodup) {i:Nat} (h:i<K.length):iA K[i] (f K[i]) (K.take i).length (mapM f (K.take i))=(mapM f (K.take (i+1)),(K.take (i+1)).length):=by
 have h1:K.take (i+1)=K.take i++ [K[i]]:=TP h
 have h2:K[i]∉K.take i:=fun hm=>by
  have h3:=hn.sublist (List.take_sublist (i+1) K)
  rw [h1,Vu] at h3
  exact h3.2.2 _ hm _ TI rfl
 rw [BX h2,tW rfl,h1,TG]
 rfl
set_option maxHeartbeats 16000000 in
theorem MH (gg:Nat) (G:Gr) (B F:List Blk) (w0:World) (R:Rdr gg G B w0) (hB:MSub B F) (ok:Bool) (L:List Rl) (N:List Gn) (Al An:Option Addr) (cl cn:Nat) (hl: ∀ w',Mem w0 w' F→Reads w' (.slice Al L.length cl) L.length (L.flatMap bM)) (hn: ∀ w',Mem w0 w' F→Reads w' (.slice An N.length cn) N.length (N.flatMap bp)) (hN:N.length≤1000000):
  FnIn Tryz.prog 89 [.pointer (some ⟨gg,0,none⟩),.bool ok,.slice Al L.length cl,.slice An N.length cn] w0 F fun v H' =>(stE ok L N≠0∧v= .tuple #[.pointer none,.int .i64 (stE ok L N)]∧H' =F)∨(stE ok L N=0∧ ∃ gb gl gr ga Ac cap,∃ lab:Rf→BitVec 64,∃ SR SA,v= .tuple #[.pointer (some ⟨gb,0,none⟩),.int .i64 0]∧H' = .box gb 164 [.pointer (some ⟨gg,0,none⟩),.slice Al L.length cl,.slice An N.length cn,sl Ac (aq G).length cap,.map (some gl),.map (some gr),.map (some ga)]:: .own Ac 51 2 (aq G).length cap ((aq G).flatMap aC):: .obj gl (aU aY (mapM (fun c=>vS (lab c)) (aq G)) (aq G).length):: .obj gr (aU iR (mapM (fun r=>vS (ovE r L).1.1) SR) (SR).length):: .obj ga (aU kv (mapM (fun a=>vS (dO a.fn a.rect L N).1) SA) (SA).length)::F∧ ∀ c∈aq G,∀ i,(lab c).getLsbD i=true↔seesP G (aI L N) i c):=by
 refine cF Tryz.func89 rfl Tryz.ntmps89 rfl ?_
 have h1:=fun (w' :World) (H:List Blk) (hs:MSub F H) (hm:Mem w0 w' H)=>lR 64 L _ w' (hl w' (hs.use hm))
 have h2:=fun (w' :World) (H:List Blk) (hs:MSub F H) (hm:Mem w0 w' H)=>vG 64 N _ w' (hn w' (hs.use hm))
 have hFm:=R.fm
 have hUs:=R.us
 have hUr:=R.ur
 have hG:=R.g
 have hKn:(aq G).Nodup:=hG.sort.nodup
 have hKl:(aq G).length≤900:=by have:=R.l;rw [aq,Uf];exact this
 have hst:=FlI.start hG (aI L N)
 obtain ⟨K,hKe⟩: ∃ K,aq G=K:=⟨_,rfl⟩
 rw [hKe] at hFm hKn hKl hst
 unfold stE
 generalize (dw 64 L).1=n1 at h1
 generalize (dw 64 L).2=e1 at h1
 generalize (gQ 64 N).1=n2 at h2
 generalize (gQ 64 N).2=e2 at h2
 have hKf:(K.flatMap aC).length=K.length*2:=aR fj K
 cases ok
 ·
  repeat' (first|refine sT ?_|refine sS ?_|refine sM fun _=> ?_|(refine sC ?_ ?_<;>intro hb<;>try omega)|fail)
  all_goals first
   |(exact dc eIO rfl rfl rfl (H' :=F) mS (.inl ⟨by simp,by simp,rfl⟩))
   |trace_state
 repeat' (first|(apply aa (f:=51);exact rfl;exact rfl;(intro w' hm;exact h1 w' _ mS hm))|(apply aa (f:=52);exact rfl;exact rfl;(intro w' hm;exact h2 w' _ mS hm))|(apply au (f:=34);exact rfl;exact rfl;exact hFm _ (MSub.trans hB mS);rintro _ _ ⟨Ac,cap,rfl,rfl⟩)|(apply fS (d:=52) (enc:=aY);exact rfl;intro gl)|(apply fS (d:=53) (enc:=iR);exact rfl;intro gr)|(apply fS (d:=54) (enc:=kv);exact rfl;intro ga)|refine sT ?_|refine sS ?_|refine sM fun _=> ?_|(refine sC ?_ ?_<;>intro hb<;>try omega)|fail)
 all_goals first
  |(exfalso;omega)
  |(exact dc eIO rfl rfl rfl (H' :=F) mS (.inl ⟨by rw [if_neg (by decide),if_pos hb];exact hb,by rw [if_neg (by decide),if_pos hb],rfl⟩))
  |(exact dc eIO rfl rfl rfl (H' :=F) mS (.inl ⟨by rw [if_neg (by decide),if_neg (by omega)];exact hb,by rw [if_neg (by decide),if_neg (by omega)],rfl⟩))
  |skip
 rename_i gb
 refine ay [0,14,60,61] rfl (fun i:Nat=> [(62,.int .i64 (i:Int))]) (fun i=> .box gb 164 [.pointer (some ⟨gg,0,none⟩),.slice Al L.length cl,.slice An N.length cn,sl Ac K.length cap,.map (some gl),.map (some gr),.map (some ga)]:: .own Ac 51 2 K.length cap (K.flatMap aC):: .obj gl (aU aY (mapM (fun c=>vS (atE c L).1.1) (K.take i)) ((K.take i)).length):: .obj gr (aU iR (mapM (fun r=>vS (ovE r L).1.1) ([]:List Rct)) (([]:List Rct)).length):: .obj ga (aU kv (mapM (fun a=>vS (dO a.fn a.rect L N).1) ([]:List Ak)) (([]:List Ak)).length)::F) (fun i=>i≤K.length) (fun i=>K.length - i) 0 (TW _) sB mS ?_
 rintro i hi
 by_cases hlt:i<K.length
 ·
  refine bK (A:=Ac) pK (by omega) fun gk hA=> ?_
  subst hA
  have hread:=xJ hlt
  have hput:=EA (f:=fun c=>vS (atE c L).1.1) hKn hlt
  try dsimp only at hput
  generalize K[i]=c at hread hput
  repeat' (first|(apply ak;exact rfl;apply aj (j:=i);exact rfl;exact rfl;exact hlt)|(apply ak;exact rfl;apply aA;exact rfl;exact pK;exact hread;exact rfl)|refine sT ?_|refine sS ?_|refine sN ?_|refine sM fun _=> ?_|(refine sC ?_ ?_<;>intro hb<;>try omega)|fail)
  all_goals try (exfalso;omega)
  rename_i g16
  refine fu (id:=15) [7,8] [] [.box g16 51 (aC c),.box gb 164 [.pointer (some ⟨gg,0,none⟩),.slice Al L.length cl,.slice An N.length cn,sl (some gk) K.length cap,.map (some gl),.map (some gr),.map (some ga)]] (by kernel_rfl) (by kernel_rfl) (by kernel_rfl) mS ?_
  repeat' (first|(apply au (f:=90);exact rfl;exact rfl;(refine FnIn.msub (xN c L gb _ _ _ _ _ _ _ w0 _ ?_) (MSub.pick pK (MSub.refl _));exact (fun w' hm=>hl w' (MSub.use mS hm)));rintro _ _ ⟨rfl,rfl⟩)|(apply eU (enc:=aY) (k:=c);(iterate 3 exact rfl);exact pK;rw [hput])|refine sT ?_|refine sS ?_|refine sW ?_|refine sN ?_|refine sWN ?_|refine sM fun _=> ?_|(refine sC ?_ ?_<;>intro hb<;>try omega)|(refine sCW ?_ ?_<;>intro hb<;>try omega)|fail)
  all_goals first
   |(exfalso;omega)
   |(refine ⟨i+1,hlt,by omega,by exact sB,by exact sB,by exact mS⟩;done)
   |trace_state
 have hi2:i=K.length:=by omega
 subst hi2
 rw [Ux]
 repeat' (first|(apply fT;exact rfl;intro ge)|(apply eF (n' :=0) (c:=0) (A:=some _) (m:=K.length);(iterate 3 exact rfl);exact pK;(intro w hm;exact Reads.of_own hm pK);exact hKf;exact yC K;omega;(simp only [maxLen];omega);intro At ct hA)|(apply fS (d:=81) (enc:=aY);exact rfl;intro gw)|refine sT ?_|refine sS ?_|refine sN ?_|refine sM fun _=> ?_|(refine sC ?_ ?_<;>intro hb<;>try omega)|fail)
 all_goals try (exfalso;omega)
 simp only [Uc,TL]
 refine ay [0,14,17,18,82,83] rfl (fun i:Nat=> [(84,.int .i64 (i:Int))]) (fun i=> .obj gw (aU aY (mapM (fun _=> .bool true) (K.take i)) ((K.take i)).length):: .own At 51 2 K.length ct (K.flatMap aC):: .box gb 164 [.pointer (some ⟨gg,0,none⟩),.slice Al L.length cl,.slice An N.length cn,sl Ac K.length cap,.map (some gl),.map (some gr),.map (some ga)]:: .own Ac 51 2 K.length cap (K.flatMap aC):: .obj gl (aU aY (mapM (fun c=>vS ((aI L N).rd c)) K) K.length):: .obj gr (aU iR (mapM (fun r=>vS (ovE r L).1.1) ([]:List Rct)) (([]:List Rct)).length):: .obj ga (aU kv (mapM (fun a=>vS (dO a.fn a.rect L N).1) ([]:List Ak)) (([]:List Ak)).length)::F) (fun i=>i≤K.length) (fun i=>K.length - i) 0 (TW _) sB mS ?_
 rintro i hi
 by_cases hlt:i<K.length
 ·
  refine bK (A:=At) pK (by omega) fun gk hA=> ?_
  subst hA
  have hread:=xJ hlt
  have hput:=EA (f:=fun _=>Value.bool true) hKn hlt
  try dsimp only at hput
  generalize K[i]=c at hread hput
  repeat' (first|(apply ak;exact rfl;apply aj (j:=i);exact rfl;exact rfl;exact hlt)|(apply ak;exact rfl;apply aA;exact rfl;exact pK;exact hread;exact rfl)|(apply eU (enc:=aY) (k:=c);(iterate 3 exact rfl);exact pK;rw [hput])|refine sT ?_|refine sS ?_|refine sN ?_|refine sM fun _=> ?_|(refine sC ?_ ?_<;>intro hb<;>try omega)|fail)
  all_goals first
   |(exfalso;omega)
   |(refine ⟨i+1,hlt,by omega,by exact sB,by exact sB,by exact mS⟩;done)
   |trace_state
 have hi2:i=K.length:=by omega
 subst hi2
 rw [Ux]
 repeat' (first|refine sT ?_|refine sS ?_|refine sN ?_|refine sM fun _=> ?_|(refine sC ?_ ?_<;>intro hb<;>try omega)|fail)
 all_goals try (exfalso;omega)
 have hpost:=fun lab (h:FlI G (aI L N) lab [])=>fun c (hc:c∈K) i=>h.done (hKe ▸ hc) i
 by_cases hK0:K.length=0
 ·
  have hKn0:K= []:=UW.1 hK0
  have hst0:FlI G (aI L N) (aI L N).rd []:=hKn0 ▸ hst
  refine ay [14,17] rfl (fun _:Unit=> []) (fun _=> .box gb 164 [.pointer (some ⟨gg,0,none⟩),.slice Al L.length cl,.slice An N.length cn,sl Ac K.length cap,.map (some gl),.map (some gr),.map (some ga)]:: .own Ac 51 2 K.length cap (K.flatMap aC):: .obj gl (aU aY (mapM (fun c=>vS ((aI L N).rd c)) K) K.length):: .obj gr (aU iR (mapM (fun r=>vS (ovE r L).1.1) ([]:List Rct)) (([]:List Rct)).length):: .obj ga (aU kv (mapM (fun a=>vS (dO a.fn a.rect L N).1) ([]:List Ak)) (([]:List Ak)).length)::F) (fun _=>True) (fun _=>0) () trivial sB mS ?_
  rintro _ _
  repeat' (first|refine sT ?_|refine sS ?_|refine sN ?_|refine sM fun _=> ?_|(refine sC ?_ ?_<;>intro hb<;>try omega)|fail)
  all_goals first
   |(exfalso;omega)
   |(subst hKe;exact dc eIO rfl rfl rfl (H' := .box gb 164 [.pointer (some ⟨gg,0,none⟩),.slice Al L.length cl,.slice An N.length cn,sl Ac (aq G).length cap,.map (some gl),.map (some gr),.map (some ga)]:: .own Ac 51 2 (aq G).length cap ((aq G).flatMap aC):: .obj gl (aU aY (mapM (fun c=>vS ((aI L N).rd c)) (aq G)) (aq G).length):: .obj gr (aU iR (mapM (fun r=>vS (ovE r L).1.1) ([]:List Rct)) (([]:List Rct)).length):: .obj ga (aU kv (mapM (fun a=>vS (dO a.fn a.rect L N).1) ([]:List Ak)) (([]:List Ak)).length)::F) mS (.inr ⟨by rw [if_neg (by decide),if_neg (by omega)];omega,gb,gl,gr,ga,Ac,cap,(aI L N).rd,[],[],rfl,rfl,hpost _ hst0⟩))
   |trace_state
 refine bK (A:=At) pK (by omega) fun gt hA=> ?_
 subst hA
 subst hKe
 have hKm:(aq G).length≤1000000:=by omega
 have hUlen:=kM hG
 have hUrl: ∀ r,(eJ G r).length≤900:=fun r=>Uo Kj R.l
 refine ay [0,14,18] rfl (fun y:(Rf→BitVec 64) × Qu × List Rf × (Rf→Bool) × List Rct × List Ak=> [(17,y.2.1.v)]) (fun y=> .obj gw (aU aY (mapM (fun c=> .bool (y.2.2.2.1 c)) (aq G)) (aq G).length):: .own (some y.2.1.g) 51 2 y.2.1.n y.2.1.c y.2.1.ys:: .box gb 164 [.pointer (some ⟨gg,0,none⟩),.slice Al L.length cl,.slice An N.length cn,sl Ac (aq G).length cap,.map (some gl),.map (some gr),.map (some ga)]:: .own Ac 51 2 (aq G).length cap ((aq G).flatMap aC):: .obj gl (aU aY (mapM (fun c=>vS (y.1 c)) (aq G)) (aq G).length):: .obj gr (aU iR (mapM (fun r=>vS (ovE r L).1.1) y.2.2.2.2.1) (y.2.2.2.2.1).length):: .obj ga (aU kv (mapM (fun a=>vS (dO a.fn a.rect L N).1) y.2.2.2.2.2) (y.2.2.2.2.2).length)::F) (fun y=>FlI G (aI L N) y.1 y.2.2.1∧y.2.1.ok aC 2 y.2.2.1∧(∀ c∈aq G,y.2.2.2.1 c=true↔c∈y.2.2.1)∧y.2.1.n+900*xv y.1 (aq G)≤52000000) (fun y=>1000*xv y.1 (aq G)+y.2.2.1.length) ((aI L N).rd,⟨gt,0,0,(aq G).length,ct,(aq G).flatMap aC⟩,aq G,fun _=>true,[],[]) ⟨hst,⟨Nat.zero_le _,fun _=>by rw [Nat.zero_mul],rfl,rfl⟩,fun c hc=>⟨fun _=>hc,fun _=>rfl⟩,by have:=DP (lab:=(aI L N).rd) (aq G);dsimp only;omega⟩ sB mS ?_
 clear hst
 rintro ⟨lab,q,todo,wt,SR,SA⟩ ⟨hI,hq,hwt,hqn⟩
 dsimp only at hI hq hwt hqn ⊢
 have hql:=hq.len
 cases todo with
 |nil=>
  rw [U2] at hql
  repeat' (first|refine sT ?_|refine sS ?_|refine sN ?_|refine sM fun _=> ?_|(refine sC ?_ ?_<;>intro hb<;>try omega)|fail)
  all_goals first
   |(exfalso;omega)
   |(exact dc eIO rfl rfl rfl (H' := .box gb 164 [.pointer (some ⟨gg,0,none⟩),.slice Al L.length cl,.slice An N.length cn,sl Ac (aq G).length cap,.map (some gl),.map (some gr),.map (some ga)]:: .own Ac 51 2 (aq G).length cap ((aq G).flatMap aC):: .obj gl (aU aY (mapM (fun c=>vS (lab c)) (aq G)) (aq G).length):: .obj gr (aU iR (mapM (fun r=>vS (ovE r L).1.1) SR) (SR).length):: .obj ga (aU kv (mapM (fun a=>vS (dO a.fn a.rect L N).1) SA) (SA).length)::F) mS (.inr ⟨by rw [if_neg (by decide),if_neg (by omega)];omega,gb,gl,gr,ga,Ac,cap,lab,SR,SA,rfl,rfl,hpost _ hI⟩))
   |trace_state
 |cons x todo=>
  rw [TZ] at hql
  refine O1 (A:=some q.g) pK fun hle=> ?_
  have hhd:=hq.head rfl hle
  have hp:=hq.pop rfl hle
  have hxK:x∈aq G:=hI.sub x TI
  have hxn:x∉todo:=(VH.1 hI.nd).1
  have hUs1:=hUs x
  have hUl:=hUlen x
  have hput:iA x (.bool false) (aq G).length (mapM (fun c=> .bool (wt c)) (aq G))=(mapM (nj (fun c=> .bool (wt c)) x (.bool false)) (aq G),(aq G).length):=BW hKn hxK
  obtain ⟨wt2,hwe⟩: ∃ f:Rf→Bool,∀ c,f c=if c=x then false else wt c:=⟨_,fun _=>rfl⟩
  have hwt1:nj (fun c=>Value.bool (wt c)) x (.bool false)=fun c=> .bool (wt2 c):=by funext c;unfold nj;rw [hwe];split<;>rfl
  rw [hwt1] at hput
  have hlk:=py (fun c=>vS (lab c)) (aq G) x (vS 0#64)
  rw [if_pos hxK] at hlk
  have hwt3: ∀ c∈aq G,wt2 c=true↔c∈todo:=fun c hc=>by
   rw [hwe]
   split
   ·
    rename_i e;subst e;simp [hxn]
   ·
    rename_i e;rw [hwt c hc];simp [e]
  obtain ⟨U,hU⟩: ∃ U,aK G x=U:=⟨_,rfl⟩
  rw [hU] at hUs1 hUl
  repeat' (first|(apply ak;exact rfl;apply aj (j:=0);exact rfl;exact rfl;omega)|(apply ak;exact rfl;apply aA;exact rfl;exact pK;exact hhd;exact rfl)|(apply ak;exact rfl;apply Qy q;exact rfl;omega;exact hle)|(apply eU (enc:=aY) (k:=x);(iterate 3 exact rfl);exact pK;rw [hput])|(apply aO (d:=106);exact rfl;apply ep (enc:=aY) (k:=x);exact rfl;exact rfl;exact pK;exact hlk)|(apply au (f:=42);exact rfl;exact rfl;exact hUs1 _ (MSub.trans hB mS);rintro _ _ ⟨Au,cu,rfl,rfl⟩)|refine sT ?_|refine sS ?_|refine sQ ?_|refine sN ?_|refine sNQ ?_|refine sD ?_|refine sM fun _=> ?_|(refine sC ?_ ?_<;>intro hb<;>try omega)|(refine sCQ ?_ ?_<;>intro hb<;>try omega)|fail)
  all_goals try (exfalso;omega)
  rename_i g21
  refine ay [0,14,17,18,21,109,110] rfl (fun y:Nat × List Rct × List Ak=> [(22,vS (eO G (aI L N) lab (U.take y.1) (lab x))),(111,.int .i64 (y.1:Int))]) (fun y=> .own Au 100 6 U.length cu (U.flatMap cV):: .box g21 51 (aC x):: .obj gw (aU aY (mapM (fun c=> .bool (wt2 c)) (aq G)) (aq G).length):: .own (some q.g) 51 2 q.n q.c q.ys:: .box gb 164 [.pointer (some ⟨gg,0,none⟩),.slice Al L.length cl,.slice An N.length cn,sl Ac (aq G).length cap,.map (some gl),.map (some gr),.map (some ga)]:: .own Ac 51 2 (aq G).length cap ((aq G).flatMap aC):: .obj gl (aU aY (mapM (fun c=>vS (lab c)) (aq G)) (aq G).length):: .obj gr (aU iR (mapM (fun r=>vS (ovE r L).1.1) y.2.1) (y.2.1).length):: .obj ga (aU kv (mapM (fun a=>vS (dO a.fn a.rect L N).1) y.2.2) (y.2.2).length)::F) (fun y=>y.1≤U.length) (fun y=>U.length - y.1) (0,SR,SA) (TW _) sB mS ?_
  rintro ⟨i,SR2,SA2⟩ hi
  dsimp only at hi ⊢
  by_cases hlt:i<U.length
  ·
   refine bK (A:=Au) .hd (by omega) fun gk hA=> ?_
   subst hA
   have hread:=Aq hlt
   have hsn:eO G (aI L N) lab (U.take (i+1)) (lab x)=eO G (aI L N) lab (U.take i) (lab x) &&& (ovL G (aI L N) lab U[i].rect|||(aI L N).to U[i]):=by rw [TP hlt,xw]
   generalize U[i]=u at hread hsn
   repeat' (first|(apply ak;exact rfl;apply aj (j:=i);exact rfl;exact rfl;exact hlt)|(apply ak;exact rfl;apply aA;exact rfl;exact pK;exact hread;exact rfl)|refine sT ?_|refine sS ?_|refine sN ?_|refine sM fun _=> ?_|(refine sC ?_ ?_<;>intro hb<;>try omega)|fail)
   all_goals try (exfalso;omega)
   rename_i g24
   refine ll (id:=32) [4,7] [.box g24 100 (cV u)] 11 rfl rfl mS ?_
   repeat' (first|(apply bY (i:=0);(iterate 4 exact rfl);decide+kernel;decide+kernel;decide+kernel;(exact vC))|(apply bY (i:=1);(iterate 4 exact rfl);decide+kernel;decide+kernel;decide+kernel;(exact vC))|(apply bY (i:=2);(iterate 4 exact rfl);decide+kernel;decide+kernel;decide+kernel;(exact vC))|(apply bY (i:=3);(iterate 4 exact rfl);decide+kernel;decide+kernel;decide+kernel;(exact vC))|(apply bY (i:=5);(iterate 4 exact rfl);decide+kernel;decide+kernel;decide+kernel;(exact vC))|(apply bY (i:=6);(iterate 4 exact rfl);decide+kernel;decide+kernel;decide+kernel;(exact vC))|(apply bY (i:=8);(iterate 4 exact rfl);decide+kernel;decide+kernel;decide+kernel;(apply rf;exact rfl;exact rfl))|(apply bY (i:=9);(iterate 4 exact rfl);decide+kernel;decide+kernel;decide+kernel;(apply ng;exact rfl;exact rfl))|(apply bY (i:=10);(iterate 4 exact rfl);decide+kernel;decide+kernel;decide+kernel;(apply fX;exact rfl))|(apply iq (i:=4) (j:=7);(iterate 6 exact rfl);decide+kernel)|(apply cG (i:=4);(iterate 3 exact rfl);decide+kernel)|(apply cG (i:=7);(iterate 3 exact rfl);decide+kernel)|(apply lj;decide+kernel)|(apply CN;(focus (exact mS;done)))|(apply au (f:=95);exact rfl;exact rfl;(refine FnIn.msub (yj u.rect gb gl gr ga _ _ _ Ac cap (aq G) L hKm lab _ w0 _ ?_) (MSub.pick pK (MSub.pick pK (MSub.pick pK (MSub.pick pK (MSub.refl _)))));exact (fun w' hm=>hl w' (MSub.use mS hm)));rintro _ _ ⟨rfl,rfl⟩)|(apply au (f:=97);exact rfl;exact rfl;(refine FnIn.msub (NX u gb gl gr ga _ _ _ Ac cap (aq G) L N hN _ w0 _ ?_ ?_) (MSub.pick pK (MSub.pick pK (MSub.refl _)));exact (fun w' hm=>hl w' (MSub.use mS hm));exact (fun w' hm=>hn w' (MSub.use mS hm)));rintro _ _ ⟨SA3,_,rfl,rfl⟩)|refine sT ?_|refine sS ?_|refine sN ?_|refine sM fun _=> ?_|(refine sC ?_ ?_<;>intro hb<;>try omega)|fail)
   all_goals first
    |(exfalso;omega)
    |(refine ⟨(i+1,_,SA3),hlt,by dsimp only;omega,by dsimp only;rw [hsn];exact sB,by exact sB,by exact mS⟩;done)
    |trace_state
  have hi2:i=U.length:=by omega
  subst hi2
  rw [Ux]
  obtain ⟨s,hs⟩: ∃ s,eO G (aI L N) lab U (lab x)=s:=⟨_,rfl⟩
  rw [hs]
  have hfx:eO G (aI L N) lab (aK G x) (lab x)=s:=by rw [hU];exact hs
  have hput2:iA x (vS s) (aq G).length (mapM (fun c=>vS (lab c)) (aq G))=(mapM (nj (fun c=>vS (lab c)) x (vS s)) (aq G),(aq G).length):=BW hKn hxK
  have hup2:nj (fun c=>vS (lab c)) x (vS s)=fun c=>vS (zb lab x s c):=by funext c;unfold nj zb;split<;>rfl
  rw [hup2] at hput2
  have hOne:=OG x
  have hUr1:=hUr (fR x.col x.row)
  have hUrl1:=hUrl (fR x.col x.row)
  have hturn:=fun (todo' :List Rf) h1 h2 h3 h4=>FlI.turn (todo' :=todo') hG hI h1 h2 h3 h4
  rw [hfx] at hturn
  have hUk: ∀ c∈eJ G (fR x.col x.row),c∈aq G:=fun c hc=>((zT hG (jr hG hxK)).1 hc).1
  generalize eJ G (fR x.col x.row)=V at hUr1 hUrl1 hturn hUk
  repeat' (first|(apply aO (d:=132);exact rfl;apply ep (enc:=aY) (k:=x);exact rfl;exact rfl;exact pK;exact hlk)|(apply aO (d:=133);exact rfl;apply p9;exact rfl;exact rfl)|(refine fu (id:=35) [6] [] [.box g21 51 (aC x),.box gb 164 [.pointer (some ⟨gg,0,none⟩),.slice Al L.length cl,.slice An N.length cn,sl Ac (aq G).length cap,.map (some gl),.map (some gr),.map (some ga)]] (by kernel_rfl) (by kernel_rfl) (by kernel_rfl) mS ?_)|(apply eU (enc:=aY) (k:=x);(iterate 3 exact rfl);exact pK;rw [hput2])|(apply aa;exact rfl;exact rfl;(intro w hm;exact hOne w))|(apply au (f:=139);exact rfl;exact rfl;exact hUr1 _ (MSub.trans hB mS);rintro _ _ ⟨Av,cv,rfl,rfl⟩)|refine sT ?_|refine sS ?_|refine sQ ?_|refine sW ?_|refine sN ?_|refine sNQ ?_|refine sWN ?_|refine sD ?_|refine sM fun _=> ?_|(refine sC ?_ ?_<;>intro hb<;>try omega)|(refine sCQ ?_ ?_<;>intro hb<;>try omega)|(refine sCW ?_ ?_<;>intro hb<;>try omega)|fail)
  all_goals first
   |(exfalso;omega)
   |(refine ⟨(lab,q.pop 2,todo,wt2,SR2,SA2),⟨hI.skip (hfx.trans hb),hp,hwt3,hqn⟩,by dsimp only;rw [List.length_cons];omega,by exact sB,by exact sB,by exact mS⟩;done)
   |skip
  have hsum:=Jn (SZ (fun i hi=>by rw [← hs] at hi;exact GL i hi) hb) hxK
  refine ay [0,14,18,143,144] rfl (fun y:Nat × Qu × List Rf × (Rf→Bool)=> [(17,y.2.1.v),(145,.int .i64 (y.1:Int))]) (fun y=> .own Av 51 2 V.length cv (V.flatMap aC):: .obj gw (aU aY (mapM (fun c=> .bool (y.2.2.2 c)) (aq G)) (aq G).length):: .own (some y.2.1.g) 51 2 y.2.1.n y.2.1.c y.2.1.ys:: .box gb 164 [.pointer (some ⟨gg,0,none⟩),.slice Al L.length cl,.slice An N.length cn,sl Ac (aq G).length cap,.map (some gl),.map (some gr),.map (some ga)]:: .own Ac 51 2 (aq G).length cap ((aq G).flatMap aC):: .obj gl (aU aY (mapM (fun c=>vS (zb lab x s c)) (aq G)) (aq G).length):: .obj gr (aU iR (mapM (fun r=>vS (ovE r L).1.1) SR2) (SR2).length):: .obj ga (aU kv (mapM (fun a=>vS (dO a.fn a.rect L N).1) SA2) (SA2).length)::F) (fun y=>y.1≤V.length∧y.2.2.1.Nodup∧(∀ c∈y.2.2.1,c∈aq G)∧(∀ c∈todo,c∈y.2.2.1)∧(∀ j (h:j<V.length),j<y.1→V[j]∈y.2.2.1)∧y.2.1.ok aC 2 y.2.2.1∧(∀ c∈aq G,y.2.2.2 c=true↔c∈y.2.2.1)∧y.2.1.n≤q.n+y.1) (fun y=>V.length - y.1) (0,q.pop 2,todo,wt2) ⟨TW _,(VH.1 hI.nd).2,fun c hc=>hI.sub c (TM _ hc),fun _ h=>h,fun j _ h=>absurd h (Wr _),hp,hwt3,TQ _⟩ sB mS ?_
  rintro ⟨k,q3,todo3,wt4⟩ ⟨hk,hnd,hsb,hold,hin,hq3,hw4,hqn3⟩
  dsimp only at hk hnd hsb hold hin hq3 hw4 hqn3 ⊢
  have hq3l:=hq3.len
  have htl:todo3.length≤900:=Uo (E0 hG hnd hsb) R.l
  by_cases hkl:k<V.length
  ·
   refine bK (A:=Av) .hd (by omega) fun gk hA=> ?_
   subst hA
   have hread:=xJ hkl
   have hck:=hUk _ (UA hkl)
   have hstep: ∀ T:List Rf,(∀ d∈todo3,d∈T)→V[k]∈T→ ∀ j (h:j<V.length),j<k+1→V[j]∈T:=fun T h1 h2 j h3 h4=>by
    by_cases e:j=k
    ·
     subst e;exact h2
    ·
     exact h1 _ (hin j h3 (by omega))
   generalize V[k]=c at hread hck hstep
   have hlk3:=py (fun c=>Value.bool (wt4 c)) (aq G) c (.bool false)
   rw [if_pos hck] at hlk3
   cases hwc:wt4 c with
   |true=>
    rw [hwc] at hlk3
    have hct:=(hw4 c hck).1 hwc
    repeat' (first|(apply ak;exact rfl;apply aj (j:=k);exact rfl;exact rfl;exact hkl)|(apply ak;exact rfl;apply aA;exact rfl;exact pK;exact hread;exact rfl)|(apply ak;exact rfl;apply ep (enc:=aY) (k:=c);exact rfl;exact rfl;exact pK;exact hlk3)|refine sT ?_|refine sS ?_|refine sN ?_|refine sM fun _=> ?_|(refine sC ?_ ?_<;>intro hb<;>try omega)|fail)
    all_goals first
     |(exfalso;omega)
     |(refine ⟨(k+1,q3,todo3,wt4),⟨hkl,hnd,hsb,hold,hstep _ (fun _ h=>h) hct,hq3,hw4,by dsimp only;omega⟩,by dsimp only;omega,by exact sB,by exact sB,by exact mS⟩;done)
     |trace_state
   |false=>
    rw [hwc] at hlk3
    have hcn:c∉todo3:=fun h=>by rw [(hw4 c hck).2 h] at hwc;cases hwc
    obtain ⟨wt5,hw5⟩: ∃ f:Rf→Bool,∀ d,f d=if d=c then true else wt4 d:=⟨_,fun _=>rfl⟩
    have hput3:iA c (.bool true) (aq G).length (mapM (fun c=> .bool (wt4 c)) (aq G))=(mapM (nj (fun c=> .bool (wt4 c)) c (.bool true)) (aq G),(aq G).length):=BW hKn hck
    have hup3:nj (fun c=>Value.bool (wt4 c)) c (.bool true)=fun c=> .bool (wt5 c):=by funext d;unfold nj;rw [hw5];split<;>rfl
    rw [hup3] at hput3
    have hw6: ∀ d∈aq G,wt5 d=true↔d∈todo3++ [c]:=fun d hd=>by
     rw [hw5,Ub,TX]
     split
     ·
      rename_i e;simp [e]
     ·
      rename_i e;rw [hw4 d hd];simp [e]
    obtain ⟨qg,qoff,qk,qn,qc,qys⟩:=q3
    obtain ⟨hq1,hq2,hq3,hq4⟩:=hq3
    dsimp only at hq1 hq2 hq3 hq4 hqn3 ⊢
    simp only [Qu.v]
    repeat' (first|(apply ak;exact rfl;apply aj (j:=k);exact rfl;exact rfl;exact hkl)|(apply ak;exact rfl;apply aA;exact rfl;exact pK;exact hread;exact rfl)|(apply ak;exact rfl;apply ep (enc:=aY) (k:=c);exact rfl;exact rfl;exact pK;exact hlk3)|(apply eU (enc:=aY) (k:=c);(iterate 3 exact rfl);exact pK;rw [hput3])|(apply wT;exact rfl;exact rfl;exact hq1;exact hq2;exact rfl;exact pK;exact pK;exact rfl;(simp [Value.oneCell',aC]);omega;(simp only [maxLen];omega);intro g' off' k' n2 c2 ys hk2 hoff2 hlen2 hn2 hys2)|refine sT ?_|refine sS ?_|refine sN ?_|refine sM fun _=> ?_|(refine sC ?_ ?_<;>intro hb<;>try omega)|fail)
    all_goals first
     |(exfalso;omega)
     |(refine ⟨(k+1,⟨g',off',k',n2,c2,ys⟩,todo3++ [c],wt5),⟨hkl,List.nodup_append.2 ⟨hnd,List.pairwise_singleton _ _,fun a ha b hb e=>hcn (by rw [List.mem_singleton.1 hb] at e;exact e ▸ ha)⟩,(fun d hd=>by rcases List.mem_append.1 hd with hd|hd;exact hsb d hd;rw [List.mem_singleton.1 hd];exact hck),(fun d hd=>List.mem_append_left _ (hold d hd)),hstep _ (fun _ h=>List.mem_append_left _ h) (List.mem_append_right _ List.mem_cons_self),⟨hk2,hoff2,(by rw [List.length_append];exact hlen2.trans (by rw [hq3];rfl)),(by rw [hys2,hq4,List.flatMap_append];rfl)⟩,hw6,by dsimp only;omega⟩,by dsimp only;omega,by exact sB,by exact sB,by exact mS⟩;done)
     |trace_state
  ·
   have hk2:k=V.length:=by omega
   subst hk2
   have hI2:=hturn todo3 hnd hsb hold fun c hc=>by
    obtain ⟨j,hj,rfl⟩:=UY hc
    exact hin j hj hj
   repeat' (first|refine sT ?_|refine sS ?_|refine sN ?_|refine sM fun _=> ?_|(refine sC ?_ ?_<;>intro hb<;>try omega)|fail)
   all_goals first
    |(exfalso;omega)
    |(refine ⟨(zb lab x s,q3,todo3,wt4,SR2,SA2),⟨hI2,hq3,hw4,by dsimp only;omega⟩,by dsimp only;rw [List.length_cons];omega,by exact sB,by exact sB,by exact mS⟩;done)
    |trace_state
noncomputable def dr (G:Gr) (w:Lw) (a:Rf):BitVec 64:=(BitVec.ofBoolListLE ((List.range 64).map fun i=> @decide (seesP G w i a) (Classical.propDecidable _))).cast (by simp)
theorem iQ {G:Gr} {w:Lw} {a:Rf} {i:Nat}:(dr G w a).getLsbD i=true↔seesP G w i a:=by
 unfold dr
 rw [BitVec.getLsbD_cast,BitVec.getLsbD_ofBoolListLE,Ui]
 by_cases hi:i<64
 ·
  rw [Uq,List.getElem?_range hi]
  simp
 ·
  rw [UN (by simpa using hi)]
  refine ⟨fun h=>absurd h (by decide),fun h=> ?_⟩
  have:=h.out.1
  rw [BitVec.getLsbD_of_ge _ _ (by omega)] at this
  cases this
theorem H6 {G:Gr} {w:Lw} {a:Rf} (h:a∉aq G):dr G w a=w.rd a:=jN fun _=>iQ.trans (GU h)
theorem H4 {κ:Type} [DecidableEq κ] {f g:κ→Value} {S:List κ} (h: ∀ c∈S,f c=g c):mapM f S=mapM g S:=by
 apply Vv
 intro i
 rw [jK,jK]
 cases hS:S[i]? with
 |none=>rfl
 |some a=>simp [h a (Vp hS)]
theorem oQ (gg:Nat) (G:Gr) (B F:List Blk) (w0:World) (R:Rdr gg G B w0) (hB:MSub B F) (ok:Bool) (L:List Rl) (N:List Gn) (Al An:Option Addr) (cl cn:Nat) (hl: ∀ w',Mem w0 w' F→Reads w' (.slice Al L.length cl) L.length (L.flatMap bM)) (hn: ∀ w',Mem w0 w' F→Reads w' (.slice An N.length cn) N.length (N.flatMap bp)) (hN:N.length≤1000000):
  FnIn Tryz.prog 89 [.pointer (some ⟨gg,0,none⟩),.bool ok,.slice Al L.length cl,.slice An N.length cn] w0 F fun v H' =>(stE ok L N≠0∧v= .tuple #[.pointer none,.int .i64 (stE ok L N)]∧H' =F)∨(stE ok L N=0∧ ∃ gb gl gr ga Ac cap SR SA,v= .tuple #[.pointer (some ⟨gb,0,none⟩),.int .i64 0]∧H' = .box gb 164 [.pointer (some ⟨gg,0,none⟩),.slice Al L.length cl,.slice An N.length cn,sl Ac (aq G).length cap,.map (some gl),.map (some gr),.map (some ga)]:: .own Ac 51 2 (aq G).length cap ((aq G).flatMap aC):: .obj gl (aU aY (mapM (fun c=>vS (dr G (aI L N) c)) (aq G)) (aq G).length):: .obj gr (aU iR (mapM (fun r=>vS (ovE r L).1.1) SR) (SR).length):: .obj ga (aU kv (mapM (fun a=>vS (dO a.fn a.rect L N).1) SA) (SA).length)::F):=by
 refine (MH gg G B F w0 R hB ok L N Al An cl cn hl hn hN).mono fun v H' h=> ?_
 rcases h with h|⟨he,gb,gl,gr,ga,Ac,cap,lab,SR,SA,hv,hH,hlab⟩
 ·
  exact .inl h
 ·
  refine .inr ⟨he,gb,gl,gr,ga,Ac,cap,SR,SA,hv,?_⟩
  have e:mapM (fun c=>vS (lab c)) (aq G)=mapM (fun c=>vS (dr G (aI L N) c)) (aq G):=H4 fun c hc=>congrArg vS (jN fun i=>(hlab c hc i).trans iQ.symm)
  rw [hH,e]
noncomputable def zq (G:Gr) (L:List Rl) (N:List Gn) (a:Rf):BitVec 64 × Int:=if stE a.valid L N≠0 then (0#64,stE a.valid L N) else (dr G (aI L N) a,0)
set_option maxHeartbeats 8000000 in
theorem OI (a:Rf) (gg:Nat) (G:Gr) (B F:List Blk) (w0:World) (R:Rdr gg G B w0) (hB:MSub B F) (L:List Rl) (N:List Gn) (Al An:Option Addr) (cl cn:Nat) (hl: ∀ w',Mem w0 w' F→Reads w' (.slice Al L.length cl) L.length (L.flatMap bM)) (hn: ∀ w',Mem w0 w' F→Reads w' (.slice An N.length cn) N.length (N.flatMap bp)) (hN:N.length≤1000000):FnIn Tryz.prog 35 [.pointer (some ⟨gg,0,none⟩),aY a,.slice Al L.length cl,.slice An N.length cn] w0 F fun v H' =>v= .tuple #[vS (zq G L N a).1,.int .i64 (zq G L N a).2]∧H' =F:=by
 refine cF Tryz.func35 rfl Tryz.ntmps35 rfl ?_
 have hst:=fun (ok:Bool) (F2:List Blk) (h:MSub B F2) (h' :MSub F F2)=>oQ gg G B F2 w0 R h ok L N Al An cl cn (fun w' hm=>hl w' (h'.use hm)) (fun w' hm=>hn w' (h'.use hm)) hN
 have hva:=fun w=>iJ a.col a.row w
 have hv:a.valid=valid a.col a.row:=rfl
 unfold zq
 rw [hv]
 have hst:=hst (valid a.col a.row)
 generalize valid a.col a.row=ok at hst hva
 generalize stE ok L N=e at hst
 have hlk:=rE (fun c=>vS (dr G (aI L N) c)) (aq G) a (vS 0#64)
 by_cases ha:a∈aq G
 ·
  rw [if_pos ha,decide_eq_true ha] at hlk
  repeat' (first|(apply aa;exact rfl;exact rfl;(intro w hm;exact hva w))|(apply au (f:=89);exact rfl;exact rfl;exact hst _ (MSub.trans hB mS) mS;rintro _ _ (⟨he,rfl,rfl⟩|⟨he,gb,gl,gr,ga,Ac,cap,SR,SA,rfl,rfl⟩))|(apply aO (d:=32);exact rfl;apply fV (enc:=aY) (k:=a);exact rfl;exact rfl;exact pK;exact hlk)|refine sT ?_|refine sS ?_|refine sQ ?_|refine sD ?_|refine sM fun _=> ?_|(refine sC ?_ ?_<;>intro hb<;>try omega)|(refine sCQ ?_ ?_<;>intro hb<;>try omega)|fail)
  all_goals first
   |(exfalso;omega)
   |(rw [if_pos he];exact dc eIO rfl rfl rfl (H' :=F) mS ⟨rfl,rfl⟩)
   |(rw [if_neg (by omega)];exact dc eIO rfl rfl rfl (H' :=F) mS ⟨rfl,rfl⟩)
   |trace_state
 ·
  rw [if_neg ha,decide_eq_false ha] at hlk
  rw [H6 ha]
  repeat' (first|(apply aa;exact rfl;exact rfl;(intro w hm;exact hva w))|(apply au (f:=89);exact rfl;exact rfl;exact hst _ (MSub.trans hB mS) mS;rintro _ _ (⟨he,rfl,rfl⟩|⟨he,gb,gl,gr,ga,Ac,cap,SR,SA,rfl,rfl⟩))|(apply aO (d:=32);exact rfl;apply fV (enc:=aY) (k:=a);exact rfl;exact rfl;exact pK;exact hlk)|(apply au (f:=90);exact rfl;exact rfl;(refine FnIn.msub (xN a L gb _ _ _ _ _ _ _ w0 _ ?_) (MSub.pick pK (MSub.refl _));exact (fun w' hm=>hl w' (MSub.use mS hm)));rintro _ _ ⟨rfl,rfl⟩)|refine sT ?_|refine sS ?_|refine sQ ?_|refine sD ?_|refine sM fun _=> ?_|(refine sC ?_ ?_<;>intro hb<;>try omega)|(refine sCQ ?_ ?_<;>intro hb<;>try omega)|fail)
  all_goals first
   |(exfalso;omega)
   |(rw [if_pos he];exact dc eIO rfl rfl rfl (H' :=F) mS ⟨rfl,rfl⟩)
   |(rw [if_neg (by omega)];exact dc eIO rfl rfl rfl (H' :=F) mS ⟨rfl,rfl⟩)
   |trace_state
noncomputable def G3 (G:Gr) (w:Lw) (r:Rct):BitVec 64:=ovL G w (dr G w) r
noncomputable def KD (G:Gr) (L:List Rl) (N:List Gn) (r:Rct):BitVec 64 × Int:=if stE (decide (dY r=0)) L N≠0 then (0#64,stE (decide (dY r=0)) L N) else (G3 G (aI L N) r,0)
set_option maxHeartbeats 8000000 in
theorem OE (r:Rct) (gg:Nat) (G:Gr) (B F:List Blk) (w0:World) (R:Rdr gg G B w0) (hB:MSub B F) (L:List Rl) (N:List Gn) (Al An:Option Addr) (cl cn:Nat) (hl: ∀ w',Mem w0 w' F→Reads w' (.slice Al L.length cl) L.length (L.flatMap bM)) (hn: ∀ w',Mem w0 w' F→Reads w' (.slice An N.length cn) N.length (N.flatMap bp)) (hN:N.length≤1000000):FnIn Tryz.prog 43 [.pointer (some ⟨gg,0,none⟩),.agg (aN r).toArray,.slice Al L.length cl,.slice An N.length cn] w0 F fun v H' =>v= .tuple #[vS (KD G L N r).1,.int .i64 (KD G L N r).2]∧H' =F:=by
 refine cF Tryz.func43 rfl Tryz.ntmps43 rfl ?_
 have hst:=fun (ok:Bool) (F2:List Blk) (h:MSub B F2) (h' :MSub F F2)=>oQ gg G B F2 w0 R h ok L N Al An cl cn (fun w' hm=>hl w' (h'.use hm)) (fun w' hm=>hn w' (h'.use hm)) hN
 have hre:=fun w=>ko r w
 have hKm:(aq G).length≤1000000:=by have:=R.l;rw [aq,Uf];omega
 unfold KD
 generalize dY r=z at hre
 have hst:=hst (decide (z=0))
 generalize stE (decide (z=0)) L N=e at hst
 repeat' (first|(apply aa;exact rfl;exact rfl;(intro w hm;exact hre w))|(apply au (f:=89);exact rfl;exact rfl;exact hst _ (MSub.trans hB mS) mS;rintro _ _ (⟨he,rfl,rfl⟩|⟨he,gb,gl,gr,ga,Ac,cap,SR,SA,rfl,rfl⟩))|(apply au (f:=95);exact rfl;exact rfl;(refine FnIn.msub (yj r gb gl gr ga _ _ _ Ac cap (aq G) L hKm (dr G (aI L N)) _ w0 _ ?_) (MSub.pick pK (MSub.pick pK (MSub.pick pK (MSub.pick pK (MSub.refl _)))));exact (fun w' hm=>hl w' (MSub.use mS hm)));rintro _ _ ⟨rfl,rfl⟩)|refine sT ?_|refine sS ?_|refine sM fun _=> ?_|(refine sC ?_ ?_<;>intro hb<;>try omega)|fail)
 all_goals first
  |(exfalso;omega)
  |(rw [if_pos he];exact dc eIO rfl rfl rfl (H' :=F) mS ⟨rfl,rfl⟩)
  |(rw [if_neg (by omega)];exact dc eIO rfl rfl rfl (H' :=F) mS ⟨rfl,rfl⟩)
  |trace_state
def jR (n:Int) (u:Us):Bool:=decide (0≤u.node) && decide (u.node=n)
noncomputable def Si (G:Gr) (w:Lw) (a:Rf) (n:Int):BitVec 64 × Int:=match (aK G a).find? (jR n) with|some u=>(G3 G w u.rect|||w.to u,0)|none=>(0#64,6)
noncomputable def LI (G:Gr) (L:List Rl) (N:List Gn) (a:Rf) (n:Int):BitVec 64 × Int:=if stE a.valid L N≠0 then (0#64,stE a.valid L N) else Si G (aI L N) a n
set_option maxHeartbeats 8000000 in
theorem Qw (a:Rf) (n:Int) (gg:Nat) (G:Gr) (B F:List Blk) (w0:World) (R:Rdr gg G B w0) (hB:MSub B F) (L:List Rl) (N:List Gn) (Al An:Option Addr) (cl cn:Nat) (hl: ∀ w',Mem w0 w' F→Reads w' (.slice Al L.length cl) L.length (L.flatMap bM)) (hn: ∀ w',Mem w0 w' F→Reads w' (.slice An N.length cn) N.length (N.flatMap bp)) (hN:N.length≤1000000):FnIn Tryz.prog 45 [.pointer (some ⟨gg,0,none⟩),.agg #[.int .i64 a.col,.int .i64 a.row,.int .i64 n],.slice Al L.length cl,.slice An N.length cn] w0 F fun v H' =>v= .tuple #[vS (LI G L N a n).1,.int .i64 (LI G L N a n).2]∧H' =F:=by
 refine cF Tryz.func45 rfl Tryz.ntmps45 rfl ?_
 have hst:=fun (ok:Bool) (F2:List Blk) (h:MSub B F2) (h' :MSub F F2)=>oQ gg G B F2 w0 R h ok L N Al An cl cn (fun w' hm=>hl w' (h'.use hm)) (fun w' hm=>hn w' (h'.use hm)) hN
 have hva:=fun w=>iJ a.col a.row w
 have hv:a.valid=valid a.col a.row:=rfl
 have hKm:(aq G).length≤1000000:=by have:=R.l;rw [aq,Uf];omega
 have hUs:=R.us a
 have hUl:=kM R.g a
 unfold LI Si
 rw [hv]
 have hst:=hst (valid a.col a.row)
 generalize valid a.col a.row=ok at hst hva
 generalize stE ok L N=e at hst
 generalize aK G a=U at hUs hUl
 repeat' (first|(apply aa;exact rfl;exact rfl;(intro w hm;exact hva w))|(apply au (f:=89);exact rfl;exact rfl;exact hst _ (MSub.trans hB mS) mS;rintro _ _ (⟨he,rfl,rfl⟩|⟨he,gb,gl,gr,ga,Ac,cap,SR,SA,rfl,rfl⟩))|(apply au (f:=42);exact rfl;exact rfl;exact hUs _ (MSub.trans hB mS);rintro _ _ ⟨Au,cu,rfl,rfl⟩)|refine sT ?_|refine sS ?_|refine sM fun _=> ?_|(refine sC ?_ ?_<;>intro hb<;>try omega)|fail)
 all_goals first
  |(exfalso;omega)
  |(rw [if_pos he];exact dc eIO rfl rfl rfl (H' :=F) mS ⟨rfl,rfl⟩)
  |skip
 rw [if_neg (by omega)]
 rename_i g5
 refine ay [0,5,10,30,31] rfl (fun i:Nat=> [(32,.int .i64 (i:Int))]) (fun i=> .own Au 100 6 U.length cu (U.flatMap cV):: .box g5 68 [.int .i64 a.col,.int .i64 a.row,.int .i64 n]:: .box gb 164 [.pointer (some ⟨gg,0,none⟩),.slice Al L.length cl,.slice An N.length cn,sl Ac (aq G).length cap,.map (some gl),.map (some gr),.map (some ga)]:: .own Ac 51 2 (aq G).length cap ((aq G).flatMap aC):: .obj gl (aU aY (mapM (fun c=>vS (dr G (aI L N) c)) (aq G)) (aq G).length):: .obj gr (aU iR (mapM (fun r=>vS (ovE r L).1.1) SR) (SR).length):: .obj ga (aU kv (mapM (fun a=>vS (dO a.fn a.rect L N).1) SA) (SA).length)::F) (fun i=>i≤U.length∧U.find? (jR n)=(U.drop i).find? (jR n)) (fun i=>U.length - i) 0 ⟨TW _,rfl⟩ sB mS ?_
 rintro i ⟨hi,hfd⟩
 by_cases hlt:i<U.length
 ·
  refine bK (A:=Au) pK (by omega) fun gk hA=> ?_
  subst hA
  have hread:=Aq hlt
  rw [TN hlt,List.find?_cons] at hfd
  generalize U[i]=u at hread hfd
  by_cases c1:0≤u.node∧u.node=n
  ·
   have hp:jR n u=true:=by simp only [jR,decide_eq_true c1.1,decide_eq_true c1.2,Bool.and_self]
   rw [hp] at hfd
   rw [hfd]
   repeat' (first|(apply ak;exact rfl;apply aj (j:=i);exact rfl;exact rfl;exact hlt)|(apply ak;exact rfl;apply aA;exact rfl;exact pK;exact hread;exact rfl)|refine sT ?_|refine sS ?_|refine sN ?_|refine sM fun _=> ?_|(refine sC ?_ ?_<;>intro hb<;>try omega)|fail)
   all_goals try (exfalso;omega)
   rename_i g13 _
   refine ll (id:=8) [3,6] [.box g13 100 (cV u)] 10 rfl rfl mS ?_
   repeat' (first|(apply bY (i:=0);(iterate 4 exact rfl);decide+kernel;decide+kernel;decide+kernel;(exact vC))|(apply bY (i:=1);(iterate 4 exact rfl);decide+kernel;decide+kernel;decide+kernel;(exact vC))|(apply bY (i:=2);(iterate 4 exact rfl);decide+kernel;decide+kernel;decide+kernel;(exact vC))|(apply bY (i:=4);(iterate 4 exact rfl);decide+kernel;decide+kernel;decide+kernel;(exact vC))|(apply bY (i:=5);(iterate 4 exact rfl);decide+kernel;decide+kernel;decide+kernel;(exact vC))|(apply bY (i:=7);(iterate 4 exact rfl);decide+kernel;decide+kernel;decide+kernel;(apply rf;exact rfl;exact rfl))|(apply bY (i:=8);(iterate 4 exact rfl);decide+kernel;decide+kernel;decide+kernel;(apply fX;exact rfl))|(apply bY (i:=9);(iterate 4 exact rfl);decide+kernel;decide+kernel;decide+kernel;(apply fX;exact rfl))|(apply iq (i:=3) (j:=6);(iterate 6 exact rfl);decide+kernel)|(apply cG (i:=3);(iterate 3 exact rfl);decide+kernel)|(apply cG (i:=6);(iterate 3 exact rfl);decide+kernel)|(apply lj;decide+kernel)|(apply CN;(focus (exact mS;done)))|(apply au (f:=95);exact rfl;exact rfl;(refine FnIn.msub (yj u.rect gb gl gr ga _ _ _ Ac cap (aq G) L hKm (dr G (aI L N)) _ w0 _ ?_) (MSub.pick pK (MSub.pick pK (MSub.pick pK (MSub.pick pK (MSub.refl _)))));exact (fun w' hm=>hl w' (MSub.use mS hm)));rintro _ _ ⟨rfl,rfl⟩)|(apply au (f:=97);exact rfl;exact rfl;(refine FnIn.msub (NX u gb gl gr ga _ _ _ Ac cap (aq G) L N hN _ w0 _ ?_ ?_) (MSub.pick pK (MSub.pick pK (MSub.refl _)));exact (fun w' hm=>hl w' (MSub.use mS hm));exact (fun w' hm=>hn w' (MSub.use mS hm)));rintro _ _ ⟨SA3,_,rfl,rfl⟩)|refine sT ?_|refine sS ?_|refine sN ?_|refine sM fun _=> ?_|(refine sC ?_ ?_<;>intro hb<;>try omega)|fail)
   all_goals first
    |(exfalso;omega)
    |(exact dc eIO rfl rfl rfl (H' :=F) mS ⟨rfl,rfl⟩)
    |trace_state
  ·
   have hp:jR n u=false:=by
    rw [← V5,jR,TU,decide_eq_true_eq,decide_eq_true_eq];exact c1
   rw [hp] at hfd
   repeat' (first|(apply ak;exact rfl;apply aj (j:=i);exact rfl;exact rfl;exact hlt)|(apply ak;exact rfl;apply aA;exact rfl;exact pK;exact hread;exact rfl)|refine sT ?_|refine sS ?_|refine sN ?_|refine sM fun _=> ?_|(refine sC ?_ ?_<;>intro hb<;>try omega)|fail)
   all_goals first
    |(exfalso;omega)
    |(refine ⟨i+1,⟨hlt,hfd⟩,by omega,by exact sB,by exact sB,by exact mS⟩;done)
    |trace_state
 ·
  have hi2:i=U.length:=by omega
  subst hi2
  rw [hfd,UB,List.find?_nil]
  repeat' (first|refine sT ?_|refine sS ?_|refine sN ?_|refine sM fun _=> ?_|(refine sC ?_ ?_<;>intro hb<;>try omega)|fail)
  all_goals first
   |(exfalso;omega)
   |(exact dc eIO rfl rfl rfl (H' :=F) mS ⟨rfl,rfl⟩)
   |trace_state
end Go.SL
