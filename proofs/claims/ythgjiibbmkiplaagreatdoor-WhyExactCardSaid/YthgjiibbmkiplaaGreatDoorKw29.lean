/-
  Lemmas and walks, put together: Hr Wd Wi Hs Wn Hw Yj Yk Hu Yn Yo.
-/
import Derived.Test.YthgjiibbmkiplaaGreatDoorKw28
set_option linter.unusedSimpArgs false
set_option linter.unusedVariables false
set_option maxRecDepth 20000
set_option maxHeartbeats 16000000
namespace Go.SL
open Go Go.Proofs
attribute [local irreducible] W WL WQ WG WA WX WLI WR WT WC WE VOp RW thn blk bA scp aY aX bw FnAt FnIn FnP ceP mU gF jl
def dV (L:List Rl) (N:List Gn):Lw:=⟨fun c=>(atE c L).1.1,fun r=>(ovE r L).1.1,fun u=>if u.node<0 then 0#64 else (eB u.fn u.rect L N).1⟩
def stE (ok:Bool) (L:List Rl) (N:List Gn):Int:=if ok=false then 3 else if (eV 64 L).2≠0 then (eV 64 L).2 else (lA 64 N).2
theorem Jg (L:List Rf): ∀ u∈L.flatMap aq,u.oneCell' =true:=fun u hu=>by
 obtain ⟨c,_,hc⟩:=XL.1 hu;simp only [aq,Xt,YQ,or_false] at hc;rcases hc with rfl|rfl<;>rfl
theorem yl {f:Rf→Value} {K:List Rf} (hn:K.Nodup) {i:Nat} (h:i<K.length):gK K[i] (f K[i]) (K.take i).length (mapM f (K.take i))=(mapM f (K.take (i+1)),(K.take (i+1)).length):=by
 have h1:K.take (i+1)=K.take i++ [K[i]]:=Xk h;have h2:K[i]∉K.take i:=fun hm=>by
  have h3:=hn.sublist (List.take_sublist (i+1) K);rw [h1,YK] at h3;exact h3.2.2 _ hm _ Xb rfl
 rw [wW h2,pZ rfl,h1,Xa]
 rfl
theorem Oa (gg:Nat) (G:Gr) (B F:List Blk) (w0:World) (R:Rdr gg G B w0) (hB:MSub B F) (ok:Bool) (L:List Rl) (N:List Gn) (Al An:Option Addr) (cl cn:Nat) (hl: ∀ w',Mem w0 w' F→Reads w' (.slice Al L.length cl) L.length (L.flatMap bQ)) (hn: ∀ w',Mem w0 w' F→Reads w' (.slice An N.length cn) N.length (N.flatMap cD)) (hN:N.length≤1000000):
 FnIn Tryz.prog 49 [.pointer (some ⟨gg,0,none⟩),.bool ok,.slice Al L.length cl,.slice An N.length cn] w0 F fun v H' =>(stE ok L N≠0∧v= .tuple #[.pointer none,.int .i64 (stE ok L N)]∧H' =F)∨(stE ok L N=0∧ ∃ gb gl gr ga Ac cap,∃ lab:Rf→BitVec 64,∃ SR SA,v= .tuple #[.pointer (some ⟨gb,0,none⟩),.int .i64 0]∧H' = .box gb 114 [.pointer (some ⟨gg,0,none⟩),.slice Al L.length cl,.slice An N.length cn,sl Ac (ap G).length cap,.map (some gl),.map (some gr),.map (some ga)]:: .own Ac 34 2 (ap G).length cap ((ap G).flatMap aq):: .obj gl (aK aC (mapM (fun c=>vS (lab c)) (ap G)) (ap G).length):: .obj gr (aK jN (mapM (fun r=>vS (ovE r L).1.1) SR) (SR).length):: .obj ga (aK lV (mapM (fun a=>vS (eB a.fn a.rect L N).1) SA) (SA).length)::F∧ ∀ c∈ap G,∀ i,(lab c).getLsbD i=true↔seesP G (dV L N) i c):=by
 refine bI Tryz.func49 rfl Tryz.ntmps49 rfl ?_;have h1:=fun (w' :World) (H:List Blk) (hs:MSub F H) (hm:Mem w0 w' H)=>jP 64 L _ w' (hl w' (hs.use hm));have h2:=fun (w' :World) (H:List Blk) (hs:MSub F H) (hm:Mem w0 w' H)=>o7 64 N _ w' (hn w' (hs.use hm));have hFm:=R.fm;have hUs:=R.us;have hUr:=R.ur;have hG:=R.g;have hKn:(ap G).Nodup:=hG.sort.nodup;have hKl:(ap G).length≤900:=by have:=R.l;rw [ap,Xq];exact this
 have hst:=FlI.start hG (dV L N);obtain ⟨K,hKe⟩: ∃ K,ap G=K:=⟨_,rfl⟩;rw [hKe] at hFm hKn hKl hst;unfold stE;generalize (eV 64 L).1=n1 at h1;generalize (eV 64 L).2=e1 at h1;generalize (lA 64 N).1=n2 at h2;generalize (lA 64 N).2=e2 at h2;have hKf:(K.flatMap aq).length=K.length*2:=aR bD K;cases ok
 ·repeat' first|refine zZB ?_|refine sM fun _=>?_|refine sC ?_ ?_<;>intro hb<;>try omega|fail
  all_goals first
   |exact di eIO rfl rfl rfl (H' :=F) mS (.inl ⟨by simp,by simp,rfl⟩)
 repeat' first|apply aa (f:=68);exact rfl;exact rfl;intro w' hm;exact h1 w' _ mS hm|apply aa (f:=69);exact rfl;exact rfl;intro w' hm;exact h2 w' _ mS hm|apply aj (f:=92);exact rfl;exact rfl;exact hFm _ (MSub.trans hB mS);rintro _ _ ⟨Ac,cap,rfl,rfl⟩|apply cL (d:=52) (enc:=aC);exact rfl;intro gl|apply cL (d:=53) (enc:=jN);exact rfl;intro gr|apply cL (d:=54) (enc:=lV);exact rfl;intro ga|refine zZB ?_|refine sM fun _=>?_|refine sC ?_ ?_<;>intro hb<;>try omega|fail
 all_goals first
  |omega
  |exact di eIO rfl rfl rfl (H' :=F) mS (.inl ⟨by rw [if_neg (by decide),if_pos hb];exact hb,by rw [if_neg (by decide),if_pos hb],rfl⟩)
  |exact di eIO rfl rfl rfl (H' :=F) mS (.inl ⟨by rw [if_neg (by decide),if_neg (by omega)];exact hb,by rw [if_neg (by decide),if_neg (by omega)],rfl⟩)
  |skip
 rename_i gb;refine ax [0,14,60,61] rfl (fun i:Nat=> [(62,.int .i64 (i:Int))]) (fun i=> .box gb 114 [.pointer (some ⟨gg,0,none⟩),.slice Al L.length cl,.slice An N.length cn,sl Ac K.length cap,.map (some gl),.map (some gr),.map (some ga)]:: .own Ac 34 2 K.length cap (K.flatMap aq):: .obj gl (aK aC (mapM (fun c=>vS (atE c L).1.1) (K.take i)) ((K.take i)).length):: .obj gr (aK jN (mapM (fun r=>vS (ovE r L).1.1) ([]:List Rct)) (([]:List Rct)).length):: .obj ga (aK lV (mapM (fun a=>vS (eB a.fn a.rect L N).1) ([]:List Ak)) (([]:List Ak)).length)::F) (fun i=>i≤K.length) (fun i=>K.length - i) 0 (Xn _) sB mS ?_;rintro i hi;by_cases hlt:i<K.length
 ·refine aU (A:=Ac) pK (by omega) fun gk hA=> ?_;subst hA;have hread:=uz hlt;have hput:=yl (f:=fun c=>vS (atE c L).1.1) hKn hlt;try dsimp only at hput
  generalize K[i]=c at hread hput;repeat' (first|apply ak;exact rfl;apply ai (j:=i);exact rfl;exact rfl;exact hlt|apply ak;exact rfl;apply au;exact rfl;exact pK;exact hread;exact rfl|refine zZA ?_|refine sM fun _=>?_|refine sC ?_ ?_<;>intro hb<;>try omega|fail)
  all_goals try omega
  rename_i g16;refine bT (id:=15) [7,8] [] [.box g16 34 (aq c),.box gb 114 [.pointer (some ⟨gg,0,none⟩),.slice Al L.length cl,.slice An N.length cn,sl (some gk) K.length cap,.map (some gl),.map (some gr),.map (some ga)]] (by kernel_rfl) (by kernel_rfl) (by kernel_rfl) mS ?_;repeat' (first|apply aj (f:=51);exact rfl;exact rfl;refine FnIn.msub (yg c L gb _ _ _ _ _ _ _ w0 _ ?_) (MSub.pick pK (MSub.refl _));exact (fun w' hm=>hl w' (MSub.use mS hm));rintro _ _ ⟨rfl,rfl⟩|apply cB (enc:=aC) (k:=c);(iterate 3 exact rfl);exact pK;rw [hput]|refine zZH ?_|refine sM fun _=>?_|refine sC ?_ ?_<;>intro hb<;>try omega|refine sCW ?_ ?_<;>intro hb<;>try omega|fail)
  all_goals first
   |omega
   |refine ⟨i+1,hlt,by omega,by exact sB,by exact sB,by exact mS⟩;done
 have hi2:i=K.length:=by omega
 subst hi2;rw [XF];repeat' (first|apply kK;exact rfl;intro ge|apply dz (n' :=0) (c:=0) (A:=some _) (m:=K.length);(iterate 3 exact rfl);exact pK;intro w hm;exact Reads.of_own hm pK;exact hKf;exact Jg K;omega;simp only [maxLen];omega;intro At ct hA|apply cL (d:=81) (enc:=aC);exact rfl;intro gw|refine zZA ?_|refine sM fun _=>?_|refine sC ?_ ?_<;>intro hb<;>try omega|fail)
 all_goals try omega
 simp only [Xv,Xd];refine ax [0,14,17,18,82,83] rfl (fun i:Nat=> [(84,.int .i64 (i:Int))]) (fun i=> .obj gw (aK aC (mapM (fun _=> .bool true) (K.take i)) ((K.take i)).length):: .own At 34 2 K.length ct (K.flatMap aq):: .box gb 114 [.pointer (some ⟨gg,0,none⟩),.slice Al L.length cl,.slice An N.length cn,sl Ac K.length cap,.map (some gl),.map (some gr),.map (some ga)]:: .own Ac 34 2 K.length cap (K.flatMap aq):: .obj gl (aK aC (mapM (fun c=>vS ((dV L N).rd c)) K) K.length):: .obj gr (aK jN (mapM (fun r=>vS (ovE r L).1.1) ([]:List Rct)) (([]:List Rct)).length):: .obj ga (aK lV (mapM (fun a=>vS (eB a.fn a.rect L N).1) ([]:List Ak)) (([]:List Ak)).length)::F) (fun i=>i≤K.length) (fun i=>K.length - i) 0 (Xn _) sB mS ?_;rintro i hi;by_cases hlt:i<K.length
 ·refine aU (A:=At) pK (by omega) fun gk hA=> ?_;subst hA;have hread:=uz hlt;have hput:=yl (f:=fun _=>Value.bool true) hKn hlt;try dsimp only at hput
  generalize K[i]=c at hread hput;repeat' (first|apply ak;exact rfl;apply ai (j:=i);exact rfl;exact rfl;exact hlt|apply ak;exact rfl;apply au;exact rfl;exact pK;exact hread;exact rfl|apply cB (enc:=aC) (k:=c);(iterate 3 exact rfl);exact pK;rw [hput]|refine zZA ?_|refine sM fun _=>?_|refine sC ?_ ?_<;>intro hb<;>try omega|fail)
  all_goals first
   |omega
   |refine ⟨i+1,hlt,by omega,by exact sB,by exact sB,by exact mS⟩;done
 have hi2:i=K.length:=by omega
 subst hi2;rw [XF];repeat' (first|refine zZA ?_|refine sM fun _=>?_|refine sC ?_ ?_<;>intro hb<;>try omega|fail)
 all_goals try omega
 have hpost:=fun lab (h:FlI G (dV L N) lab [])=>fun c (hc:c∈K) i=>h.done (hKe ▸ hc) i;by_cases hK0:K.length=0
 ·have hKn0:K= []:=YB.1 hK0;have hst0:FlI G (dV L N) (dV L N).rd []:=hKn0 ▸ hst;refine ax [14,17] rfl (fun _:Unit=> []) (fun _=> .box gb 114 [.pointer (some ⟨gg,0,none⟩),.slice Al L.length cl,.slice An N.length cn,sl Ac K.length cap,.map (some gl),.map (some gr),.map (some ga)]:: .own Ac 34 2 K.length cap (K.flatMap aq):: .obj gl (aK aC (mapM (fun c=>vS ((dV L N).rd c)) K) K.length):: .obj gr (aK jN (mapM (fun r=>vS (ovE r L).1.1) ([]:List Rct)) (([]:List Rct)).length):: .obj ga (aK lV (mapM (fun a=>vS (eB a.fn a.rect L N).1) ([]:List Ak)) (([]:List Ak)).length)::F) (fun _=>True) (fun _=>0) () trivial sB mS ?_;rintro _ _;repeat' (first|refine zZA ?_|refine sM fun _=>?_|refine sC ?_ ?_<;>intro hb<;>try omega|fail)
  all_goals first
   |omega
   |subst hKe;exact di eIO rfl rfl rfl (H' := .box gb 114 [.pointer (some ⟨gg,0,none⟩),.slice Al L.length cl,.slice An N.length cn,sl Ac (ap G).length cap,.map (some gl),.map (some gr),.map (some ga)]:: .own Ac 34 2 (ap G).length cap ((ap G).flatMap aq):: .obj gl (aK aC (mapM (fun c=>vS ((dV L N).rd c)) (ap G)) (ap G).length):: .obj gr (aK jN (mapM (fun r=>vS (ovE r L).1.1) ([]:List Rct)) (([]:List Rct)).length):: .obj ga (aK lV (mapM (fun a=>vS (eB a.fn a.rect L N).1) ([]:List Ak)) (([]:List Ak)).length)::F) mS (.inr ⟨by rw [if_neg (by decide),if_neg (by omega)];omega,gb,gl,gr,ga,Ac,cap,(dV L N).rd,[],[],rfl,rfl,hpost _ hst0⟩)
 refine aU (A:=At) pK (by omega) fun gt hA=> ?_;subst hA;subst hKe;have hKm:(ap G).length≤1000000:=by omega
 have hUlen:=fL hG;have hUrl: ∀ r,(cV G r).length≤900:=fun r=>XU AF R.l;refine ax [0,14,18] rfl (fun y:(Rf→BitVec 64) × Qu × List Rf × (Rf→Bool) × List Rct × List Ak=> [(17,y.2.1.v)]) (fun y=> .obj gw (aK aC (mapM (fun c=> .bool (y.2.2.2.1 c)) (ap G)) (ap G).length):: .own (some y.2.1.g) 34 2 y.2.1.n y.2.1.c y.2.1.ys:: .box gb 114 [.pointer (some ⟨gg,0,none⟩),.slice Al L.length cl,.slice An N.length cn,sl Ac (ap G).length cap,.map (some gl),.map (some gr),.map (some ga)]:: .own Ac 34 2 (ap G).length cap ((ap G).flatMap aq):: .obj gl (aK aC (mapM (fun c=>vS (y.1 c)) (ap G)) (ap G).length):: .obj gr (aK jN (mapM (fun r=>vS (ovE r L).1.1) y.2.2.2.2.1) (y.2.2.2.2.1).length):: .obj ga (aK lV (mapM (fun a=>vS (eB a.fn a.rect L N).1) y.2.2.2.2.2) (y.2.2.2.2.2).length)::F) (fun y=>FlI G (dV L N) y.1 y.2.2.1∧y.2.1.ok aq 2 y.2.2.1∧(∀ c∈ap G,y.2.2.2.1 c=true↔c∈y.2.2.1)∧y.2.1.n+900*xT y.1 (ap G)≤52000000) (fun y=>1000*xT y.1 (ap G)+y.2.2.1.length) ((dV L N).rd,⟨gt,0,0,(ap G).length,ct,(ap G).flatMap aq⟩,ap G,fun _=>true,[],[]) ⟨hst,⟨Nat.zero_le _,fun _=>by rw [Nat.zero_mul],rfl,rfl⟩,fun c hc=>⟨fun _=>hc,fun _=>rfl⟩,by have:=E4 (lab:=(dV L N).rd) (ap G);dsimp only;omega⟩ sB mS ?_;clear hst;rintro ⟨lab,q,todo,wt,SR,SA⟩ ⟨hI,hq,hwt,hqn⟩;dsimp only at hI hq hwt hqn ⊢;have hql:=hq.len
 cases todo with
 |nil=>
  rw [Yu] at hql;repeat' (first|refine zZA ?_|refine sM fun _=>?_|refine sC ?_ ?_<;>intro hb<;>try omega|fail)
  all_goals first
   |omega
   |exact di eIO rfl rfl rfl (H' := .box gb 114 [.pointer (some ⟨gg,0,none⟩),.slice Al L.length cl,.slice An N.length cn,sl Ac (ap G).length cap,.map (some gl),.map (some gr),.map (some ga)]:: .own Ac 34 2 (ap G).length cap ((ap G).flatMap aq):: .obj gl (aK aC (mapM (fun c=>vS (lab c)) (ap G)) (ap G).length):: .obj gr (aK jN (mapM (fun r=>vS (ovE r L).1.1) SR) (SR).length):: .obj ga (aK lV (mapM (fun a=>vS (eB a.fn a.rect L N).1) SA) (SA).length)::F) mS (.inr ⟨by rw [if_neg (by decide),if_neg (by omega)];omega,gb,gl,gr,ga,Ac,cap,lab,SR,SA,rfl,rfl,hpost _ hI⟩)
 |cons x todo=>
  rw [Xs] at hql;refine K8 (A:=some q.g) pK fun hle=> ?_;have hhd:=hq.head rfl hle;have hp:=hq.pop rfl hle;have hxK:x∈ap G:=hI.sub x Xb;have hxn:x∉todo:=(Y9.1 hI.nd).1;have hUs1:=hUs x;have hUl:=hUlen x;have hput:gK x (.bool false) (ap G).length (mapM (fun c=> .bool (wt c)) (ap G))=(mapM (nj (fun c=> .bool (wt c)) x (.bool false)) (ap G),(ap G).length):=CU hKn hxK;obtain ⟨wt2,hwe⟩: ∃ f:Rf→Bool,∀ c,f c=if c=x then false else wt c:=⟨_,fun _=>rfl⟩;have hwt1:nj (fun c=>Value.bool (wt c)) x (.bool false)=fun c=> .bool (wt2 c):=by funext c;unfold nj;rw [hwe];split<;>rfl
  rw [hwt1] at hput;have hlk:=tu (fun c=>vS (lab c)) (ap G) x (vS 0#64);rw [if_pos hxK] at hlk;have hwt3: ∀ c∈ap G,wt2 c=true↔c∈todo:=fun c hc=>by
   rw [hwe];split
   ·rename_i e;subst e;simp [hxn]
   ·rename_i e;rw [hwt c hc];simp [e]
  obtain ⟨U,hU⟩: ∃ U,aG G x=U:=⟨_,rfl⟩;rw [hU] at hUs1 hUl;repeat' (first|apply ak;exact rfl;apply ai (j:=0);exact rfl;exact rfl;omega|apply ak;exact rfl;apply au;exact rfl;exact pK;exact hhd;exact rfl|apply ak;exact rfl;apply NI q;exact rfl;omega;exact hle|apply cB (enc:=aC) (k:=x);(iterate 3 exact rfl);exact pK;rw [hput]|apply aQ (d:=106);exact rfl;apply bV (enc:=aC) (k:=x);exact rfl;exact rfl;exact pK;exact hlk|apply aj (f:=78);exact rfl;exact rfl;exact hUs1 _ (MSub.trans hB mS);rintro _ _ ⟨Au,cu,rfl,rfl⟩|refine zZF ?_|refine sM fun _=>?_|refine sC ?_ ?_<;>intro hb<;>try omega|refine sCQ ?_ ?_<;>intro hb<;>try omega|fail)
  all_goals try omega
  rename_i g21;refine ax [0,14,17,18,21,109,110] rfl (fun y:Nat × List Rct × List Ak=> [(22,vS (fM G (dV L N) lab (U.take y.1) (lab x))),(111,.int .i64 (y.1:Int))]) (fun y=> .own Au 159 6 U.length cu (U.flatMap bP):: .box g21 34 (aq x):: .obj gw (aK aC (mapM (fun c=> .bool (wt2 c)) (ap G)) (ap G).length):: .own (some q.g) 34 2 q.n q.c q.ys:: .box gb 114 [.pointer (some ⟨gg,0,none⟩),.slice Al L.length cl,.slice An N.length cn,sl Ac (ap G).length cap,.map (some gl),.map (some gr),.map (some ga)]:: .own Ac 34 2 (ap G).length cap ((ap G).flatMap aq):: .obj gl (aK aC (mapM (fun c=>vS (lab c)) (ap G)) (ap G).length):: .obj gr (aK jN (mapM (fun r=>vS (ovE r L).1.1) y.2.1) (y.2.1).length):: .obj ga (aK lV (mapM (fun a=>vS (eB a.fn a.rect L N).1) y.2.2) (y.2.2).length)::F) (fun y=>y.1≤U.length) (fun y=>U.length - y.1) (0,SR,SA) (Xn _) sB mS ?_;rintro ⟨i,SR2,SA2⟩ hi;dsimp only at hi ⊢;by_cases hlt:i<U.length
  ·refine aU (A:=Au) .hd (by omega) fun gk hA=> ?_;subst hA;have hread:=OC hlt;have hsn:fM G (dV L N) lab (U.take (i+1)) (lab x)=fM G (dV L N) lab (U.take i) (lab x) &&& (ovL G (dV L N) lab U[i].rect|||(dV L N).to U[i]):=by rw [Xk hlt,Iq]
   generalize U[i]=u at hread hsn;repeat' (first|apply ak;exact rfl;apply ai (j:=i);exact rfl;exact rfl;exact hlt|apply ak;exact rfl;apply au;exact rfl;exact pK;exact hread;exact rfl|refine zZA ?_|refine sM fun _=>?_|refine sC ?_ ?_<;>intro hb<;>try omega|fail)
   all_goals try omega
   rename_i g24;refine fw (id:=32) [4,7] [.box g24 159 (bP u)] 11 rfl rfl mS ?_;repeat' (first|apply ba (i:=0);(iterate 4 exact rfl);(iterate 3 decide+kernel);exact vC|apply ba (i:=1);(iterate 4 exact rfl);(iterate 3 decide+kernel);exact vC|apply ba (i:=2);(iterate 4 exact rfl);(iterate 3 decide+kernel);exact vC|apply ba (i:=3);(iterate 4 exact rfl);(iterate 3 decide+kernel);exact vC|apply ba (i:=5);(iterate 4 exact rfl);(iterate 3 decide+kernel);exact vC|apply ba (i:=6);(iterate 4 exact rfl);(iterate 3 decide+kernel);exact vC|apply ba (i:=8);(iterate 4 exact rfl);(iterate 3 decide+kernel);apply H8;exact rfl;exact rfl|apply ba (i:=9);(iterate 4 exact rfl);(iterate 3 decide+kernel);apply pY;exact rfl;exact rfl|apply ba (i:=10);(iterate 4 exact rfl);(iterate 3 decide+kernel);apply eY;exact rfl|apply cF (i:=4) (j:=7);(iterate 6 exact rfl);decide+kernel|apply bk (i:=4);(iterate 3 exact rfl);decide+kernel|apply bk (i:=7);(iterate 3 exact rfl);decide+kernel|apply fu;decide+kernel|apply rW;(focus (exact mS;done))|apply aj (f:=93);exact rfl;exact rfl;refine FnIn.msub (Pv u.rect gb gl gr ga _ _ _ Ac cap (ap G) L hKm lab _ w0 _ ?_) (MSub.pick pK (MSub.pick pK (MSub.pick pK (MSub.pick pK (MSub.refl _)))));exact (fun w' hm=>hl w' (MSub.use mS hm));rintro _ _ ⟨rfl,rfl⟩|apply aj (f:=94);exact rfl;exact rfl;refine FnIn.msub (UH u gb gl gr ga _ _ _ Ac cap (ap G) L N hN _ w0 _ ?_ ?_) (MSub.pick pK (MSub.pick pK (MSub.refl _)));exact (fun w' hm=>hl w' (MSub.use mS hm));exact (fun w' hm=>hn w' (MSub.use mS hm));rintro _ _ ⟨SA3,_,rfl,rfl⟩|refine zZA ?_|refine sM fun _=>?_|refine sC ?_ ?_<;>intro hb<;>try omega|fail)
   all_goals first
    |omega
    |refine ⟨(i+1,_,SA3),hlt,by dsimp only;omega,by dsimp only;rw [hsn];exact sB,by exact sB,by exact mS⟩;done
  have hi2:i=U.length:=by omega
  subst hi2;rw [XF];obtain ⟨s,hs⟩: ∃ s,fM G (dV L N) lab U (lab x)=s:=⟨_,rfl⟩;rw [hs];have hfx:fM G (dV L N) lab (aG G x) (lab x)=s:=by rw [hU];exact hs
  have hput2:gK x (vS s) (ap G).length (mapM (fun c=>vS (lab c)) (ap G))=(mapM (nj (fun c=>vS (lab c)) x (vS s)) (ap G),(ap G).length):=CU hKn hxK;have hup2:nj (fun c=>vS (lab c)) x (vS s)=fun c=>vS (zJ lab x s c):=by funext c;unfold nj zJ;split<;>rfl
  rw [hup2] at hput2;have hOne:=pO x;have hUr1:=hUr (cE x.col x.row);have hUrl1:=hUrl (cE x.col x.row);have hturn:=fun (todo' :List Rf) h1 h2 h3 h4=>FlI.turn (todo' :=todo') hG hI h1 h2 h3 h4;rw [hfx] at hturn;have hUk: ∀ c∈cV G (cE x.col x.row),c∈ap G:=fun c hc=>((AG hG (ez hG hxK)).1 hc).1;generalize cV G (cE x.col x.row)=V at hUr1 hUrl1 hturn hUk;repeat' (first|apply aQ (d:=132);exact rfl;apply bV (enc:=aC) (k:=x);exact rfl;exact rfl;exact pK;exact hlk|apply aQ (d:=133);exact rfl;apply CH;exact rfl;exact rfl|refine bT (id:=35) [6] [] [.box g21 34 (aq x),.box gb 114 [.pointer (some ⟨gg,0,none⟩),.slice Al L.length cl,.slice An N.length cn,sl Ac (ap G).length cap,.map (some gl),.map (some gr),.map (some ga)]] (by kernel_rfl) (by kernel_rfl) (by kernel_rfl) mS ?_|apply cB (enc:=aC) (k:=x);(iterate 3 exact rfl);exact pK;rw [hput2]|apply aa;exact rfl;exact rfl;intro w hm;exact hOne w|apply aj (f:=95);exact rfl;exact rfl;exact hUr1 _ (MSub.trans hB mS);rintro _ _ ⟨Av,cv,rfl,rfl⟩|refine sT ?_|refine sS ?_|refine sQ ?_|refine sW ?_|refine sN ?_|refine sNQ ?_|refine sWN ?_|refine sD ?_|refine sM fun _=>?_|refine sC ?_ ?_<;>intro hb<;>try omega|refine sCQ ?_ ?_<;>intro hb<;>try omega|refine sCW ?_ ?_<;>intro hb<;>try omega|fail)
  all_goals first
   |omega
   |refine ⟨(lab,q.pop 2,todo,wt2,SR2,SA2),⟨hI.skip (hfx.trans hb),hp,hwt3,hqn⟩,by dsimp only;rw [List.length_cons];omega,by exact sB,by exact sB,by exact mS⟩;done
   |skip
  have hsum:=Kd (VK (fun i hi=>by rw [← hs] at hi;exact Iu i hi) hb) hxK;refine ax [0,14,18,143,144] rfl (fun y:Nat × Qu × List Rf × (Rf→Bool)=> [(17,y.2.1.v),(145,.int .i64 (y.1:Int))]) (fun y=> .own Av 34 2 V.length cv (V.flatMap aq):: .obj gw (aK aC (mapM (fun c=> .bool (y.2.2.2 c)) (ap G)) (ap G).length):: .own (some y.2.1.g) 34 2 y.2.1.n y.2.1.c y.2.1.ys:: .box gb 114 [.pointer (some ⟨gg,0,none⟩),.slice Al L.length cl,.slice An N.length cn,sl Ac (ap G).length cap,.map (some gl),.map (some gr),.map (some ga)]:: .own Ac 34 2 (ap G).length cap ((ap G).flatMap aq):: .obj gl (aK aC (mapM (fun c=>vS (zJ lab x s c)) (ap G)) (ap G).length):: .obj gr (aK jN (mapM (fun r=>vS (ovE r L).1.1) SR2) (SR2).length):: .obj ga (aK lV (mapM (fun a=>vS (eB a.fn a.rect L N).1) SA2) (SA2).length)::F) (fun y=>y.1≤V.length∧y.2.2.1.Nodup∧(∀ c∈y.2.2.1,c∈ap G)∧(∀ c∈todo,c∈y.2.2.1)∧(∀ j (h:j<V.length),j<y.1→V[j]∈y.2.2.1)∧y.2.1.ok aq 2 y.2.2.1∧(∀ c∈ap G,y.2.2.2 c=true↔c∈y.2.2.1)∧y.2.1.n≤q.n+y.1) (fun y=>V.length - y.1) (0,q.pop 2,todo,wt2) ⟨Xn _,(Y9.1 hI.nd).2,fun c hc=>hI.sub c (Xp _ hc),fun _ h=>h,fun j _ h=>absurd h (YY _),hp,hwt3,Xy _⟩ sB mS ?_;rintro ⟨k,q3,todo3,wt4⟩ ⟨hk,hnd,hsb,hold,hin,hq3,hw4,hqn3⟩;dsimp only at hk hnd hsb hold hin hq3 hw4 hqn3 ⊢;have hq3l:=hq3.len;have htl:todo3.length≤900:=XU (Pj hG hnd hsb) R.l;by_cases hkl:k<V.length
  ·refine aU (A:=Av) .hd (by omega) fun gk hA=> ?_;subst hA;have hread:=uz hkl;have hck:=hUk _ (XO hkl);have hstep: ∀ T:List Rf,(∀ d∈todo3,d∈T)→V[k]∈T→ ∀ j (h:j<V.length),j<k+1→V[j]∈T:=fun T h1 h2 j h3 h4=>by
    by_cases e:j=k
    ·subst e;exact h2
    ·exact h1 _ (hin j h3 (by omega))
   generalize V[k]=c at hread hck hstep;have hlk3:=tu (fun c=>Value.bool (wt4 c)) (ap G) c (.bool false);rw [if_pos hck] at hlk3
   cases hwc:wt4 c with
   |true=>
    rw [hwc] at hlk3;have hct:=(hw4 c hck).1 hwc;repeat' (first|apply ak;exact rfl;apply ai (j:=k);exact rfl;exact rfl;exact hkl|apply ak;exact rfl;apply au;exact rfl;exact pK;exact hread;exact rfl|apply ak;exact rfl;apply bV (enc:=aC) (k:=c);exact rfl;exact rfl;exact pK;exact hlk3|refine zZA ?_|refine sM fun _=>?_|refine sC ?_ ?_<;>intro hb<;>try omega|fail)
    all_goals first
     |omega
     |refine ⟨(k+1,q3,todo3,wt4),⟨hkl,hnd,hsb,hold,hstep _ (fun _ h=>h) hct,hq3,hw4,by dsimp only;omega⟩,by dsimp only;omega,by exact sB,by exact sB,by exact mS⟩;done
   |false=>
    rw [hwc] at hlk3;have hcn:c∉todo3:=fun h=>by rw [(hw4 c hck).2 h] at hwc;cases hwc
    obtain ⟨wt5,hw5⟩: ∃ f:Rf→Bool,∀ d,f d=if d=c then true else wt4 d:=⟨_,fun _=>rfl⟩;have hput3:gK c (.bool true) (ap G).length (mapM (fun c=> .bool (wt4 c)) (ap G))=(mapM (nj (fun c=> .bool (wt4 c)) c (.bool true)) (ap G),(ap G).length):=CU hKn hck;have hup3:nj (fun c=>Value.bool (wt4 c)) c (.bool true)=fun c=> .bool (wt5 c):=by funext d;unfold nj;rw [hw5];split<;>rfl
    rw [hup3] at hput3;have hw6: ∀ d∈ap G,wt5 d=true↔d∈todo3++ [c]:=fun d hd=>by
     rw [hw5,Xr,Xl];split
     ·rename_i e;simp [e]
     ·rename_i e;rw [hw4 d hd];simp [e]
    obtain ⟨qg,qoff,qk,qn,qc,qys⟩:=q3;obtain ⟨hq1,hq2,hq3,hq4⟩:=hq3;dsimp only at hq1 hq2 hq3 hq4 hqn3 ⊢;simp only [Qu.v];repeat' (first|apply ak;exact rfl;apply ai (j:=k);exact rfl;exact rfl;exact hkl|apply ak;exact rfl;apply au;exact rfl;exact pK;exact hread;exact rfl|apply ak;exact rfl;apply bV (enc:=aC) (k:=c);exact rfl;exact rfl;exact pK;exact hlk3|apply cB (enc:=aC) (k:=c);(iterate 3 exact rfl);exact pK;rw [hput3]|apply rr;exact rfl;exact rfl;exact hq1;exact hq2;exact rfl;exact pK;exact pK;exact rfl;simp [Value.oneCell',aq];omega;simp only [maxLen];omega;intro g' off' k' n2 c2 ys hk2 hoff2 hlen2 hn2 hys2|refine zZA ?_|refine sM fun _=>?_|refine sC ?_ ?_<;>intro hb<;>try omega|fail)
    all_goals first
     |omega
     |refine ⟨(k+1,⟨g',off',k',n2,c2,ys⟩,todo3++ [c],wt5),⟨hkl,List.nodup_append.2 ⟨hnd,List.pairwise_singleton _ _,fun a ha b hb e=>hcn (by rw [List.mem_singleton.1 hb] at e;exact e ▸ ha)⟩,(fun d hd=>by rcases List.mem_append.1 hd with hd|hd;exact hsb d hd;rw [List.mem_singleton.1 hd];exact hck),(fun d hd=>List.mem_append_left _ (hold d hd)),hstep _ (fun _ h=>List.mem_append_left _ h) (List.mem_append_right _ List.mem_cons_self),⟨hk2,hoff2,(by rw [List.length_append];exact hlen2.trans (by rw [hq3];rfl)),(by rw [hys2,hq4,List.flatMap_append];rfl)⟩,hw6,by dsimp only;omega⟩,by dsimp only;omega,by exact sB,by exact sB,by exact mS⟩;done
  ·have hk2:k=V.length:=by omega
   subst hk2;have hI2:=hturn todo3 hnd hsb hold fun c hc=>by
    obtain ⟨j,hj,rfl⟩:=YN hc;exact hin j hj hj
   repeat' first|refine zZA ?_|refine sM fun _=>?_|refine sC ?_ ?_<;>intro hb<;>try omega|fail
   all_goals first
    |omega
    |refine ⟨(zJ lab x s,q3,todo3,wt4,SR2,SA2),⟨hI2,hq3,hw4,by dsimp only;omega⟩,by dsimp only;rw [List.length_cons];omega,by exact sB,by exact sB,by exact mS⟩;done
end Go.SL
namespace Go.SL
open Go Go.Proofs
attribute [local irreducible] W WL WQ WG WA WX WLI WR WT WC WE VOp RW thn blk bA scp aY aX bw FnAt FnIn FnP ceP
structure Lkd (u:Nat) (b:Bk) (x:Bv) (gg:Nat) (G:Gr) (B F0:List Blk) (w0:World):Prop where
 rd:Rdr gg G B w0
 sub:MSub B F0
 rl: ∀ w',Mem w0 w' F0→Reads w' (.slice x.ar b.rules.length x.cr) b.rules.length (b.rules.flatMap bQ)
 gn: ∀ w',Mem w0 w' F0→Reads w' (.slice x.ag b.grants.length x.cg) b.grants.length (b.grants.flatMap cD)
 hu:u<64
 oL:(eV 64 b.rules).2=0
 oN:(lA 64 b.grants).2=0
 lN:b.grants.length≤1000000
def tv:Rf→Value:=fun _=> .bool true
attribute [local irreducible] gF jl mU
noncomputable def gA (G:Gr) (w:Lw) (a:Rf):BitVec 64:=(BitVec.ofBoolListLE ((List.range 64).map fun i=> @decide (seesP G w i a) (Classical.propDecidable _))).cast (by simp)
theorem fR {G:Gr} {w:Lw} {a:Rf} {i:Nat}:(gA G w a).getLsbD i=true↔seesP G w i a:=by
 unfold gA;rw [BitVec.getLsbD_cast,BitVec.getLsbD_ofBoolListLE,Zf];by_cases hi:i<64
 ·rw [XN,Z7 hi];simp
 ·rw [Yx (by simpa using hi)];refine ⟨fun h=>absurd h (by decide),fun h=> ?_⟩;have:=h.out.1;rw [BitVec.getLsbD_of_ge _ _ (by omega)] at this;cases this
theorem I3 {G:Gr} {w:Lw} {a:Rf} (h:a∉ap G):gA G w a=w.rd a:=pM fun _=>fR.trans (rB h)
theorem IZ {κ:Type} [DecidableEq κ] {f g:κ→Value} {S:List κ} (h: ∀ c∈S,f c=g c):mapM f S=mapM g S:=by
 apply Yw;intro i;rw [fQ,fQ]
 cases hS:S[i]? with
 |none=>rfl
 |some a=>simp [h a (YW hS)]
theorem N9 (gg:Nat) (G:Gr) (B F:List Blk) (w0:World) (R:Rdr gg G B w0) (hB:MSub B F) (ok:Bool) (L:List Rl) (N:List Gn) (Al An:Option Addr) (cl cn:Nat) (hl: ∀ w',Mem w0 w' F→Reads w' (.slice Al L.length cl) L.length (L.flatMap bQ)) (hn: ∀ w',Mem w0 w' F→Reads w' (.slice An N.length cn) N.length (N.flatMap cD)) (hN:N.length≤1000000):
 FnIn Tryz.prog 49 [.pointer (some ⟨gg,0,none⟩),.bool ok,.slice Al L.length cl,.slice An N.length cn] w0 F fun v H' =>(stE ok L N≠0∧v= .tuple #[.pointer none,.int .i64 (stE ok L N)]∧H' =F)∨(stE ok L N=0∧ ∃ gb gl gr ga Ac cap SR SA,v= .tuple #[.pointer (some ⟨gb,0,none⟩),.int .i64 0]∧H' = .box gb 114 [.pointer (some ⟨gg,0,none⟩),.slice Al L.length cl,.slice An N.length cn,sl Ac (ap G).length cap,.map (some gl),.map (some gr),.map (some ga)]:: .own Ac 34 2 (ap G).length cap ((ap G).flatMap aq):: .obj gl (aK aC (mapM (fun c=>vS (gA G (dV L N) c)) (ap G)) (ap G).length):: .obj gr (aK jN (mapM (fun r=>vS (ovE r L).1.1) SR) (SR).length):: .obj ga (aK lV (mapM (fun a=>vS (eB a.fn a.rect L N).1) SA) (SA).length)::F):=by
 refine (Oa gg G B F w0 R hB ok L N Al An cl cn hl hn hN).mono fun v H' h=> ?_;rcases h with h|⟨he,gb,gl,gr,ga,Ac,cap,lab,SR,SA,hv,hH,hlab⟩
 ·exact .inl h
 ·refine .inr ⟨he,gb,gl,gr,ga,Ac,cap,SR,SA,hv,?_⟩;have e:mapM (fun c=>vS (lab c)) (ap G)=mapM (fun c=>vS (gA G (dV L N) c)) (ap G):=IZ fun c hc=>congrArg vS (pM fun i=>(hlab c hc i).trans fR.symm);rw [hH,e]
noncomputable def jS (G:Gr) (L:List Rl) (N:List Gn) (a:Rf):BitVec 64 × Int:=if stE a.valid L N≠0 then (0#64,stE a.valid L N) else (gA G (dV L N) a,0)
theorem Qy (a:Rf) (gg:Nat) (G:Gr) (B F:List Blk) (w0:World) (R:Rdr gg G B w0) (hB:MSub B F) (L:List Rl) (N:List Gn) (Al An:Option Addr) (cl cn:Nat) (hl: ∀ w',Mem w0 w' F→Reads w' (.slice Al L.length cl) L.length (L.flatMap bQ)) (hn: ∀ w',Mem w0 w' F→Reads w' (.slice An N.length cn) N.length (N.flatMap cD)) (hN:N.length≤1000000):FnIn Tryz.prog 22 [.pointer (some ⟨gg,0,none⟩),aC a,.slice Al L.length cl,.slice An N.length cn] w0 F fun v H' =>v= .tuple #[vS (jS G L N a).1,.int .i64 (jS G L N a).2]∧H' =F:=by
 refine bI Tryz.func22 rfl Tryz.ntmps22 rfl ?_;have hst:=fun (ok:Bool) (F2:List Blk) (h:MSub B F2) (h' :MSub F F2)=>N9 gg G B F2 w0 R h ok L N Al An cl cn (fun w' hm=>hl w' (h'.use hm)) (fun w' hm=>hn w' (h'.use hm)) hN;have hva:=fun w=>iQ a.col a.row w;have hv:a.valid=valid a.col a.row:=rfl;unfold jS;rw [hv];have hst:=hst (valid a.col a.row);generalize valid a.col a.row=ok at hst hva;generalize stE ok L N=e at hst;have hlk:=rJ (fun c=>vS (gA G (dV L N) c)) (ap G) a (vS 0#64);by_cases ha:a∈ap G
 ·rw [if_pos ha,decide_eq_true ha] at hlk;repeat' (first|apply aa;exact rfl;exact rfl;intro w hm;exact hva w|apply aj (f:=49);exact rfl;exact rfl;exact hst _ (MSub.trans hB mS) mS;rintro _ _ (⟨he,rfl,rfl⟩|⟨he,gb,gl,gr,ga,Ac,cap,SR,SA,rfl,rfl⟩)|apply aQ (d:=32);exact rfl;apply eG (enc:=aC) (k:=a);exact rfl;exact rfl;exact pK;exact hlk|refine zZL ?_|refine sM fun _=>?_|refine sC ?_ ?_<;>intro hb<;>try omega|refine sCQ ?_ ?_<;>intro hb<;>try omega|fail)
  all_goals first
   |omega
   |rw [if_pos he];exact di eIO rfl rfl rfl (H' :=F) mS ⟨rfl,rfl⟩
   |rw [if_neg (by omega)];exact di eIO rfl rfl rfl (H' :=F) mS ⟨rfl,rfl⟩
 ·rw [if_neg ha,decide_eq_false ha] at hlk;rw [I3 ha];repeat' (first|apply aa;exact rfl;exact rfl;intro w hm;exact hva w|apply aj (f:=49);exact rfl;exact rfl;exact hst _ (MSub.trans hB mS) mS;rintro _ _ (⟨he,rfl,rfl⟩|⟨he,gb,gl,gr,ga,Ac,cap,SR,SA,rfl,rfl⟩)|apply aQ (d:=32);exact rfl;apply eG (enc:=aC) (k:=a);exact rfl;exact rfl;exact pK;exact hlk|apply aj (f:=51);exact rfl;exact rfl;refine FnIn.msub (yg a L gb _ _ _ _ _ _ _ w0 _ ?_) (MSub.pick pK (MSub.refl _));exact (fun w' hm=>hl w' (MSub.use mS hm));rintro _ _ ⟨rfl,rfl⟩|refine zZL ?_|refine sM fun _=>?_|refine sC ?_ ?_<;>intro hb<;>try omega|refine sCQ ?_ ?_<;>intro hb<;>try omega|fail)
  all_goals first
   |omega
   |rw [if_pos he];exact di eIO rfl rfl rfl (H' :=F) mS ⟨rfl,rfl⟩
   |rw [if_neg (by omega)];exact di eIO rfl rfl rfl (H' :=F) mS ⟨rfl,rfl⟩
end Go.SL
namespace Go.SL
open Go Go.Proofs
attribute [local irreducible] W WL WQ WG WA WX WLI WR WT WC WE VOp RW thn blk bA scp aY aX bw FnAt FnIn FnP ceP
def grW (b:Bk):Gr:=(jr b.ents).1.getD []
attribute [local irreducible] gF jl mU
theorem pP {a:Rf} {gg:Nat} {G:Gr} {B F:List Blk} {w0:World} {L:List Rl} {N:List Gn} {x:BitVec 64} {e:Int} (h:jS G L N a=(x,e)) (R:Rdr gg G B w0) (hB:MSub B F) (Al An:Option Addr) (cl cn:Nat) (hl: ∀ w',Mem w0 w' F→Reads w' (.slice Al L.length cl) L.length (L.flatMap bQ)) (hn: ∀ w',Mem w0 w' F→Reads w' (.slice An N.length cn) N.length (N.flatMap cD)) (hN:N.length≤1000000):
 FnIn Tryz.prog 22 [.pointer (some ⟨gg,0,none⟩),aC a,.slice Al L.length cl,.slice An N.length cn] w0 F fun v H' =>v= .tuple #[vS x,.int .i64 e]∧H' =F:=by
 have h1:=Qy a gg G B F w0 R hB L N Al An cl cn hl hn hN;rw [h] at h1;exact h1
end Go.SL
namespace Go.SL
open Go Go.Proofs
attribute [local irreducible] W WL WQ WG WA WX WLI WR WT WC WE VOp RW thn blk bA scp aY aX bw FnAt FnIn FnP ceP
noncomputable def sF (G1 G2:Gr) (b c:Bk) (a:Rf):BitVec 64:=rX [(jS G1 b.rules b.grants a).1,(jS G2 c.rules c.grants a).1]
noncomputable def kN (G1 G2:Gr) (r:Rct) (b c:Bk):List (Rf × BitVec 64):=(ja G2 r c.ents).map fun a=>(a,sF G1 G2 b c a)
noncomputable def qE (r:Rct) (b:Bk):List Rf × Int:=if bkE b≠0 then ([],bkE b) else if bY r≠0 then ([],3) else (ja (grW b) r b.ents,0)
noncomputable def iN (user:Int) (r:Rct) (b c:Bk):List Rf × Int:=if jU b c≠0 then ([],jU b c) else if user<0∨min b.users c.users≤user then ([],2) else if bY r≠0 then ([],3) else (y4 (grW c) r user (kN (grW b) (grW c) r b c),0)
def DG (lo hi:Int) (ps:List (Int × Int)):List (Int × Int):=cC ((fS (tE (dq lo ps))).filter fun x=>decide (lo≤x) && decide (x≤hi)) hi
theorem MS:cf=DG:=by funext lo hi ps;unfold cf DG yZ;rw [E6]
def CX (r:Rct) (A B:List Rl):List Pz:=(DG r.r1 r.r2 (bf r A++bf r B)).flatMap fun y=>jZ A B y (DG r.c1 r.c2 (aW r A++aW r B))
theorem Ba:bW=CX:=by funext r A B;unfold bW CX;rw [MS]
def FJ (f:Rl→BitVec 64) (r:Rct) (L:List Rl):BitVec 64:=rX ((CX r L []).map fun p=>(L[p.a]?.map f).getD 0#64)
theorem OO:yq=FJ:=by funext f r L;unfold yq FJ;rw [Ba]
def ovC (r:Rct) (L:List Rl):(BitVec 64 × BitVec 64 × BitVec 64) × Int:=
 if dX r L≠0 then ((0#64,0#64,0#64),dX r L) else ((FJ (fun x=>x.read) r L,FJ (fun x=>x.write) r L,FJ (fun x=>x.own) r L),0)
theorem OL:ovE=ovC:=by funext r L;unfold ovE ovC;rw [OO]
def RF (fn:Int) (r:Rct) (L:List Rl) (g:Gn):Bool:=decide (g.rect=r) && (oT g.fns fn && (!g.rev && gD (ovC g.rect L).1.2.2 g.by_))
def oP (fn:Int) (r:Rct) (L:List Rl):List Gn→List (BitVec 64)
 | []=> []
 |g::G=>bif RF fn r L g then g.to::oP fn r L G else oP fn r L G
theorem oO {fn:Int} {r:Rct} {L:List Rl}: ∀ (G:List Gn) (i:Nat),(dY fn r L G i).map (fun x=>x.2.to)=oP fn r L G
 | [],_=>rfl
 |g::G,i=>by
  have h:Fv fn r L g=RF fn r L g:=by unfold Fv RF FW;rw [OL]
  rw [dY,oP,h];cases RF fn r L g
  ·exact oO G (i+1)
  ·exact congrArg (g.to:: ·) (oO G (i+1))
def UI (fn:Int) (r:Rct) (L:List Rl) (G:List Gn):BitVec 64:=
 if fn<46∨50<fn then 0#64 else if bY r≠0 then 0#64 else if (eV 64 L).2≠0 then 0#64 else if (lA 64 G).2≠0 then 0#64 else orS (oP fn r L G)
theorem Sa {fn:Int} {r:Rct} {L:List Rl} {G:List Gn}:(eB fn r L G).1=UI fn r L G:=by
 unfold eB UI;rw [oO];repeat' split
 all_goals rfl
def lwC (L:List Rl) (N:List Gn):Lw:=⟨fun c=>(atE c L).1.1,fun r=>(ovC r L).1.1,fun u=>if u.node<0 then 0#64 else UI u.fn u.rect L N⟩
theorem rI {L:List Rl} {N:List Gn}:dV L N=lwC L N:=by
 unfold dV lwC;rw [OL];congr 1;funext u;rw [Sa]
def itL (G:Gr) (w:Lw):Nat→Rf→BitVec 64
 |0=>w.rd
 |n+1=>fun c=>fM G w (itL G w n) (aG G c) (w.rd c)
theorem Pk {G:Gr} {w:Lw} {i:Nat}: ∀ (n:Nat) {c:Rf},seesP G w i c→(itL G w n c).getLsbD i=true
 |0,_,h=>h.out.1
 |n+1,c,h=>by
  rw [itL,ep];refine ⟨h.out.1,fun x hx=> ?_⟩;rcases h.out.2 x hx with h1|⟨h1,h2⟩
  ·exact .inl h1
  ·exact .inr ⟨h1,fun f hf hh=>Pk n (h2 f hf hh)⟩
theorem RZ {G:Gr} {w:Lw} {n:Nat} (h: ∀ c∈ap G,itL G w (n+1) c=itL G w n c) {a:Rf}:gA G w a=itL G w (n+1) a:=pM fun i=>by
 rw [fR];refine ⟨Pk (n+1),fun hi=> ?_⟩;refine ⟨fun d=>(itL G w (n+1) d).getLsbD i=true,hi,fun d hd=> ?_⟩;have hd2:(fM G w (itL G w n) (aG G d) (w.rd d)).getLsbD i=true:=hd;rw [ep] at hd2;refine ⟨hd2.1,fun x hx=> ?_⟩;rcases hd2.2 x hx with h1|⟨h1,h2⟩
 ·exact .inl h1
 ·exact .inr ⟨h1,fun f hf hh=>by dsimp only;rw [h f hf];exact h2 f hf hh⟩
def bkR:List Rl:= [⟨⟨1,1,1024,1024⟩,7#64,7#64,1#64⟩,⟨⟨2,1,2,3⟩,1#64,1#64,1#64⟩]
def bkN:List Gn:= [⟨⟨2,1,2,3⟩,1,2#64,0,false⟩]
set_option maxRecDepth 100000
theorem UR: ∀ c∈ap exG,itL exG (lwC bkR bkN) 3 c=itL exG (lwC bkR bkN) 2 c:=by decide+kernel
theorem nQ {a:Rf}:gA exG (dV bkR bkN) a=itL exG (lwC bkR bkN) 3 a:=by rw [rI];exact RZ UR
theorem TH:jS exG bkR bkN ⟨1,3⟩=(3#64,0):=by rw [jS,nQ];decide+kernel
theorem TG:jS exG bkR bkN ⟨1,4⟩=(3#64,0):=by rw [jS,nQ];decide+kernel
def n9 (inp:ByteArray):List Et:= [⟨⟨1,1⟩,⟨#[53]⟩⟩,⟨⟨2,1⟩,⟨#[49,48]⟩⟩,⟨⟨1,2⟩,inB⟩,⟨⟨2,2⟩,inp⟩,⟨⟨1,3⟩,inC⟩,⟨⟨1,4⟩,inD⟩]
def dR:ByteArray:=⟨#[50,48]⟩
def iP:ByteArray:=⟨#[50,53]⟩
def exB (inp:ByteArray):Bk:=⟨3,n9 inp,bkR,bkN,[],[],0⟩
def Nc:Bk:=⟨0,[],[],[],[],[],0⟩
theorem qw:jr (n9 dR)=(some exG,0):=by decide+kernel
theorem Bz:jr (n9 iP)=(some exG,0):=by decide+kernel
theorem yV:bkE (exB dR)=0:=by decide+kernel
theorem Gy:bkE (exB iP)=0:=by decide+kernel
theorem Di {b:Bk} {G:Gr} (h:jr b.ents=(some G,0)):grW b=G:=by unfold grW;rw [h];rfl
theorem lj:grW (exB dR)=exG:=Di qw
theorem li:grW (exB iP)=exG:=Di Bz
def uB:Rct:=⟨2,2,2,2⟩
theorem UW:eW exG [uB]= [⟨1,3⟩,⟨1,4⟩]:=by rw [eW,if_pos (by decide+kernel),rY];decide+kernel
theorem Tz {L:List Et} (h:L=n9 dR∨L=n9 iP):ja exG uB L= [⟨2,2⟩,⟨1,3⟩,⟨1,4⟩]:=by
 unfold ja;rw [UW];rcases h with rfl|rfl<;>decide+kernel
theorem WB:jS exG bkR bkN ⟨2,2⟩=(1#64,0):=by rw [jS,nQ];decide+kernel
theorem vo {b c:Bk} (h1:b.rules=bkR) (h2:b.grants=bkN) (h3:c.rules=bkR) (h4:c.grants=bkN) {a:Rf} {x:BitVec 64} (h:jS exG bkR bkN a=(x,0)):sF exG exG b c a=x:=by
 unfold sF;rw [h1,h2,h3,h4,h];show (BitVec.allOnes 64 &&& x) &&& x=x;rw [BitVec.allOnes_and,BitVec.and_self]
theorem DV {b c:Bk} (h1:b.rules=bkR) (h2:b.grants=bkN) (h3:c.rules=bkR) (h4:c.grants=bkN) (h:c.ents=n9 dR∨c.ents=n9 iP):kN exG exG uB b c= [(⟨2,2⟩,1#64),(⟨1,3⟩,3#64),(⟨1,4⟩,3#64)]:=by
 unfold kN;rw [Tz h];simp only [XD,XR];rw [vo h1 h2 h3 h4 WB,vo h1 h2 h3 h4 TH,vo h1 h2 h3 h4 TG]
theorem nO:jU (exB dR) (exB iP)=0:=by unfold jU;rw [yV,if_neg (by decide),Gy]
def VO:List Rf:= [⟨2,2⟩,⟨1,3⟩,⟨1,4⟩]
theorem ce1:iN 1 uB (exB dR) (exB iP)=([⟨1,3⟩,⟨1,4⟩],0):=by
 unfold iN;rw [nO,if_neg (by decide),if_neg (by decide),if_neg (by decide),lj,li,DV rfl rfl rfl rfl (.inr rfl)];decide+kernel
theorem cl1:qE uB (exB iP)=(VO,0):=by
 unfold qE;rw [Gy,if_neg (by decide),if_neg (by decide),li,show (exB iP).ents=n9 iP from rfl,Tz (.inr rfl)];rfl
theorem cl2:qE bU Nc=([],2):=by unfold qE;rw [show bkE Nc=2 from rfl,if_pos (by decide)]
end Go.SL
