/-
  Lemmas and walks, put together: Hu Yn Yj Yl Yk Yo Ym Yp Yq.
-/
import Derived.Test.YthgjiibbmkiplaaGreatDoorKw29
import Derived.Test.YthgjiibbmkiplaaGreatDoorKw48
set_option linter.unusedSimpArgs false
set_option linter.unusedVariables false
set_option maxRecDepth 20000
set_option maxHeartbeats 16000000
namespace Go.SL
open Go
theorem Wz:jS exG bkR bkN ⟨1,1⟩=(7#64,0):=by rw [jS,nQ];decide+kernel
theorem Ww:jS exG bkR bkN ⟨1,2⟩=(1#64,0):=by rw [jS,nQ];decide+kernel
open Go.Proofs
attribute [local irreducible] FnAt FnIn FnP RW VOp W WA WC WE WG WL WLI WQ WR WT WX aX aY bA blk bw ceP scp thn
theorem ES {w0:World} {s:az} {H:List Blk} {ty t' :TypeId} {c:Bool} {x y:Operand} {a b:Rf} (h:eqF a b=c) (hx:ev s x=some (.agg (aq a).toArray)) (hy:ev s y=some (.agg (aq b).toArray)):VOp Tryz.prog w0 s H (.binOp .eql 34 x y t') ty (.bool c):=h ▸ Ih hx hy
theorem x9 (c r:Int) (w:World):aL Tryz.prog 10 [.int .i64 c,.int .i64 r] w (aC ⟨c,r⟩):=by
 refine aB Tryz.func10 rfl Tryz.ntmps10 rfl ?_;repeat' (first|refine sT ?_|refine sM fun _=>?_|refine sC ?_ ?_<;>intro hb<;>try omega|fail)
 (refine eRC ?_)
 rfl
theorem OD (c r:Int) (w:World):aL Tryz.prog 63 [.int .i64 c,.int .i64 r] w (aC ⟨c,r⟩):=by
 refine aB Tryz.func63 rfl Tryz.ntmps63 rfl ?_;repeat' (first|refine sT ?_|refine sM fun _=>?_|refine sC ?_ ?_<;>intro hb<;>try omega|fail)
 (refine eRC ?_)
 rfl
def WM:Gn:=⟨⟨2,1,2,3⟩,1,2#64,0,false⟩
theorem JP (w:World):aL Tryz.prog 30 [] w (.agg (cD WM).toArray):=by
 refine aB Tryz.func30 rfl Tryz.ntmps30 rfl ?_;repeat' (first|refine sT ?_|refine sM fun _=>?_|refine sC ?_ ?_<;>intro hb<;>try omega|fail)
 (refine eRC ?_)
 rfl
theorem DP (w:World):FnAt Tryz.prog 29 [] w fun v H=> ∃ ge gr,v= .agg #[.int .i64 3,.slice (some ⟨ge,0,none⟩) 6 6,.slice (some ⟨gr,0,none⟩) 2 2,.slice none 0 0,.slice none 0 0,.slice none 0 0,.int .i64 0]∧H= [.own (some ge) 79 3 6 6 ((n9 dR).flatMap bN),.own (some gr) 137 7 2 2 (bkR.flatMap bQ)]:=by
 refine aB Tryz.func29 rfl Tryz.ntmps29 rfl ?_;repeat' (first|apply aa (f:=63);exact rfl;exact rfl;intro w' _;exact OD _ _ w'|refine zZB ?_|refine sM fun _=>?_|refine sC ?_ ?_<;>intro hb<;>try omega|fail)
 rename_i g0 ge gr;exact zL (.inl rfl) rfl rfl pK rfl (H' := [.own (some ge) 79 3 6 6 ((n9 dR).flatMap bN),.own (some gr) 137 7 2 2 (bkR.flatMap bQ)]) mS ⟨ge,gr,rfl,rfl⟩
def exI (inp:ByteArray) (i:Nat):List Et:=if i≤3 then n9 dR else n9 inp
theorem tH (inp:ByteArray) (w:World):FnAt Tryz.prog 8 [.string inp] w fun v H=> ∃ a:Bo,v= .agg (bg (exB inp) a.v).toArray∧H=iB (exB inp) a:=by
 have hr2:=fun w=>x9 2 2 w;refine aB Tryz.func8 rfl Tryz.ntmps8 rfl ?_;refine aF 147 9 ?_;refine aF 149 11 ?_;repeat' (first|apply aw (f:=29);exact rfl;exact rfl;intro w' _;exact DP w';rintro _ _ ⟨ge,gr,rfl,rfl⟩;simp only [Xc,Xd]|apply aa (f:=30);exact rfl;exact rfl;intro w' _;exact JP w'|refine zZB ?_|refine sM fun _=>?_|refine sC ?_ ?_<;>intro hb<;>try omega|fail)
 all_goals try omega
 rename_i g2 g3 gn;refine ax [0,2,3] rfl (fun i:Nat=> [(4,.int .i64 (i:Int))]) (fun i=> .box g3 28 [.int .i64 3,.slice (some ⟨ge,0,none⟩) 6 6,.slice (some ⟨gr,0,none⟩) 2 2,.slice (some ⟨gn,0,none⟩) 1 1,.slice none 0 0,.slice none 0 0,.int .i64 0]:: .box g2 28 [.int .i64 0,.slice none 0 0,.slice none 0 0,.slice none 0 0,.slice none 0 0,.slice none 0 0,.int .i64 0]:: .own (some ge) 79 3 6 6 ((exI inp i).flatMap bN):: .own (some gr) 137 7 2 2 (bkR.flatMap bQ):: .own (some gn) 76 8 1 1 (bkN.flatMap cD):: .own none 147 9 0 0 []:: .own none 149 11 0 0 []:: []) (fun i=>i≤6) (fun i=>6 - i) 0 (by decide) sB mS ?_;intro i hi;by_cases hlt:i<6
 ·obtain ⟨a,c,hread,heq,hno,hset⟩: ∃ a c,(((exI inp i).flatMap bN).drop (0+i*3+0)).take 2=aq a∧eqF a ⟨2,2⟩=c∧(c=false→(exI inp (i+1)).flatMap bN=(exI inp i).flatMap bN)∧(c=true→((exI inp i).flatMap bN).set (0+i*3+2) (.string inp)=(exI inp (i+1)).flatMap bN):=by
   rcases (show i=0∨i=1∨i=2∨i=3∨i=4∨i=5 by omega) with rfl|rfl|rfl|rfl|rfl|rfl
   ·exact ⟨⟨1,1⟩,false,rfl,by decide,fun _=>rfl,fun h=>(by cases h)⟩
   ·exact ⟨⟨2,1⟩,false,rfl,by decide,fun _=>rfl,fun h=>(by cases h)⟩
   ·exact ⟨⟨1,2⟩,false,rfl,by decide,fun _=>rfl,fun h=>(by cases h)⟩
   ·exact ⟨⟨2,2⟩,true,rfl,by decide,fun h=>(by cases h),fun _=>rfl⟩
   ·exact ⟨⟨1,3⟩,false,rfl,by decide,fun _=>rfl,fun h=>(by cases h)⟩
   ·exact ⟨⟨1,4⟩,false,rfl,by decide,fun _=>rfl,fun h=>(by cases h)⟩
  have hl18:((exI inp i).flatMap bN).length=18:=by unfold exI;split<;>rfl
  have hln:0+i*3+2<((exI inp i).flatMap bN).length:=by omega
  clear hl18;generalize (exI inp i).flatMap bN=Ei at hread hset hno hln ⊢
  cases c with
  |false=>
   have hno:=hno rfl;repeat' (first|refine zZA ?_|refine sM fun _=>?_|refine sC ?_ ?_<;>intro hb<;>try omega|fail)
   all_goals try omega
   refine bT (id:=6) [6] [] [.own (some ge) 79 3 6 6 Ei,.box g3 28 [.int .i64 3,.slice (some ⟨ge,0,none⟩) 6 6,.slice (some ⟨gr,0,none⟩) 2 2,.slice (some ⟨gn,0,none⟩) 1 1,.slice none 0 0,.slice none 0 0,.int .i64 0]] (by kernel_rfl) (by kernel_rfl) (by kernel_rfl) mS ?_;repeat' (first|apply fH (d:=19);(iterate 3 exact rfl);apply ai (j:=i);exact rfl;exact rfl;exact hlt|apply fH (d:=21);(iterate 3 exact rfl);apply au (ys:=aq a);exact rfl;exact pK;exact hread;exact rfl|apply aa (f:=10);exact rfl;exact rfl;intro w' hm;exact hr2 w'|apply fH (d:=23);(iterate 3 exact rfl);apply ES heq;exact rfl;exact rfl|refine zZH ?_|refine sM fun _=>?_|refine sC ?_ ?_<;>intro hb<;>try omega|refine sCW ?_ ?_<;>intro hb<;>try omega|fail)
   all_goals try omega
   refine ⟨i+1,hlt,by omega,by exact sB,by exact sB,?_⟩;rw [hno];exact mS
  |true=>
   have hset:=hset rfl;repeat' (first|refine zZA ?_|refine sM fun _=>?_|refine sC ?_ ?_<;>intro hb<;>try omega|fail)
   all_goals try omega
   refine bT (id:=6) [6] [] [.own (some ge) 79 3 6 6 Ei,.box g3 28 [.int .i64 3,.slice (some ⟨ge,0,none⟩) 6 6,.slice (some ⟨gr,0,none⟩) 2 2,.slice (some ⟨gn,0,none⟩) 1 1,.slice none 0 0,.slice none 0 0,.int .i64 0]] (by kernel_rfl) (by kernel_rfl) (by kernel_rfl) mS ?_;repeat' (first|apply fH (d:=19);(iterate 3 exact rfl);apply ai (j:=i);exact rfl;exact rfl;exact hlt|apply fH (d:=21);(iterate 3 exact rfl);apply au (ys:=aq a);exact rfl;exact pK;exact hread;exact rfl|apply aa (f:=10);exact rfl;exact rfl;intro w' hm;exact hr2 w'|apply fH (d:=23);(iterate 3 exact rfl);apply ES heq;exact rfl;exact rfl|apply ak (d:=28);exact rfl;apply ai (j:=i);exact rfl;exact rfl;exact hlt|apply eF;exact rfl;exact rfl;exact pK;exact rfl;exact hln|refine zZH ?_|refine sM fun _=>?_|refine sC ?_ ?_<;>intro hb<;>try omega|refine sCW ?_ ?_<;>intro hb<;>try omega|fail)
   all_goals try omega
   rw [hset];refine ⟨i+1,hlt,by omega,by exact sB,by exact sB,by exact mS⟩
 ·have e:i=6:=by omega
  subst e;have e6:exI inp 6=n9 inp:=rfl;rw [e6];repeat' (first|refine zZA ?_|refine sM fun _=>?_|refine sC ?_ ?_<;>intro hb<;>try omega|fail)
  all_goals first
   |omega
   |exact zL eIO rfl rfl pK rfl (H' :=iB (exB inp) ⟨some ge,some gr,some gn,none,none,6,2,1,0,0⟩) (by unfold iB;exact mS) ⟨⟨some ge,some gr,some gn,none,none,6,2,1,0,0⟩,rfl,rfl⟩
theorem MSub.two {a b:Blk} {X Y:List Blk} (h:MSub X Y):MSub (a::b::X) (a::b::Y):=MSub.pick .hd (MSub.pick .hd h)
def GBlk (gg:Nat) (G:Gr) (B:List Blk):Prop:= ∃ gm E clock R,B=gB gg gm (E.map En.m) clock++R∧GOk R E clock G
theorem GBlk.rdr {gg:Nat} {G:Gr} {B:List Blk} (h:GBlk gg G B) (hG:GrOk G) (hl:G.length≤900) (w0:World):Rdr gg G B w0:=by
 obtain ⟨gm,E,clock,R,rfl,hA⟩:=h;exact hA.rdr hG hl gg gm w0
theorem C9 {L:List Et} {G:Gr} (hG:jr L=(some G,0)) (lv:Value) (w:World) (ht:Reads w lv L.length (L.flatMap bN)) (hlen:L.length≤1000000) (hW:Words w):
 FnAt Tryz.prog 21 [lv] w fun v H=> ∃ gg B,GBlk gg G B∧v= .tuple #[.pointer (some ⟨gg,0,none⟩),.int .i64 0]∧H=B:=by
 have h:=zr L lv w ht hlen hW;rw [hG] at h;refine h.mono fun v H hh=> ?_;obtain ⟨gg,gm,E,clock,R,h1,h2,h3⟩:=(show ∃ gg gm E clock R,v= .tuple #[.pointer (some ⟨gg,0,none⟩),.int .i64 0]∧H=gB gg gm (E.map En.m) clock++R∧GOk R E clock G from hh);exact ⟨gg,_,⟨gm,E,clock,R,rfl,h3⟩,h1,h2⟩
theorem xH (G1 G2:Gr) (r:Rct) (b c:Bk):(kN G1 G2 r b c).length=(ja G2 r c.ents).length:=Xq _
theorem NE (G1 G2:Gr) (r:Rct) (b c:Bk):((kN G1 G2 r b c).map fun z=>z.1)=ja G2 r c.ents:=by unfold kN;rw [YL];exact List.map_id _
theorem ND (G1 G2:Gr) (r:Rct) (b c:Bk):((kN G1 G2 r b c).map fun z=>z.2)=(ja G2 r c.ents).map (sF G1 G2 b c):=by unfold kN;rw [YL];rfl
theorem zb (G:Gr) (r:Rct) (L:List Et):(ja G r L).length≤L.length:=by unfold ja;rw [Xq];exact XS _ _
theorem NC (r:Rct) (hr:aA r=true) (b c:Bk) (x y:Bv) (w:World) (h:BRd w b x) (k:BRd w c y) (hW:Words w) (G1 G2:Gr) (hG1:jr b.ents=(some G1,0)) (hG2:jr c.ents=(some G2,0)) (hGo1:GrOk G1) (hGo2:GrOk G2) (hl1:G1.length≤900) (hl2:G2.length≤900) (he1:b.ents.length≤1000000) (he2:c.ents.length≤1000000) (hn1:b.grants.length≤1000000) (hn2:c.grants.length≤1000000):
 FnAt Tryz.prog 32 [.agg (ay r).toArray,.agg (bg b x).toArray,.agg (bg c y).toArray] w fun v H=> ∃ gg B Aa ca As cs,GBlk gg G2 B∧v= .agg (yY gg r Aa (kN G1 G2 r b c).length ca As (kN G1 G2 r b c).length cs).toArray∧H= .own Aa 34 2 (kN G1 G2 r b c).length ca (((kN G1 G2 r b c).map fun z=>z.1).flatMap aq):: .own As 57 1 (kN G1 G2 r b c).length cs (((kN G1 G2 r b c).map fun z=>z.2).map vS)::B:=by
 have hN1:=fun (w' :World) (H:List Blk) (hm:Mem w w' H)=>C9 hG1 _ w' (h.e.of_w0 hm) he1 (hW.next hm);have hN2:=fun (w' :World) (H:List Blk) (hm:Mem w w' H)=>C9 hG2 _ w' (k.e.of_w0 hm) he2 (hW.next hm);have hcl:=fun (gg:Nat) (B F:List Blk) (D:GBlk gg G2 B) (hs:MSub B F)=>u7 (D.rdr hGo2 hl2 w) hs r hr c y he2 (fun w' hm=>k.e.of_w0 hm);refine aB Tryz.func32 rfl Tryz.ntmps32 rfl ?_;simp only [xH,NE,ND];have hKl:=zb G2 r c.ents;generalize ja G2 r c.ents=K at hcl hKl ⊢;simp only [bg,yY] at hcl ⊢;refine aF 57 1 ?_;repeat' (first|apply aw (d:=21);exact rfl;exact rfl;intro w' hm;exact hN1 w' _ hm;rintro _ B1 ⟨gg1,_,D1,rfl,rfl⟩;refine cJ (_++B1) MSub.swap ?_;simp only [Xc,Xd]|apply aw (d:=27);exact rfl;exact rfl;intro w' hm;exact hN2 w' _ hm;rintro _ B2 ⟨gg2,_,D2,rfl,rfl⟩;refine cJ (_++B2) MSub.swap ?_;simp only [Xc,Xd];have hs1:MSub B1 (B1++B2):=MSub.appL _ _;have hs2:MSub B2 (B1++B2):=MSub.appR _ _;generalize B1++B2=BB at hs1 hs2 ⊢|refine zZA ?_|refine sM fun _=>?_|refine sC ?_ ?_<;>intro hb<;>try omega|fail)
 all_goals try omega
 rename_i g3 g4 g5 g6;have hcl:=fun F hs=>hcl gg2 B2 F D2 hs;have R1:=D1.rdr hGo1 hl1 w;have R2:=D2.rdr hGo2 hl2 w;clear hN1 hN2;refine fw (id:=3) [5,7,8] [.box g3 31 (ay r),.box g5 28 [.int .i64 c.users,.slice y.ae c.ents.length y.ce,.slice y.ar c.rules.length y.cr,.slice y.ag c.grants.length y.cg,.slice y.al c.log.length y.cl,.slice y.as_ c.rels.length y.cs,.int .i64 c.step]] 9 rfl rfl mS ?_;repeat' (first|apply ba (i:=0);(iterate 4 exact rfl);(iterate 3 decide+kernel);exact vC|apply ba (i:=1);(iterate 4 exact rfl);(iterate 3 decide+kernel);exact vC|apply ba (i:=2);(iterate 4 exact rfl);(iterate 3 decide+kernel);exact vC|apply ba (i:=3);(iterate 4 exact rfl);(iterate 3 decide+kernel);exact vC|apply ba (i:=4);(iterate 4 exact rfl);(iterate 3 decide+kernel);exact vC|apply ba (i:=6);(iterate 4 exact rfl);(iterate 3 decide+kernel);exact vC|apply cF (i:=5) (j:=7);(iterate 6 exact rfl);decide+kernel|apply bk (i:=5);(iterate 3 exact rfl);decide+kernel|apply bk (i:=7);(iterate 3 exact rfl);decide+kernel|apply bk (i:=8);(iterate 3 exact rfl);decide+kernel|apply fu;decide+kernel|apply rW;(focus (exact mS;done))|apply aj (f:=36);exact rfl;exact rfl;refine hcl _ ?_;(focus (exact MSub.trans hs2 mS));rintro _ _ ⟨Aa,ca,rfl,rfl⟩|refine zZA ?_|refine sM fun _=>?_|refine sC ?_ ?_<;>intro hb<;>try omega|fail)
 all_goals try omega
 all_goals rename_i g11
 all_goals
  refine ax [4,5,6,7,9,11,38,39] rfl (fun y:Nat × Option Nat × Nat=> [(40,.int .i64 (y.1:Int))]) (fun z=> .own Aa 34 2 K.length ca (K.flatMap aq):: .own z.2.1 57 1 z.1 z.2.2 (((K.take z.1).map (sF G1 G2 b c)).map vS):: .box g11 83 [.pointer (some ⟨gg2,0,none⟩),.int .i64 r.c1,.int .i64 r.r1,.int .i64 r.c2,.int .i64 r.r2,sl Aa K.length ca,sl z.2.1 z.1 z.2.2]:: .box g4 28 [.int .i64 b.users,.slice x.ae b.ents.length x.ce,.slice x.ar b.rules.length x.cr,.slice x.ag b.grants.length x.cg,.slice x.al b.log.length x.cl,.slice x.as_ b.rels.length x.cs,.int .i64 b.step]:: .box g5 28 [.int .i64 c.users,.slice y.ae c.ents.length y.ce,.slice y.ar c.rules.length y.cr,.slice y.ag c.grants.length y.cg,.slice y.al c.log.length y.cl,.slice y.as_ c.rels.length y.cs,.int .i64 c.step]:: .box g6 83 [.pointer none,.int .i64 0,.int .i64 0,.int .i64 0,.int .i64 0,.slice none 0 0,.slice none 0 0]::BB) (fun z=>z.1≤K.length) (fun z=>K.length - z.1) (0,none,0) (Xn _) sB (by rw [YF,XR,XR];exact mS) ?_;rintro ⟨i,As,cs⟩ hi;dsimp only at hi ⊢;by_cases hlt:i<K.length
  ·refine aU (A:=Aa) pK (by omega) fun ga hA=> ?_;subst hA;have hread:((K.flatMap aq).drop (0+i*2)).take 2=aq K[i]:=by rw [Xv];exact aM bD K i hlt
   have hsn:(K.take (i+1)).map (sF G1 G2 b c)=(K.take i).map (sF G1 G2 b c)++ [sF G1 G2 b c K[i]]:=by rw [Xk hlt,XI];rfl
   have hXl:((K.take i).map (sF G1 G2 b c)).length=i:=by rw [Xq,XA];omega
   generalize K[i]=a at hread hsn;unfold sF at hsn;obtain ⟨p1,hp1⟩: ∃ p,jS G1 b.rules b.grants a=p:=⟨_,rfl⟩;obtain ⟨p2,hp2⟩: ∃ p,jS G2 c.rules c.grants a=p:=⟨_,rfl⟩;obtain ⟨x1,e1⟩:=p1;obtain ⟨x2,e2⟩:=p2;rw [hp1,hp2] at hsn;dsimp only at hsn;change (K.take (i+1)).map (sF G1 G2 b c)=(K.take i).map (sF G1 G2 b c)++_ at hsn;generalize (K.take i).map (sF G1 G2 b c)=X at hsn hXl ⊢;have hXS:(X++ [rX [x1,x2]]).map vS=X.map vS++ [vS (rX [x1,x2])]:=by rw [XI];rfl
   repeat' first|apply ak (d:=42);exact rfl;apply ai (j:=i);exact rfl;exact rfl;exact hlt|apply ak (d:=43);exact rfl;apply au (ys:=aq a);exact rfl;exact pK;exact hread;exact rfl|apply aj (d:=51);exact rfl;exact rfl;refine pP (N:=b.grants) (L:=b.rules) hp1 R1 ?_ _ _ _ _ (fun w' hm=>h.r.of_w0 hm) (fun w' hm=>h.g.of_w0 hm) hn1;(focus (exact MSub.trans hs1 mS));rintro _ _ ⟨rfl,rfl⟩|apply aj (d:=61);exact rfl;exact rfl;refine pP (N:=c.grants) (L:=c.rules) hp2 R2 ?_ _ _ _ _ (fun w' hm=>k.r.of_w0 hm) (fun w' hm=>k.g.of_w0 hm) hn2;(focus (exact MSub.trans hs2 mS));rintro _ _ ⟨rfl,rfl⟩|refine zZA ?_|refine sM fun _=>?_|refine sC ?_ ?_<;>intro hb<;>try omega|fail
   all_goals try omega
   refine fw (id:=9) [1,4,5,6,7,9] [] 10 rfl rfl (MSub.nil _) ?_;repeat' (first|apply ba (i:=0);(iterate 4 exact rfl);(iterate 3 decide+kernel);exact vC|apply ba (i:=2);(iterate 4 exact rfl);(iterate 3 decide+kernel);exact vC|apply ba (i:=3);(iterate 4 exact rfl);(iterate 3 decide+kernel);exact vC|apply ba (i:=8);(iterate 4 exact rfl);(iterate 3 decide+kernel);exact vC|apply cF (i:=1) (j:=4);(iterate 6 exact rfl);decide+kernel|apply cF (i:=1) (j:=5);(iterate 6 exact rfl);decide+kernel|apply cF (i:=1) (j:=6);(iterate 6 exact rfl);decide+kernel|apply bk (i:=1);(iterate 3 exact rfl);decide+kernel|apply bk (i:=4);(iterate 3 exact rfl);decide+kernel|apply bk (i:=5);(iterate 3 exact rfl);decide+kernel|apply bk (i:=6);(iterate 3 exact rfl);decide+kernel|apply bk (i:=7);(iterate 3 exact rfl);decide+kernel|apply bk (i:=9);(iterate 3 exact rfl);decide+kernel|apply fu;decide+kernel|apply rW;(focus (exact mS;done))|apply aa (f:=64);exact rfl;exact rfl;intro w' hm;exact BV [x1,x2] _ w' (Reads.of_own (A:=some _) hm pK)|apply aN (d:=71) (A:=As) (m:=1);(iterate 3 exact rfl);exact pK;intro w hm;exact hm.cells_own pK;exact rfl;simp [Value.oneCell',sl,vS];omega;simp only [maxLen];omega;intro B5 b5 hB5|refine zZA ?_|refine sM fun _=>?_|refine sC ?_ ?_<;>intro hb<;>try omega|fail)
   all_goals first
    |omega
    |refine ⟨(i+1,B5,b5),hlt,by dsimp only;omega,by exact sB,by exact sB,?_⟩;dsimp only;rw [hsn,hXS];exact mS;done
  ·have e:i=K.length:=by omega
   subst e;rw [XF];repeat' (first|refine zZA ?_|refine sM fun _=>?_|refine sC ?_ ?_<;>intro hb<;>try omega|fail)
   all_goals first
    |omega
    |skip
   exact zL eIO rfl rfl pK rfl (H' := .own Aa 34 2 K.length ca (K.flatMap aq):: .own As 57 1 K.length cs ((K.map (sF G1 G2 b c)).map vS)::B2) (MSub.trans (MSub.two hs2) mS) ⟨gg2,B2,Aa,ca,As,cs,D2,rfl,rfl⟩
theorem M5 (n:Int) (h:n=1∨n=2∨n=3∨n=4) (w:World):aL Tryz.prog 110 [.int .u64 1,.int .u64 n] w (.tuple #[.int .u64 0,.int .u64 n]):=by
 rcases h with rfl|rfl|rfl|rfl
 all_goals
  refine aB Tryz.func110 rfl Tryz.ntmps110 rfl ?_;repeat' (first|apply ak;exact rfl;apply NT;exact rfl;exact rfl|apply ak;exact rfl;apply EK (m:=32);(iterate 3 exact rfl)|apply ak;exact rfl;apply Ib;exact rfl;exact rfl|apply ak;exact rfl;apply CI;exact rfl;exact rfl|refine sT ?_|refine sM fun _=>?_|refine sC ?_ ?_<;>intro hb<;>try omega|fail)
  (refine rT2 ?_);kernel_rfl
theorem ST (n:Int) (h:n=1∨n=2∨n=3∨n=4) (w:World):aL Tryz.prog 67 [.int .u64 1,.int .u64 n] w (.tuple #[.int .u64 0,.int .u64 n]):=by
 have hM:=fun w=>M5 n h w;refine aB Tryz.func67 rfl Tryz.ntmps67 rfl ?_;repeat' (first|apply aa (f:=110);exact rfl;exact rfl;intro w' hm;exact hM w'|refine sT ?_|refine sM fun _=>?_|refine sC ?_ ?_<;>intro hb<;>try omega|fail)
 all_goals first|omega|(refine rT2 ?_);rfl
theorem OB {w:World} {g o n k:Nat} {z:Value} (h:Cells w g o (List.replicate n z)) (hk:k≤n):Cells w g o (List.replicate k z):=by
 have h9:=h.take (k:=k);rwa [List.take_replicate,YO hk] at h9
theorem KO (N:Nat):((List.range (N*1)).map fun i=> [Value.int .i64 0][i % [Value.int .i64 0].length]!)=List.replicate N (.int .i64 0):=by
 apply List.ext_getElem
 ·simp
 ·intro i h1 h2;simp [Nat.mod_one]
theorem JK (n:Nat) (h:n=1∨n=2∨n=3∨n=4) (lv:Value) (w:World) (hl:Reads w lv 1 [.int .i64 0]):
 FnAt Tryz.prog 34 [lv,.int .i64 (n:Int)] w fun v H=> ∃ g,v= .slice (some ⟨g,0,none⟩) n n∧H= [.own (some g) 3 1 n n (List.replicate n (.int .i64 0))]:=by
 have hM:=fun w=>ST n (by omega) w;have hl0:=hl;obtain ⟨Al,cl,rfl,hl1,hl2,hl3⟩:=hl;obtain ⟨gx,ox,rfl, -⟩:=hl3 (by decide);have hn4:1≤n∧n≤4:=by omega
 have hcv:IntKind.u64.wrap (n:Int)=(n:Int):=by rw [IntKind.wrap_u64];omega
 have hci:IntKind.i64.wrap (n:Int)=(n:Int):=I64.wrap ⟨by omega,by omega⟩;refine aB Tryz.func34 rfl Tryz.ntmps34 rfl ?_;repeat' (first|apply ak (d:=15);exact rfl;apply cM (c:=1);exact rfl;exact rfl|apply ak (d:=17);exact rfl;apply cM (c:=(n:Int));exact rfl;exact hcv|apply ak (d:=29);exact rfl;apply cM (c:=(n:Int));exact rfl;exact hci|apply aa (f:=67);exact rfl;exact rfl;intro w' hm;exact hM w'|apply Ci (c:=n);(iterate 3 exact rfl);omega;simp only [maxLen];omega;intro gO;rw [KO]|apply Ed (d:=33) (k:=1) (o:=0) (z:= .int .i64 0);(iterate 3 exact rfl);exact pK;exact YO hn4.1;omega;intro w' hm;exact pJ (hl0.of_w0 hm) (by decide);exact rfl|refine zZB ?_|refine sM fun _=>?_|refine sC ?_ ?_<;>intro hb<;>try omega|fail)
 all_goals try omega
 refine ax [7] rfl (fun bp:Nat=> [(8,.int .i64 (bp:Int))]) (fun _=> [.own (some gO) 3 1 n n (List.replicate n (.int .i64 0))]) (fun bp=>1≤bp∧bp≤n) (fun bp=>n - bp) 1 ⟨Xy _,hn4.1⟩ sB mS ?_;rintro bp ⟨h1,h2⟩;by_cases hlt:bp<n
 ·obtain ⟨k,hk⟩: ∃ k,Nat.min bp (n - bp)=k:=⟨_,rfl⟩;have hk1:1≤k∧bp+k≤n:=by have:min bp (n - bp)=k:=hk;omega
  repeat' first|refine zZA ?_|refine sM fun _=>?_|refine sC ?_ ?_<;>intro hb<;>try omega|fail
  all_goals try omega
  refine bT (id:=9) [7] [] [] (by kernel_rfl) (by kernel_rfl) (by kernel_rfl) (MSub.nil _) ?_;repeat' (first|apply fH (d:=41);(iterate 3 exact rfl);apply Ug (lo:=bp);exact rfl;exact rfl;exact h2;exact Xy _;exact hlt|apply fH (d:=44);(iterate 3 exact rfl);apply Q3 (hi:=bp);exact rfl;exact rfl;exact h2|apply Ed (d:=45) (k:=k) (o:=bp) (z:= .int .i64 0);(iterate 3 exact rfl);exact pK;exact hk;exact hk1.2;intro w' hm;exact OB (hm.cells_own pK) (by omega);exact rfl|refine zZH ?_|refine sM fun _=>?_|refine sC ?_ ?_<;>intro hb<;>try omega|refine sCW ?_ ?_<;>intro hb<;>try omega|fail)
  all_goals first
   |omega
   |refine ⟨bp+k,⟨by omega,hk1.2⟩,by omega,by exact sB,by exact sB,by exact mS⟩;done
 ·have e:bp=n:=by omega
  subst e;repeat' (first|refine zZA ?_|refine sM fun _=>?_|refine sC ?_ ?_<;>intro hb<;>try omega|fail)
  all_goals first
   |omega
   |refine bo eIO rfl rfl (H' := [.own (some gO) 3 1 bp bp (List.replicate bp (.int .i64 0))]) mS ⟨gO,rfl,rfl⟩;done
noncomputable def jd (r:Rct) (b c:Bk):List Int × Int:=if jU b c≠0 then ([],jU b c) else if b.users≠c.users then ([],2) else if bY r≠0 then ([],3) else ((List.range c.users.toNat).map fun (u:Nat)=>((y4 (grW c) r (u:Int) (kN (grW b) (grW c) r b c)).length:Int),0)
def pz (f:Nat→Int) (n i:Nat):List Int:=(List.range n).map fun u=>if u<i then f u else 0
theorem MI (f:Nat→Int) (n i:Nat):(pz f n i).length=n:=by unfold pz;rw [Xq,ZJ]
theorem Jw (f:Nat→Int) (n:Nat):(pz f n 0).map (Value.int .i64)=List.replicate n (.int .i64 0):=by
 apply Yw;intro j;unfold pz;rw [YL,XN,List.getElem?_replicate];by_cases h:j<n
 ·rw [Z7 h,if_pos h];rfl
 ·rw [Yx (by rw [ZJ];omega),if_neg h];rfl
theorem MJ (f:Nat→Int) (n:Nat):pz f n n=(List.range n).map f:=YU fun u hu=>if_pos (ZN.1 hu)
theorem MH (f:Nat→Int) {n i:Nat} (h:i<n):((pz f n i).map (Value.int .i64)).set (0+i*1) (.int .i64 (f i))=(pz f n (i+1)).map (Value.int .i64):=by
 apply Yw;intro j;rw [List.getElem?_set];unfold pz;simp only [Xq,ZJ,XN];by_cases e:0+i*1=j
 ·rw [if_pos e,if_pos (by omega),Z7 (by omega)];simp only [Ys];rw [if_pos (by omega),show j=i by omega]
 ·rw [if_neg e];by_cases hj:j<n
  ·rw [Z7 hj];simp only [Ys];by_cases hji:j<i
   ·rw [if_pos hji,if_pos (by omega)]
   ·rw [if_neg hji,if_neg (by omega)]
  ·rw [Yx (by rw [ZJ];omega)];rfl
structure GrBk (b:Bk):Prop where
 new:jr b.ents=(some (grW b),0)
 ok:GrOk (grW b)
 len:(grW b).length≤900
 el:b.ents.length≤1000000
 gl:b.grants.length≤1000000
theorem HE (r:Rct) (b:Bk) (x:Bv) (w:World) (h:BRd w b x) (hW:Words w) (hel:b.ents.length≤1000000) (hg:bkE b=0→GrBk b):
 FnAt Tryz.prog 14 [.agg (ay r).toArray,.agg (bg b x).toArray] w fun v H=> ∃ A c,v= .tuple #[sl A (qE r b).1.length c,.int .i64 (qE r b).2]∧H= [.own A 34 2 (qE r b).1.length c ((qE r b).1.flatMap aq)]:=by
 have hb:=fun (w' :World) (H:List Blk) (hm:Mem w w' H)=>nS b x w' (h.of_w0 hm) (hW.next hm) hel;have hre:=fun w' =>dQ r w';refine aB Tryz.func14 rfl Tryz.ntmps14 rfl ?_;unfold qE;by_cases he:bkE b≠0
 ·rw [if_pos he];generalize bkE b=e at hb he ⊢;simp only [bg] at hb ⊢;refine aF 34 2 ?_;repeat' (first|apply aa (f:=35);exact rfl;exact rfl;intro w' hm;exact hb w' _ hm|refine zZB ?_|refine sM fun _=>?_|refine sC ?_ ?_<;>intro hb<;>try omega|fail)
  all_goals first
   |omega
   |refine di eIO rfl rfl rfl (H' := [.own none 34 2 0 0 []]) mS ⟨none,0,rfl,rfl⟩;done
 ·have he0:bkE b=0:=by omega
  rw [if_neg he];rw [he0] at hb;have hgb:=hg he0;by_cases hr:bY r≠0
  ·rw [if_pos hr];generalize bY r=e at hre hr ⊢;simp only [bg] at hb ⊢;refine aF 34 2 ?_;repeat' (first|apply aa (f:=35);exact rfl;exact rfl;intro w' hm;exact hb w' _ hm|apply aa (f:=24);exact rfl;exact rfl;intro w' hm;exact hre w'|refine zZB ?_|refine sM fun _=>?_|refine sC ?_ ?_<;>intro hb<;>try omega|fail)
   all_goals first
    |omega
    |refine di eIO rfl rfl rfl (H' := [.own none 34 2 0 0 []]) mS ⟨none,0,rfl,rfl⟩;done
  ·have hr0:bY r=0:=by omega
   rw [if_neg hr];rw [hr0] at hre;have hro:=(jm r).1 hr0;have hN:=fun (w' :World) (H:List Blk) (hm:Mem w w' H)=>C9 hgb.new _ w' (h.e.of_w0 hm) hel (hW.next hm);have hcl:=fun (gg:Nat) (B F:List Blk) (D:GBlk gg (grW b) B) (hs:MSub B F)=>u7 (D.rdr hgb.ok hgb.len w) hs r hro b x hel (fun w' hm=>h.e.of_w0 hm);generalize ja (grW b) r b.ents=K at hcl ⊢;simp only [bg] at hb hcl ⊢;repeat' (first|apply aa (f:=35);exact rfl;exact rfl;intro w' hm;exact hb w' _ hm|apply aa (f:=24);exact rfl;exact rfl;intro w' hm;exact hre w'|apply aw (f:=21);exact rfl;exact rfl;intro w' hm;exact hN w' _ hm;rintro _ B1 ⟨gg1,_,D1,rfl,rfl⟩;refine cJ (_++B1) MSub.swap ?_;simp only [Xc,Xd]|apply aj (f:=36);exact rfl;exact rfl;refine hcl _ B1 _ D1 ?_;(focus (exact mS;done));rintro _ _ ⟨Aa,ca,rfl,rfl⟩|refine zZB ?_|refine sM fun _=>?_|refine sC ?_ ?_<;>intro hb<;>try omega|fail)
   all_goals first
    |omega
    |refine di eIO rfl rfl rfl (H' := [.own Aa 34 2 K.length ca (K.flatMap aq)]) mS ⟨Aa,ca,rfl,rfl⟩;done
theorem Ie {P:Program} {w0:World} {s:az} {H:List Blk} {ty:TypeId} {x y:Operand} {a b m:Int} {ts:Array TypeId} (he:min a b=m) (hx:ev s x=some (.int .i64 a)) (hy:ev s y=some (.int .i64 b)):
 VOp P w0 s H (.call { callee:= .builtin .min,args:= #[x,y],argTypes:=ts }) ty (.int .i64 m):=(show (if b<a then b else a)=m by rw [← he];split<;>omega) ▸ Aj hx hy
theorem M0 (user:Int) (r:Rct) (b c:Bk) (x y:Bv) (w:World) (h:BRd w b x) (k:BRd w c y) (hW:Words w) (hel:b.ents.length≤1000000) (hel2:c.ents.length≤1000000) (hg:jU b c=0→GrBk b∧GrBk c):
 FnAt Tryz.prog 11 [.int .i64 user,.agg (ay r).toArray,.agg (bg b x).toArray,.agg (bg c y).toArray] w fun v H=> ∃ A cp,v= .tuple #[sl A (iN user r b c).1.length cp,.int .i64 (iN user r b c).2]∧H= [.own A 34 2 (iN user r b c).1.length cp ((iN user r b c).1.flatMap aq)]:=by
 have hck:=fun (w' :World) (H:List Blk) (hm:Mem w w' H)=>zZ b c x y w' (h.of_w0 hm) (k.of_w0 hm) (hW.next hm) hel hel2;have hre:=fun w' =>dQ r w';refine aB Tryz.func11 rfl Tryz.ntmps11 rfl ?_;unfold iN;by_cases he:jU b c≠0
 ·rw [if_pos he];generalize jU b c=e at hck he ⊢;simp only [bg] at hck ⊢;refine aF 34 2 ?_;repeat' (first|apply aa (f:=31);exact rfl;exact rfl;intro w' hm;exact hck w' _ hm|refine zZB ?_|refine sM fun _=>?_|refine sC ?_ ?_<;>intro hb<;>try omega|fail)
  all_goals first
   |omega
   |refine di eIO rfl rfl rfl (H' := [.own none 34 2 0 0 []]) mS ⟨none,0,rfl,rfl⟩;done
 ·have he0:jU b c=0:=by omega
  rw [if_neg he];rw [he0] at hck;obtain ⟨hgb,hgc⟩:=hg he0;obtain ⟨mu,hmu⟩: ∃ mu,min b.users c.users=mu:=⟨_,rfl⟩;rw [hmu];by_cases hu:user<0∨mu≤user
  ·rw [if_pos hu];simp only [bg] at hck ⊢;refine aF 34 2 ?_;repeat' (first|apply aa (f:=31);exact rfl;exact rfl;intro w' hm;exact hck w' _ hm|apply ak (d:=25);exact rfl;apply Ie hmu;exact rfl;exact rfl|refine zZB ?_|refine sM fun _=>?_|refine sC ?_ ?_<;>intro hb<;>try omega|fail)
   all_goals first
    |omega
    |refine di eIO rfl rfl rfl (H' := [.own none 34 2 0 0 []]) mS ⟨none,0,rfl,rfl⟩;done
  ·rw [if_neg hu];by_cases hr:bY r≠0
   ·rw [if_pos hr];generalize bY r=e at hre hr ⊢;simp only [bg] at hck ⊢;refine aF 34 2 ?_;repeat' (first|apply aa (f:=31);exact rfl;exact rfl;intro w' hm;exact hck w' _ hm|apply ak (d:=25);exact rfl;apply Ie hmu;exact rfl;exact rfl|apply aa (f:=24);exact rfl;exact rfl;intro w' hm;exact hre w'|refine zZB ?_|refine sM fun _=>?_|refine sC ?_ ?_<;>intro hb<;>try omega|fail)
    all_goals first
     |omega
     |refine di eIO rfl rfl rfl (H' := [.own none 34 2 0 0 []]) mS ⟨none,0,rfl,rfl⟩;done
   ·have hr0:bY r=0:=by omega
    rw [if_neg hr];rw [hr0] at hre;have hro:=(jm r).1 hr0;have hof:=fun (w' :World) (H:List Blk) (hm:Mem w w' H)=>NC r hro b c x y w' (h.of_w0 hm) (k.of_w0 hm) (hW.next hm) _ _ hgb.new hgc.new hgb.ok hgc.ok hgb.len hgc.len hel hel2 hgb.gl hgc.gl;have hZl:(kN (grW b) (grW c) r b c).length≤1000000:=by rw [xH];exact XU (zb _ _ _) hel2
    generalize kN (grW b) (grW c) r b c=Z at hof hZl ⊢;have hct:=fun (gg:Nat) (B F:List Blk) (D:GBlk gg (grW c) B) (hs:MSub B F) Aa ca As cs=>GP (D.rdr hgc.ok hgc.len w) hs r Aa ca As cs user Z hZl;generalize y4 (grW c) r user Z=K at hct ⊢;simp only [bg] at hck hof ⊢;repeat' (first|apply aa (f:=31);exact rfl;exact rfl;intro w' hm;exact hck w' _ hm|apply ak (d:=25);exact rfl;apply Ie hmu;exact rfl;exact rfl|apply aa (f:=24);exact rfl;exact rfl;intro w' hm;exact hre w'|apply aw (f:=32);exact rfl;exact rfl;intro w' hm;exact hof w' _ hm;rintro _ _ ⟨gg1,B1,Aa,ca,As,cs,D1,rfl,rfl⟩;refine cJ (.own Aa 34 2 Z.length ca ((Z.map fun z=>z.1).flatMap aq):: .own As 57 1 Z.length cs ((Z.map fun z=>z.2).map vS)::B1) (MSub.appL _ _) ?_|apply aj (f:=33);exact rfl;exact rfl;exact hct _ B1 B1 D1 (MSub.refl _) Aa ca As cs;rintro _ _ ⟨Ab,cb,rfl,rfl⟩|refine zZB ?_|refine sM fun _=>?_|refine sC ?_ ?_<;>intro hb<;>try omega|fail)
    all_goals first
     |omega
     |refine di eIO rfl rfl rfl (H' := [.own Ab 34 2 K.length cb (K.flatMap aq)]) mS ⟨Ab,cb,rfl,rfl⟩;done
def exU:Bk:=⟨4,n9 dR,bkR,bkN,[],[],0⟩
theorem PF:bkE exU=0:=by decide+kernel
theorem UM:grW exU=exG:=Di (b:=exU) qw
theorem GrBk.ex {b:Bk} (h:jr b.ents=(some exG,0)) (h1:b.ents.length≤1000000) (h2:b.grants.length≤1000000):GrBk b:=by
 have e:=Di h;exact ⟨by rw [e];exact h,by rw [e];exact UN,by rw [e];decide,h1,h2⟩
theorem wM:GrBk (exB dR):=GrBk.ex qw (by decide) (by decide)
theorem zO:GrBk (exB iP):=GrBk.ex Bz (by decide) (by decide)
theorem gbU:GrBk exU:=GrBk.ex (b:=exU) qw (by decide) (by decide)
def RJ:Rct:=⟨1,1,2,1⟩
def RK:Rct:=⟨3,5,3,5⟩
theorem UX:eW exG [RJ]= [⟨1,2⟩,⟨1,3⟩,⟨1,4⟩]:=by rw [eW,if_pos (by decide+kernel),rY];decide+kernel
theorem UY:eW exG [RK]= []:=by rw [eW,if_pos (by decide+kernel),rY];decide+kernel
theorem VP:ja exG RJ (n9 iP)= [⟨1,1⟩,⟨2,1⟩,⟨1,2⟩,⟨1,3⟩,⟨1,4⟩]:=by unfold ja;rw [UX];decide+kernel
theorem VQ:ja exG RK (n9 iP)= []:=by unfold ja;rw [UY];decide+kernel
theorem WD:jS exG bkR bkN ⟨2,1⟩=(1#64,0):=by rw [jS,nQ];decide+kernel
theorem U3:kN exG exG RJ (exB dR) (exB iP)= [(⟨1,1⟩,7#64),(⟨2,1⟩,1#64),(⟨1,2⟩,1#64),(⟨1,3⟩,3#64),(⟨1,4⟩,3#64)]:=by
 unfold kN;rw [show (exB iP).ents=n9 iP from rfl,VP];simp only [XD,XR];rw [vo rfl rfl rfl rfl Wz,vo rfl rfl rfl rfl WD,vo rfl rfl rfl rfl Ww,vo rfl rfl rfl rfl TH,vo rfl rfl rfl rfl TG]
theorem U4:kN exG exG RK (exB dR) (exB iP)= []:=by
 unfold kN;rw [show (exB iP).ents=n9 iP from rfl,VQ];rfl
theorem P6:jU (exB dR) exU=0:=by unfold jU;rw [yV,if_neg (by decide),PF]
theorem UQ:jU exU (exB dR)=0:=by unfold jU;rw [PF,if_neg (by decide),yV]
theorem ce0:iN 0 uB (exB dR) (exB iP)=(VO,0):=by
 unfold iN;rw [nO,if_neg (by decide),if_neg (by decide),if_neg (by decide),lj,li,DV rfl rfl rfl rfl (.inr rfl)];decide+kernel
theorem ce2:iN 2 uB (exB dR) (exB iP)=([],0):=by
 unfold iN;rw [nO,if_neg (by decide),if_neg (by decide),if_neg (by decide),lj,li,DV rfl rfl rfl rfl (.inr rfl)];decide+kernel
theorem ce3:iN 3 uB (exB dR) (exB iP)=([],2):=by unfold iN;rw [nO,if_neg (by decide),if_pos (by decide)]
theorem ce4:iN (-1) bU (exB dR) (exB iP)=([],2):=by unfold iN;rw [nO,if_neg (by decide),if_pos (by decide)]
theorem ce5:iN 3 uB (exB dR) exU=([],2):=by unfold iN;rw [P6,if_neg (by decide),if_pos (by decide)]
theorem ce6:iN 2 uB exU (exB dR)=([],0):=by
 unfold iN;rw [UQ,if_neg (by decide),if_neg (by decide),if_neg (by decide),UM,lj,DV (b:=exU) rfl rfl rfl rfl (.inl rfl)];decide+kernel
theorem cn1:jd uB (exB dR) (exB iP)=([3,2,0],0):=by
 unfold jd;rw [nO,if_neg (by decide),if_neg (by decide),if_neg (by decide),lj,li,DV rfl rfl rfl rfl (.inr rfl)];decide+kernel
theorem cn2:jd RJ (exB dR) (exB iP)=([5,3,1],0):=by
 unfold jd;rw [nO,if_neg (by decide),if_neg (by decide),if_neg (by decide),lj,li,U3];decide+kernel
theorem cn3:jd RK (exB dR) (exB iP)=([0,0,0],0):=by
 unfold jd;rw [nO,if_neg (by decide),if_neg (by decide),if_neg (by decide),lj,li,U4];decide+kernel
theorem cn4:jd bU (exB dR) (exB iP)=([],3):=by unfold jd;rw [nO,if_neg (by decide),if_neg (by decide),if_pos (by decide)]
theorem cn5:jd uB (exB dR) exU=([],2):=by unfold jd;rw [P6,if_neg (by decide),if_pos (by decide)]
theorem cn6:jd uB Nc (exB dR)=([],2):=by unfold jd;rw [show jU Nc (exB dR)=2 from rfl,if_pos (by decide)]
theorem JI (r:Rct) (b c:Bk) (x y:Bv) (w:World) (h:BRd w b x) (k:BRd w c y) (hW:Words w) (hel:b.ents.length≤1000000) (hel2:c.ents.length≤1000000) (hg:jU b c=0→GrBk b∧GrBk c) (hu4:jU b c=0→b.users=c.users→1≤c.users∧c.users≤4):
 FnAt Tryz.prog 12 [.agg (ay r).toArray,.agg (bg b x).toArray,.agg (bg c y).toArray] w fun v H=> ∃ A cp,v= .tuple #[sl A (jd r b c).1.length cp,.int .i64 (jd r b c).2]∧H= [.own A 3 1 (jd r b c).1.length cp ((jd r b c).1.map (Value.int .i64))]:=by
 have hck:=fun (w' :World) (H:List Blk) (hm:Mem w w' H)=>zZ b c x y w' (h.of_w0 hm) (k.of_w0 hm) (hW.next hm) hel hel2;have hre:=fun w' =>dQ r w';refine aB Tryz.func12 rfl Tryz.ntmps12 rfl ?_;unfold jd;by_cases he:jU b c≠0
 ·rw [if_pos he];generalize jU b c=e at hck he ⊢;simp only [bg] at hck ⊢;refine aF 3 1 ?_;repeat' (first|apply aa (f:=31);exact rfl;exact rfl;intro w' hm;exact hck w' _ hm|refine zZB ?_|refine sM fun _=>?_|refine sC ?_ ?_<;>intro hb<;>try omega|fail)
  all_goals first
   |omega
   |refine di eIO rfl rfl rfl (H' := [.own none 3 1 0 0 []]) mS ⟨none,0,rfl,rfl⟩;done
 ·have he0:jU b c=0:=by omega
  rw [if_neg he];rw [he0] at hck;obtain ⟨hgb,hgc⟩:=hg he0;have hu4:=hu4 he0;by_cases hu:b.users≠c.users
  ·rw [if_pos hu];simp only [bg] at hck ⊢;refine aF 3 1 ?_;repeat' (first|apply aa (f:=31);exact rfl;exact rfl;intro w' hm;exact hck w' _ hm|refine zZB ?_|refine sM fun _=>?_|refine sC ?_ ?_<;>intro hb<;>try omega|fail)
   all_goals first
    |omega
    |refine di eIO rfl rfl rfl (H' := [.own none 3 1 0 0 []]) mS ⟨none,0,rfl,rfl⟩;done
  ·rw [if_neg hu];have hu5:=hu4 (by omega);by_cases hr:bY r≠0
   ·rw [if_pos hr];generalize bY r=e at hre hr ⊢;simp only [bg] at hck ⊢;refine aF 3 1 ?_;repeat' (first|apply aa (f:=31);exact rfl;exact rfl;intro w' hm;exact hck w' _ hm|apply aa (f:=24);exact rfl;exact rfl;intro w' hm;exact hre w'|refine zZB ?_|refine sM fun _=>?_|refine sC ?_ ?_<;>intro hb<;>try omega|fail)
    all_goals first
     |omega
     |refine di eIO rfl rfl rfl (H' := [.own none 3 1 0 0 []]) mS ⟨none,0,rfl,rfl⟩;done
   ·have hr0:bY r=0:=by omega
    rw [if_neg hr];rw [hr0] at hre;have hro:=(jm r).1 hr0;have hof:=fun (w' :World) (H:List Blk) (hm:Mem w w' H)=>NC r hro b c x y w' (h.of_w0 hm) (k.of_w0 hm) (hW.next hm) _ _ hgb.new hgc.new hgb.ok hgc.ok hgb.len hgc.len hel hel2 hgb.gl hgc.gl;have hZl:(kN (grW b) (grW c) r b c).length≤1000000:=by rw [xH];exact XU (zb _ _ _) hel2
    generalize kN (grW b) (grW c) r b c=Z at hof hZl ⊢;have hct:=fun (gg:Nat) (B F:List Blk) (D:GBlk gg (grW c) B) (hs:MSub B F) Aa ca As cs (u:Nat)=>GP (D.rdr hgc.ok hgc.len w) hs r Aa ca As cs (u:Int) Z hZl;obtain ⟨n,hn⟩: ∃ n:Nat,c.users=(n:Int):=⟨c.users.toNat,by omega⟩;have hn4:n=1∨n=2∨n=3∨n=4:=by omega
    have hrp:=fun (lv:Value) (w' :World) (hl:Reads w' lv 1 [.int .i64 0])=>JK n hn4 lv w' hl;obtain ⟨f,hf⟩: ∃ f:Nat→Int,(fun (u:Nat)=>((y4 (grW c) r (u:Int) Z).length:Int))=f:=⟨_,rfl⟩;have hfu: ∀ u:Nat,((y4 (grW c) r (u:Int) Z).length:Int)=f u:=fun u=>congrFun hf u;rw [hf,hn,Zh,← MJ];have hcl:=fun i=>MI f n i;simp only [bg,hn,yY] at hck hof hct ⊢;repeat' (first|apply aa (f:=31);exact rfl;exact rfl;intro w' hm;exact hck w' _ hm|apply aa (f:=24);exact rfl;exact rfl;intro w' hm;exact hre w'|refine zZB ?_|refine sM fun _=>?_|refine sC ?_ ?_<;>intro hb<;>try omega|fail)
    all_goals try omega
    rename_i g3 g4 g5;repeat' (first|apply aw (f:=32);exact rfl;exact rfl;intro w' hm;exact hof w' _ hm;rintro _ _ ⟨gg1,B1,Aa,ca,As,cs,D1,rfl,rfl⟩;refine cJ (_++(.own Aa 34 2 Z.length ca ((Z.map fun z=>z.1).flatMap aq):: .own As 57 1 Z.length cs ((Z.map fun z=>z.2).map vS)::B1)) MSub.swap ?_;simp only [Xc,Xd]|apply aw (f:=34);exact rfl;exact rfl;intro w' hm;exact hrp _ w' (Reads.of_own (A:=some _) hm pK);rintro _ _ ⟨go,rfl,rfl⟩|refine zZB ?_|refine sM fun _=>?_|refine sC ?_ ?_<;>intro hb<;>try omega|fail)
    all_goals try omega
    rename_i g9 gs;refine ax [9,10,35] rfl (fun i:Nat=> [(36,.int .i64 (i:Int))]) (fun i=> .own (some go) 3 1 n n ((pz f n i).map (Value.int .i64)):: .box g9 83 [.pointer (some ⟨gg1,0,none⟩),.int .i64 r.c1,.int .i64 r.r1,.int .i64 r.c2,.int .i64 r.r2,sl Aa Z.length ca,sl As Z.length cs]:: .own Aa 34 2 Z.length ca ((Z.map fun z=>z.1).flatMap aq):: .own As 57 1 Z.length cs ((Z.map fun z=>z.2).map vS)::B1) (fun i=>i≤n) (fun i=>n - i) 0 (Xn _) sB (by rw [Jw];exact mS) ?_;intro i hi;by_cases hlt:i<n
    ·have hset:=MH f hlt;have hfi:=hfu i;have hct:=fun gg B F D hs Aa ca As cs=>hct gg B F D hs Aa ca As cs i;generalize y4 (grW c) r (i:Int) Z=K at hct hfi;rw [← hfi] at hset;have hfit:0+i*1<((pz f n i).map (Value.int .i64)).length:=by rw [Xq,hcl];omega
     repeat' first|apply aj (f:=33);exact rfl;exact rfl;refine FnIn.msub (hct _ B1 _ D1 ?_ Aa ca As cs) (MSub.pick pK (MSub.pick pK (MSub.refl _)));(focus (exact mS;done));rintro _ _ ⟨Ab,cb,rfl,rfl⟩|apply ak (d:=45);exact rfl;apply ai (j:=i);exact rfl;exact rfl;exact hlt|apply eF;exact rfl;exact rfl;exact pK;exact rfl;exact hfit|refine zZA ?_|refine sM fun _=>?_|refine sC ?_ ?_<;>intro hb<;>try omega|fail
     all_goals try omega
     rw [hset];refine ⟨i+1,hlt,by omega,by exact sB,by exact sB,by exact mS⟩
    ·have e:i=n:=by omega
     subst e;rw [hcl];repeat' (first|refine zZA ?_|refine sM fun _=>?_|refine sC ?_ ?_<;>intro hb<;>try omega|fail)
     all_goals first
      |omega
      |refine di eIO rfl rfl rfl (H' := [.own (some go) 3 1 i i ((pz f i i).map (Value.int .i64))]) mS ⟨some go,i,rfl,rfl⟩;done
theorem lw {user:Int} {r:Rct} {b c:Bk} {L:List Rf} {e:Int} (he:iN user r b c=(L,e)) (x y:Bv) (w:World) (h:BRd w b x) (k:BRd w c y) (hW:Words w) (hel:b.ents.length≤1000000) (hel2:c.ents.length≤1000000) (hg:jU b c=0→GrBk b∧GrBk c):
 FnAt Tryz.prog 11 [.int .i64 user,.agg (ay r).toArray,.agg (bg b x).toArray,.agg (bg c y).toArray] w fun v H=> ∃ A cp,v= .tuple #[sl A L.length cp,.int .i64 e]∧H= [.own A 34 2 L.length cp (L.flatMap aq)]:=by
 have h1:=M0 user r b c x y w h k hW hel hel2 hg;rw [he] at h1;exact h1
theorem kG {r:Rct} {b c:Bk} {L:List Int} {e:Int} (he:jd r b c=(L,e)) (x y:Bv) (w:World) (h:BRd w b x) (k:BRd w c y) (hW:Words w) (hel:b.ents.length≤1000000) (hel2:c.ents.length≤1000000) (hg:jU b c=0→GrBk b∧GrBk c) (hu4:jU b c=0→b.users=c.users→1≤c.users∧c.users≤4):
 FnAt Tryz.prog 12 [.agg (ay r).toArray,.agg (bg b x).toArray,.agg (bg c y).toArray] w fun v H=> ∃ A cp,v= .tuple #[sl A L.length cp,.int .i64 e]∧H= [.own A 3 1 L.length cp (L.map (Value.int .i64))]:=by
 have h1:=JI r b c x y w h k hW hel hel2 hg hu4;rw [he] at h1;exact h1
theorem za {r:Rct} {b:Bk} {L:List Rf} {e:Int} (he:qE r b=(L,e)) (x:Bv) (w:World) (h:BRd w b x) (hW:Words w) (hel:b.ents.length≤1000000) (hg:bkE b=0→GrBk b):
 FnAt Tryz.prog 14 [.agg (ay r).toArray,.agg (bg b x).toArray] w fun v H=> ∃ A cp,v= .tuple #[sl A L.length cp,.int .i64 e]∧H= [.own A 34 2 L.length cp (L.flatMap aq)]:=by
 have h1:=HE r b x w h hW hel hg;rw [he] at h1;exact h1
theorem DR {L M:List Int} (h:L=M) {lv mv:Value} {w:World} (hl:Reads w lv L.length (L.map (Value.int .i64))) (hm:Reads w mv M.length (M.map (Value.int .i64))):aL Tryz.prog 37 [lv,mv] w (.bool true):=by
 have:=DS L M lv mv w hl hm;rwa [decide_eq_true h] at this
theorem ri {L:List Int} {n:Nat} {xs:List Value} (hn:L.length=n) (hx:L.map (Value.int .i64)=xs) {A:Option Nat} {c g:Nat} {w0 w:World} {H:List Blk} (hm:Mem w0 w H) (h1:In (.own A 3 1 L.length c (L.map (Value.int .i64))) H) (h2:In (.own (some g) 3 1 n n xs) H):aL Tryz.prog 37 [sl A L.length c,.slice (some ⟨g,0,none⟩) n n] w (.bool true):=by
 subst hn hx;exact DR rfl (Reads.of_own hm h1) (Reads.of_own (A:=some g) hm h2)
theorem q9 {L:List Rf} {n:Nat} {xs:List Value} (hn:L.length=n) (hx:L.flatMap aq=xs) {A:Option Nat} {c g:Nat} {w0 w:World} {H:List Blk} (hm:Mem w0 w H) (h1:In (.own A 34 2 L.length c (L.flatMap aq)) H) (h2:In (.own (some g) 34 2 n n xs) H):aL Tryz.prog 13 [sl A L.length c,.slice (some ⟨g,0,none⟩) n n] w (.bool true):=by
 subst hn hx;exact DQ rfl (Reads.of_own hm h1) (Reads.of_own (A:=some g) hm h2)
theorem JC (w:World) (hW:Words w):aL Tryz.prog 15 [] w (.bool true):=by
 have hr:=fun c r w=>x9 c r w;have hone:=fun a w=>pO a w;have hG:=fun inp w=>tH inp w;refine aB Tryz.func15 rfl Tryz.ntmps15 rfl ?_;repeat' (first|apply aw (d:=11);exact rfl;exact rfl;intro w' _;exact hG dR w';rintro _ _ ⟨a,rfl,rfl⟩;unfold iB;simp only [Xc,Xd]|apply aw (d:=12);exact rfl;exact rfl;intro w' _;exact hG iP w';rintro _ _ ⟨b,rfl,rfl⟩;unfold iB;simp only [Xc,Xd]|apply aa (f:=10);exact rfl;exact rfl;intro w' hm;exact hr _ _ w'|apply aa (f:=9);exact rfl;exact rfl;intro w' hm;exact hone _ w'|apply aw (f:=14);exact rfl;exact rfl;intro w' hm;exact za cl1 b.v w' (BRd.of_rows (a:=b) hm pK pK pK pK pK) (hW.next hm) (by decide) (fun _=>zO);rintro _ _ ⟨A1,c1,rfl,rfl⟩|apply aw (d:=25);exact rfl;exact rfl;intro w' hm;exact kG cn1 a.v b.v w' (BRd.of_rows (a:=a) hm pK pK pK pK pK) (BRd.of_rows (a:=b) hm pK pK pK pK pK) (hW.next hm) (by decide) (by decide) (fun _=>⟨wM,zO⟩) (fun _ _=>by decide);rintro _ _ ⟨A2,c2,rfl,rfl⟩|apply aw (d:=32);exact rfl;exact rfl;intro w' hm;exact lw ce1 a.v b.v w' (BRd.of_rows (a:=a) hm pK pK pK pK pK) (BRd.of_rows (a:=b) hm pK pK pK pK pK) (hW.next hm) (by decide) (by decide) (fun _=>⟨wM,zO⟩);rintro _ _ ⟨A3,c3,rfl,rfl⟩|apply aa (f:=37);exact rfl;exact rfl;intro w' hm;exact ri rfl rfl hm pK pK|apply aa (f:=13);exact rfl;exact rfl;intro w' hm;exact q9 rfl rfl hm pK pK|apply aw (d:=72);exact rfl;exact rfl;intro w' hm;exact kG cn2 a.v b.v w' (BRd.of_rows (a:=a) hm pK pK pK pK pK) (BRd.of_rows (a:=b) hm pK pK pK pK pK) (hW.next hm) (by decide) (by decide) (fun _=>⟨wM,zO⟩) (fun _ _=>by decide);rintro _ _ ⟨A4,cA4,rfl,rfl⟩|refine zZB ?_|refine sM fun _=>?_|refine sC ?_ ?_<;>intro hb<;>try omega|fail)
 all_goals try omega
 rename_i g1 g2 g3 ga gb gc;refine bT (id:=9) [0,1,4] [] [.box g1 28 (bg (exB dR) a.v),.box g2 28 (bg (exB iP) b.v)] (by kernel_rfl) (by kernel_rfl) (by kernel_rfl) mS ?_;repeat' (first|apply aa (f:=10);exact rfl;exact rfl;intro w' hm;exact hr _ _ w'|apply aa (f:=9);exact rfl;exact rfl;intro w' hm;exact hone _ w'|apply aw (d:=80);exact rfl;exact rfl;intro w' hm;exact kG cn3 a.v b.v w' (BRd.of_rows (a:=a) hm pK pK pK pK pK) (BRd.of_rows (a:=b) hm pK pK pK pK pK) (hW.next hm) (by decide) (by decide) (fun _=>⟨wM,zO⟩) (fun _ _=>by decide);rintro _ _ ⟨A5,cA5,rfl,rfl⟩|apply aa (f:=37);exact rfl;exact rfl;intro w' hm;exact ri rfl rfl hm pK pK|refine zZM ?_|refine sM fun _=>?_|refine sC ?_ ?_<;>intro hb<;>try omega|refine sCW ?_ ?_<;>intro hb<;>try omega|fail)
 all_goals first|omega|(refine rT1 ?_);rfl
def TJ:Bv:=⟨none,none,none,none,none,0,0,0,0,0⟩
theorem JV (w:World):BRd w Nc TJ:=⟨bG w,bG w,bG w,bG w,bG w⟩
theorem OG {w0 w:World} {H:List Blk} (a:Bo) (hm:Mem w0 w H) (h1:In (.own a.e 79 3 (exB dR).ents.length a.ce ((exB dR).ents.flatMap bN)) H) (h2:In (.own a.r 137 7 (exB dR).rules.length a.cr ((exB dR).rules.flatMap bQ)) H) (h3:In (.own a.g 76 8 (exB dR).grants.length a.cg ((exB dR).grants.flatMap cD)) H) (h4:In (.own a.l 147 9 (exB dR).log.length a.cl ((exB dR).log.flatMap fF)) H) (h5:In (.own a.s 149 11 (exB dR).rels.length a.cs ((exB dR).rels.flatMap fE)) H):BRd w exU a.v:=
 have h:=BRd.of_rows hm h1 h2 h3 h4 h5
 ⟨h.e,h.r,h.g,h.l,h.s⟩
theorem wO (w:World) (hW:Words w):aL Tryz.prog 3 [] w (.bool true):=by
 have hr:=fun c r w=>x9 c r w;have hone:=fun a w=>pO a w;have hG:=fun inp w=>tH inp w;have hA:=fun (w' :World) (H:List Blk) (hm:Mem w w' H)=>JC w' (hW.next hm);refine aB Tryz.func3 rfl Tryz.ntmps3 rfl ?_;repeat' (first|apply aw (d:=15);exact rfl;exact rfl;intro w' _;exact hG dR w';rintro _ _ ⟨a,rfl,rfl⟩;unfold iB;simp only [Xc,Xd]|apply aw (d:=16);exact rfl;exact rfl;intro w' _;exact hG iP w';rintro _ _ ⟨b,rfl,rfl⟩;unfold iB;simp only [Xc,Xd]|apply aa (f:=10);exact rfl;exact rfl;intro w' hm;exact hr _ _ w'|apply aa (f:=9);exact rfl;exact rfl;intro w' hm;exact hone _ w'|apply aw (d:=23);exact rfl;exact rfl;intro w' hm;exact lw ce0 a.v b.v w' (BRd.of_rows (a:=a) hm pK pK pK pK pK) (BRd.of_rows (a:=b) hm pK pK pK pK pK) (hW.next hm) (by decide) (by decide) (fun _=>⟨wM,zO⟩);rintro _ _ ⟨A1,cA1,rfl,rfl⟩|apply aw (d:=30);exact rfl;exact rfl;intro w' hm;exact lw ce2 a.v b.v w' (BRd.of_rows (a:=a) hm pK pK pK pK pK) (BRd.of_rows (a:=b) hm pK pK pK pK pK) (hW.next hm) (by decide) (by decide) (fun _=>⟨wM,zO⟩);rintro _ _ ⟨A2,cA2,rfl,rfl⟩|apply aw (d:=37);exact rfl;exact rfl;intro w' hm;exact lw ce3 a.v b.v w' (BRd.of_rows (a:=a) hm pK pK pK pK pK) (BRd.of_rows (a:=b) hm pK pK pK pK pK) (hW.next hm) (by decide) (by decide) (fun _=>⟨wM,zO⟩);rintro _ _ ⟨A3,cA3,rfl,rfl⟩|apply aw (d:=44);exact rfl;exact rfl;intro w' hm;exact lw ce4 a.v b.v w' (BRd.of_rows (a:=a) hm pK pK pK pK pK) (BRd.of_rows (a:=b) hm pK pK pK pK pK) (hW.next hm) (by decide) (by decide) (fun _=>⟨wM,zO⟩);rintro _ _ ⟨A4,cA4,rfl,rfl⟩|apply aw (d:=51);exact rfl;exact rfl;intro w' hm;exact kG cn4 a.v b.v w' (BRd.of_rows (a:=a) hm pK pK pK pK pK) (BRd.of_rows (a:=b) hm pK pK pK pK pK) (hW.next hm) (by decide) (by decide) (fun _=>⟨wM,zO⟩) (fun _ _=>by decide);rintro _ _ ⟨A5,cA5,rfl,rfl⟩|apply aa (f:=13);exact rfl;exact rfl;intro w' hm;exact q9 rfl rfl hm pK pK|apply aw (d:=86);exact rfl;exact rfl;intro w' _;exact hG dR w';rintro _ _ ⟨a3,rfl,rfl⟩;unfold iB;simp only [Xc,Xd]|refine zZB ?_|refine sM fun _=>?_|refine sC ?_ ?_<;>intro hb<;>try omega|fail)
 all_goals try omega
 all_goals simp only [show ∀ a:Bo,bg (exB dR) a.v= [.int .i64 3,.slice a.v.ae 6 a.v.ce,.slice a.v.ar 2 a.v.cr,.slice a.v.ag 1 a.v.cg,.slice a.v.al 0 a.v.cl,.slice a.v.as_ 0 a.v.cs,.int .i64 0] from fun _=>rfl]
 all_goals
 repeat' first|apply aw (d:=92);exact rfl;exact rfl;intro w' hm;exact kG cn5 a.v a3.v w' (BRd.of_rows (a:=a) hm pK pK pK pK pK) (OG a3 hm pK pK pK pK pK) (hW.next hm) (by decide) (by decide) (fun _=>⟨wM,gbU⟩) (fun _ h=>absurd h (by decide));rintro _ _ ⟨A6,cA6,rfl,rfl⟩|apply aw (d:=99);exact rfl;exact rfl;intro w' hm;exact lw ce5 a.v a3.v w' (BRd.of_rows (a:=a) hm pK pK pK pK pK) (OG a3 hm pK pK pK pK pK) (hW.next hm) (by decide) (by decide) (fun _=>⟨wM,gbU⟩);rintro _ _ ⟨A7,cA7,rfl,rfl⟩|apply aw (d:=106);exact rfl;exact rfl;intro w' hm;exact lw ce6 a3.v a.v w' (OG a3 hm pK pK pK pK pK) (BRd.of_rows (a:=a) hm pK pK pK pK pK) (hW.next hm) (by decide) (by decide) (fun _=>⟨gbU,wM⟩);rintro _ _ ⟨A8,cA8,rfl,rfl⟩|apply aw (d:=113);exact rfl;exact rfl;intro w' hm;exact kG cn6 TJ a.v w' (JV w') (BRd.of_rows (a:=a) hm pK pK pK pK pK) (hW.next hm) (by decide) (by decide) (fun h=>absurd h (by decide)) (fun h=>absurd h (by decide));rintro _ _ ⟨A9,cA9,rfl,rfl⟩|apply aw (f:=14);exact rfl;exact rfl;intro w' hm;exact za cl2 TJ w' (JV w') (hW.next hm) (by decide) (fun h=>absurd h (by decide));rintro _ _ ⟨Aa,ca,rfl,rfl⟩|apply aa (f:=15);exact rfl;exact rfl;intro w' hm;exact hA w' _ hm|refine zZB ?_|refine sM fun _=>?_|refine sC ?_ ?_<;>intro hb<;>try omega|fail
 all_goals first|omega|(refine rT1 ?_);rfl
end Go.SL
