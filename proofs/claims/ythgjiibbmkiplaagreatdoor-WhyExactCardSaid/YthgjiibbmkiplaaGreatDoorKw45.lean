/-
  Lemmas and walks, put together: Ty Pl Pl3 Rk Ro Tg Wu Wv.
-/
import Derived.Test.YthgjiibbmkiplaaGreatDoorKw38
import Derived.Test.YthgjiibbmkiplaaGreatDoorKw41
import Derived.Test.YthgjiibbmkiplaaGreatDoorKw43
import Derived.Test.YthgjiibbmkiplaaGreatDoorKw44
set_option linter.unusedSimpArgs false
set_option linter.unusedVariables false
set_option maxRecDepth 20000
set_option maxHeartbeats 16000000
namespace Go.SL
open Go Go.Proofs
instance:Callable Tryz.prog 27:=⟨fun args w=>Tryz.call27 args w⟩
instance:Callable Tryz.prog 62:=⟨fun args w=>Tryz.call62 args w⟩
end Go.SL
namespace Go.SL
open Go
open Classical in
noncomputable def uA (G:Gr) (a b:Rf):Bool:=decide (Rc G a (cE b.col b.row))
end Go.SL
namespace Go.SL
open Go Go.Proofs Go.Sort Go.Shelf
open Classical in
theorem sY {G:Gr} (hG:GrOk G) {c:Rf} {b:Rf} (hb:b.valid=true):(dl G c).any (fun r=>aI r b)=uA G c b:=by
 unfold uA;rw [XY,XQ,decide_eq_true_eq];have ht: ∀ {x:Rf} {u:Us},u∈aG G x→(l6 (cE b.col b.row) u=aI u.rect b):=fun {x u} hu=>by
  obtain ⟨e,he,h1,h2⟩:=su hu;exact (Bn ((hG.ent e he).rect u (by rw [h2];exact hu)) hb).symm
 constructor
 ·rintro ⟨r,hr,hh⟩;obtain ⟨x,hx,u,hu,rfl⟩:=eP.1 hr;have hxk:x∈ap G:=by
   obtain ⟨e,he,h1,_⟩:=su hu;exact iH.2 ⟨e,he,h1⟩
  have hxt:bi (aG G x) (cE b.col b.row)=true:=XQ.2 ⟨u,hu,by rw [ht hu];exact hh⟩;rcases hx with rfl|hx
  ·exact .use hxk hxt
  ·exact Rc.trans (iJ.1 hx).2 hxk (.use hxk hxt)
 ·intro h;have hgo: ∀ x,bi (aG G x) (cE b.col b.row)=true→(x=c∨x∈gM G c)→ ∃ r∈dl G c,aI r b=true:=fun x h1 hx=>by
   obtain ⟨u,hu,h2⟩:=XQ.1 h1;rw [ht hu] at h2;exact ⟨u.rect,eP.2 ⟨x,hx,u,hu,rfl⟩,h2⟩
  rcases h.last with h1|⟨d,hd,h1,h2⟩
  ·exact hgo c h1 (.inl rfl)
  ·exact hgo d h2 (.inr (iJ.2 ⟨hd,h1⟩))
attribute [local irreducible] FnAt FnIn FnP RW VOp W WA WC WE WG WL WLI WQ WR WT WX aX aY bA blk bw ceP scp thn
theorem Fy (r:Rct) (b:Rf) (g:Nat) (w:World) (hr:Ro w g 0 (aq b)):aL Tryz.prog 62 [.agg (ay r).toArray,.pointer (some ⟨g,0,none⟩)] w (.bool (aI r b)):=by
 refine aB Tryz.func62 rfl Tryz.ntmps62 rfl ?_;have hh:=fun w=>jA r b w;repeat' (first|apply ak;rfl;apply aP (o:=0);rfl;exact hr;rfl|apply aa;rfl;rfl;intro w hm;exact hh w|refine sT ?_|refine sM fun _=>?_|refine sC ?_ ?_<;>intro hb<;>try omega|fail)
 all_goals exact bo eIO rfl rfl (.nil _) rfl
theorem M8 (f:FuncId) [Callable Tryz.prog f] (caps:List Value) (q:Rct→Bool) (L:List Rct) (hlen:L.length≤1000000) (tv:Value) (w:World) (ht:Reads w tv L.length (L.flatMap ay))
 (hf: ∀ u w' H,Mem w w' H→aL Tryz.prog f ([.agg (ay u).toArray]++caps) w' (.bool (q u))):
 aL Tryz.prog 108 [tv,.func (.func f) #[] caps.toArray] w (.int .i64 (tG q L)):=by
 obtain ⟨Al,cl,rfl,hl1,hl2,hl3⟩:=ht;refine aB Tryz.func108 rfl Tryz.ntmps108 rfl ?_;repeat' (first|refine sT ?_|refine sM fun _=>?_|refine sC ?_ ?_<;>intro hb<;>try omega|fail)
 refine gI (fun i:Nat=> [(0,.slice Al L.length cl),(1,.func (.func f) #[] caps.toArray),(7,.int .i64 (L.length:Int)),(8,.int .i64 (i:Int))]) (fun _=> []) (fun i=>i≤L.length∧ ∀ j (h:j<L.length),j<i→q L[j]=false) (fun i=>L.length - i) 0 ⟨by omega,fun j _ h=>by omega⟩ sB (.refl _) ?_;rintro i ⟨hi,hno⟩;by_cases hlt:i<L.length
 ·obtain ⟨gl,ol,rfl,hrl⟩:=hl3 (by omega);have he:=hrl.elem bM i hlt;have hq:=fun w' H=>hf L[i] w' H;have hnext:q L[i]=false→ ∀ j (h:j<L.length),j<i+1→q L[j]=false:=fun h0 j h hj=>by
   by_cases e:j=i
   ·subst e;exact h0
   ·exact hno j h (by omega)
  have hres:q L[i]=true→tG q L=(i:Int):=fun h0=>by
   unfold tG;rw [YI.2 ⟨hlt,h0,fun j hj=>by rw [hno j (by omega) hj];simp⟩]
  generalize L[i]=u at he hq hnext hres;generalize q u=b at hq hnext hres;repeat' (first|apply kv;rfl;rfl;infer_instance;rfl;intro w' hm;exact hq w' _ hm|refine zZO ?_|refine sM fun _=>?_|refine sC ?_ ?_<;>intro hb<;>try omega|fail)
  all_goals first
   |refine bo eIO rfl rfl (.nil _) ?_;rw [hres (by assumption)];done
   |refine ⟨i+1,⟨hlt,hnext (by assumption)⟩,by omega,?_,.nil _⟩;exact sB;done
 ·have e:i=L.length:=by omega
  subst e;have hres:tG q L= -1:=by
   unfold tG
   rw [YZ.2 fun x hx=>by
    obtain ⟨j,hj,rfl⟩:=YN hx;exact hno j hj hj]
  repeat' first|refine sT ?_|refine sM fun _=>?_|refine sC ?_ ?_<;>intro hb<;>try omega|fail
  all_goals (refine bo eIO rfl rfl (.nil _) ?_;rw [hres])
theorem DU (f:FuncId) [Callable Tryz.prog f] (caps:List Value) (q:Rct→Bool) (L:List Rct) (hlen:L.length≤1000000) (tv:Value) (w:World) (ht:Reads w tv L.length (L.flatMap ay))
 (hf: ∀ u w' H,Mem w w' H→aL Tryz.prog f ([.agg (ay u).toArray]++caps) w' (.bool (q u))):
 aL Tryz.prog 61 [tv,.func (.func f) #[] caps.toArray] w (.bool (L.any q)):=by
 refine aB Tryz.func61 rfl Tryz.ntmps61 rfl ?_;have hI:=fun (w' :World) (H:List Blk) (hm:Mem w w' H)=>M8 f caps q L hlen tv w' (ht.of_w0 hm) (fun u w2 H2 hm2=>hf u w2 _ (hm.call hm2));have hres:decide (0≤tG q L)=L.any q:=by
  unfold tG
  cases h:L.findIdx? q with
  |none=>
   rw [YZ] at h;have:L.any q=false:=by rw [Y3];exact fun x hx=>by rw [h x hx];simp
   rw [this];rfl
  |some i=>
   obtain ⟨h1,h2,_⟩:=YI.1 h;have:L.any q=true:=XQ.2 ⟨_,XO h1,h2⟩;rw [this];simp
 repeat' first|apply aa (f:=108);rfl;rfl;intro w' hm;exact hI w' _ hm|refine sT ?_|refine sM fun _=>?_|refine sC ?_ ?_<;>intro hb<;>try omega|fail
 all_goals (refine bo eIO rfl rfl (.nil _) ?_;rw [hres])
theorem MO {a b:Rf} (h:bS [a,b] []=0):bS [a] []=0∧a.valid=true∧b.valid=true:=by
 unfold bS at h ⊢;split at h
 ·rename_i h1;simp only [Zv,aac,X8,Xo] at h1;refine ⟨?_,h1.1,h1.2⟩;rw [if_pos];simp [h1.1]
 ·cases h
noncomputable def kS (G:Gr) (a b:Rf):Bool:=decide (bS [a,b] []=0) && uA G a b
theorem JL (gg:Nat) (G:Gr) (hG:GrOk G) (hGl:G.length≤900) (a b:Rf) (B F:List Blk) (hB:MSub B F) (w0:World)
 (hFm: ∀ H,MSub B H→FnIn Tryz.prog 92 [.pointer (some ⟨gg,0,none⟩)] w0 H fun v H' => ∃ A cap,v=sl A (ap G).length cap∧H' = .own A 34 2 (ap G).length cap ((ap G).flatMap aq)::H)
 (hUs: ∀ d H,MSub B H→FnIn Tryz.prog 78 [.pointer (some ⟨gg,0,none⟩),aC d] w0 H fun v H' => ∃ A cap,v=sl A (aG G d).length cap∧H' = .own A 159 6 (aG G d).length cap ((aG G d).flatMap bP)::H)
 (hUl: ∀ d,(aG G d).length≤1000):
 FnIn Tryz.prog 27 [.pointer (some ⟨gg,0,none⟩),aC a,aC b] w0 F fun v H' =>v= .tuple #[.bool (kS G a b),.int .i64 (bS [a,b] [])]∧H' =F:=by
 refine bI Tryz.func27 rfl Tryz.ntmps27 rfl ?_;have hck:=fun w (v:Value) (hr:Reads w v 2 (aq a++aq b))=>uX gg [a,b] [] v (.slice none 0 0) w (by simpa using hr) (bG w) (by simp) (by simp);have hlv:=fun F hB=>BW gg G hG hGl a B F hB w0 hFm hUs hUl;have hll:=vJ (c:=a) hG.sort hUl;unfold kS;by_cases hc0:bS [a,b] []=0
 ·obtain ⟨hca,_,hvb⟩:=MO hc0;unfold ck at hlv;rw [hca,if_pos rfl] at hlv;rw [hc0] at hck ⊢;rw [decide_eq_true rfl,XT,← sY hG hvb];generalize dl G a=L at hlv hll ⊢;repeat' (first|apply aa (f:=60);rfl;rfl;intro w' hm;exact hck w' _ (Reads.of_own (A:=some _) hm pK)|apply aj (f:=52);rfl;rfl;exact hlv _ (MSub.trans hB mS);rintro _ _ ⟨A9,c9,rfl,rfl⟩|refine zZB ?_|refine sM fun _=>?_|refine sC ?_ ?_<;>intro hb<;>try omega|fail)
  all_goals try omega
  rename_i g4 g5 g6;have hct:=fun w' (hm:Mem w0 w' (.own A9 31 4 L.length c9 (L.flatMap ay):: .box g5 34 (aq b):: []))=>DU 62 [.pointer (some ⟨g5,0,none⟩)] (fun r=>aI r b) L (by omega) (sl A9 L.length c9) w' (Reads.of_own hm .hd) (fun u w2 H2 hm2=>Fy u b g5 w2 (Ro.next (Ro.of_box hm (.tl .hd)) hm2));repeat' (first|apply aa (f:=61);rfl;rfl;intro w' hm;exact hct w' (MSub.use mS hm)|refine zZB ?_|refine sM fun _=>?_|refine sC ?_ ?_<;>intro hb<;>try omega|fail)
  all_goals first
   |omega
   |exact di eIO rfl rfl rfl (H' :=F) mS ⟨rfl,rfl⟩
 ·rw [decide_eq_false hc0,XX];repeat' (first|apply aa (f:=60);rfl;rfl;intro w' hm;exact hck w' _ (Reads.of_own (A:=some _) hm pK)|refine zZB ?_|refine sM fun _=>?_|refine sC ?_ ?_<;>intro hb<;>try omega|fail)
  all_goals first
   |omega
   |exact di eIO rfl rfl rfl (H' :=F) mS ⟨rfl,rfl⟩
section
variable {gg:Nat} {G:Gr} {B F:List Blk} {w0:World} (h:Rdr gg G B w0) (hB:MSub B F)
include h hB
theorem Rdr.reaches (a b:Rf):FnIn Tryz.prog 27 [.pointer (some ⟨gg,0,none⟩),aC a,aC b] w0 F fun v H' =>v= .tuple #[.bool (kS G a b),.int .i64 (bS [a,b] [])]∧H' =F:=JL gg G h.g h.l a b B F hB w0 h.fm h.us (fL h.g)
theorem Rdr.reaches_to {a b:Rf} {y:Bool} {e:Int} (hy:kS G a b=y) (he:bS [a,b] []=e):FnIn Tryz.prog 27 [.pointer (some ⟨gg,0,none⟩),aC a,aC b] w0 F fun v H' =>v= .tuple #[.bool y,.int .i64 e]∧H' =F:=by
 subst hy he;exact h.reaches hB a b
end
section
variable {G:Gr} {w:Lw} {u:Nat} {hid:Rct→List Rct}
theorem Ja (hG:GrOk G) (hw:HidW w u hid) {c:Rf} (hv:c.valid=true) {a:Rf} (ha:a.valid=true):(∃ r∈da G hid c,aI r a=true)↔uA G c a=true∧(w.rd a).getLsbD u=false:=by
 rw [(uO hG hw hv).mem,← sY hG ha,XQ];constructor
 ·rintro ⟨p,hp,h⟩;obtain ⟨l,hl,h2⟩:=XL.1 hp;have hl2:=(eE hv).1 hl;have h3:=(hw.un l (kV hG hl2) p h2).2 a h;exact ⟨⟨l,hl2,h3.1⟩,h3.2⟩
 ·rintro ⟨⟨l,hl,h⟩,h2⟩;obtain ⟨p,hp,h3⟩:=hw.cov l (kV hG hl) a h h2;exact ⟨p,XL.2 ⟨l,(eE hv).2 hl,hp⟩,h3⟩
end
section
variable {G:Gr} {w:Lw} {u:Nat} {hid:Rct→List Rct}
theorem RH (hG:GrOk G) (hw:HidW w u hid) {c:Rf} (hv:c.valid=true):(!(cZ G w u hid c).sees && decide ((cZ G w u hid c).path.length=1))= !rdU w u c:=by
 cases hl:(gA G w c).getLsbD u with
 |true=>
  have h1:=(fj hG hw (fR.1 hl)).1;unfold cZ;rw [if_pos hl,h1]
  rfl
 |false=>
  obtain ⟨l,h1,h2⟩:=yh hG hw hv hl;rw [h1]
  cases l with
  |nil=>
   simp only [fI,Xo] at h2;rw [h2.2];rfl
  |cons d l=>
   simp only [fI,Xo] at h2;rw [h2.1.2.1];rfl
theorem Mw (hG:GrOk G) (hw:HidW w u hid) {a c:Rf} (ha:a.valid=true) (hc:c.valid=true):((da G hid a).any fun r=>aI r c)=(uA G a c && (!(cZ G w u hid c).sees && decide ((cZ G w u hid c).path.length=1))):=by
 rw [RH hG hw hc];have h:=Ja hG hw ha hc;rw [XY,XQ,Xo];rw [h];unfold rdU;simp
end
theorem zM {G:Gr} {a c:Rf} (ha:a.valid=true) (hc:c.valid=true):bS [a,c] []=0∧kS G a c=uA G a c:=by
 have h:bS [a,c] []=0:=by simp [bS,ha,hc]
 exact ⟨h,by rw [kS,h];rfl⟩
theorem HC (user:Int) (a c:Rf) (b:Bk) (x:Bv) (w:World) (h:BRd w b x) (hW:Words w) (hs:SmallW b):
 aL Tryz.prog 7 [.int .i64 user,aC a,.agg (bg b x).toArray,aC c] w (.bool true):=by
 refine aB Tryz.func7 rfl Tryz.ntmps7 rfl ?_;obtain ⟨hl1,hl2⟩:=sx b;have hC:=fun (w' :World) (H:List Blk) (hm:Mem w w' H)=>nV b x w' (h.of_w0 hm) hs;have hA:=fun (w' :World) (H:List Blk) (hm:Mem w w' H)=>nT w' (hW.next hm);have hO:=fun w=>pO c w;have hre:=fun w=>dQ (cE c.col c.row) w;have hov:bY (cE c.col c.row)=0↔c.valid=true:=uE;have hH:=fun (a' :Bo) (w' :World) (H:List Blk) (hm:Mem w w' H) (hb:BRd w' (aO b) a'.v)=>pQ user a (aO b) a'.v w' hb (hW.next hm) (by omega) (by omega);generalize bY (cE c.col c.row)=z at hre hov;by_cases he:cY user a (aO b)≠0
 ·have hhe:uP user a (aO b)=([],cY user a (aO b)):=if_pos he;rw [hhe] at hH;generalize cY user a (aO b)=e at hH he;dsimp only at hH;rcases uG (aO b).ents with ⟨e2,he2,hG⟩|⟨G,hG,_,_⟩
  ·have hN:=fun (a' :Bo) (w' :World) (H:List Blk) (hm:Mem w w' H) (hb:BRd w' (aO b) a'.v)=>hG ▸ zr (aO b).ents _ w' hb.e (by omega) (hW.next hm);repeat' (first|apply aw (f:=16);rfl;rfl;intro w' hm;exact hC w' _ hm;rintro _ _ ⟨⟨ae,ar,ag,al,as_,ce,cr,cg,cl,cs⟩,rfl,rfl⟩;unfold iw;simp only [Xc,Xd]|apply aw (f:=23);rfl;rfl;intro w' hm;exact hH ⟨ae,ar,ag,al,as_,ce,cr,cg,cl,cs⟩ w' _ hm (BRd.of_sml hm pK pK pK pK pK);rintro _ _ ⟨Ah,ch,rfl,rfl⟩|apply aw (f:=21);rfl;rfl;intro w' hm;exact hN ⟨ae,ar,ag,al,as_,ce,cr,cg,cl,cs⟩ w' _ hm (BRd.of_sml hm pK pK pK pK pK);rintro _ _ ⟨rfl,rfl⟩|apply aa (f:=20);rfl;rfl;intro w' hm;exact hA w' _ hm|refine zZA ?_|refine sM fun _=>?_|refine sC ?_ ?_<;>intro hb<;>try omega|fail)
   all_goals first|omega|(refine rT1 ?_);rfl
  ·have hN:=fun (a' :Bo) (w' :World) (H:List Blk) (hm:Mem w w' H) (hb:BRd w' (aO b) a'.v)=>hG ▸ zr (aO b).ents _ w' hb.e (by omega) (hW.next hm);repeat' (first|apply aw (f:=16);rfl;rfl;intro w' hm;exact hC w' _ hm;rintro _ _ ⟨⟨ae,ar,ag,al,as_,ce,cr,cg,cl,cs⟩,rfl,rfl⟩;unfold iw;simp only [Xc,Xd]|apply aw (f:=23);rfl;rfl;intro w' hm;exact hH ⟨ae,ar,ag,al,as_,ce,cr,cg,cl,cs⟩ w' _ hm (BRd.of_sml hm pK pK pK pK pK);rintro _ _ ⟨Ah,ch,rfl,rfl⟩|apply aw (f:=21);rfl;rfl;intro w' hm;exact hN ⟨ae,ar,ag,al,as_,ce,cr,cg,cl,cs⟩ w' _ hm (BRd.of_sml hm pK pK pK pK pK);rintro _ _ ⟨gg,gm,E,clock,R,rfl,rfl,_⟩;refine cJ (_++(gB gg gm (E.map En.m) clock++R)) MSub.swap ?_;simp only [Xc,Xd]|apply aa (f:=20);rfl;rfl;intro w' hm;exact hA w' _ hm|refine zZA ?_|refine sM fun _=>?_|refine sC ?_ ?_<;>intro hb<;>try omega|fail)
   all_goals first|omega|(refine rT1 ?_);rfl
 have he0:cY user a (aO b)=0:=by omega
 obtain ⟨hGo,hGl,hva,hw⟩:=kI he0;have hhe:uP user a (aO b)=(da (grW (aO b)) (aZ (aO b).rules user) a,0):=if_neg he;rw [hhe] at hH;have hG:jr (aO b).ents=(some (grW (aO b)),0):=by
  obtain ⟨_,_,_,_,G,h1,_,_⟩:=lQ he0;rw [h1];unfold grW;rw [h1];rfl
 have hN:=fun (a' :Bo) (w' :World) (H:List Blk) (hm:Mem w w' H) (hb:BRd w' (aO b) a'.v)=>FQ hG hGo (by omega) _ w w' (fun gg gm E clock R hA=>hA.rdr hGo (by omega) gg gm w) hb.e (by omega) (hW.next hm);by_cases hvc:c.valid=false
 ·have hz:z≠0:=fun hz=>by rw [hov.1 hz] at hvc;cases hvc
  generalize da (grW (aO b)) (aZ (aO b).rules user) a=HV at hH;dsimp only at hH;repeat' (first|apply aw (f:=16);rfl;rfl;intro w' hm;exact hC w' _ hm;rintro _ _ ⟨⟨ae,ar,ag,al,as_,ce,cr,cg,cl,cs⟩,rfl,rfl⟩;unfold iw;simp only [Xc,Xd]|apply aw (f:=23);rfl;rfl;intro w' hm;exact hH ⟨ae,ar,ag,al,as_,ce,cr,cg,cl,cs⟩ w' _ hm (BRd.of_sml hm pK pK pK pK pK);rintro _ _ ⟨Ah,ch,rfl,rfl⟩|apply aw (f:=21);rfl;rfl;intro w' hm;exact hN ⟨ae,ar,ag,al,as_,ce,cr,cg,cl,cs⟩ w' _ hm (BRd.of_sml hm pK pK pK pK pK);rintro _ B ⟨gg,_,D,rfl,rfl⟩;refine cJ (_++B) MSub.swap ?_;simp only [Xc,Xd]|apply aa (f:=20);rfl;rfl;intro w' hm;exact hA w' _ hm|apply aa;rfl;rfl;intro w hm;exact hO w|apply aa;rfl;rfl;intro w hm;exact hre w|refine zZA ?_|refine sM fun _=>?_|refine sC ?_ ?_<;>intro hb<;>try omega|fail)
  all_goals first|omega|(refine rT1 ?_);rfl
 have hvc:c.valid=true:=by simpa using hvc
 have hz:z=0:=hov.2 hvc;subst hz;have hec:=BQ he0 hvc;have hre2:jR user c (aO b)=(cZ (grW (aO b)) (lwB (aO b)) user.toNat (aZ (aO b).rules user) c,0):=if_neg (fun h=>h hec);have hR:=fun (a' :Bo) (w' :World) (H:List Blk) (hm:Mem w w' H) (hb:BRd w' (aO b) a'.v)=>rF hre2 a'.v w' hb (hW.next hm) (by omega) (by omega);have hlaw:=Mw hGo hw hva hvc;obtain ⟨hck,hrc⟩:=zM (G:=grW (aO b)) hva hvc;rw [← hrc] at hlaw;have hHas:=fun r w=>jA r c w;have hHl:=yM hGo hw hva;generalize da (grW (aO b)) (aZ (aO b).rules user) a=HV at hH hlaw hHl;generalize cZ (grW (aO b)) (lwB (aO b)) user.toNat (aZ (aO b).rules user) c=r at hR hlaw;obtain ⟨y,hy⟩: ∃ y,kS (grW (aO b)) a c=y:=⟨_,rfl⟩;rw [hy] at hlaw;dsimp only at hH;have hrl: ∀ Ap cp Ac cc,iY r (sl Ap r.path.length cp) (sl Ac r.cuts.length cc)= [.bool r.sees,sl Ap r.path.length cp,sl Ac r.cuts.length cc]:=fun _ _ _ _=>rfl;simp only [hrl] at hR;obtain ⟨sees,path,cuts⟩:=r;dsimp only at hR hlaw;repeat' (first|refine zZB ?_|refine sM fun _=>?_|refine sC ?_ ?_<;>intro hb<;>try omega|fail)
 all_goals try omega
 rename_i g5 g6 g7;repeat' (first|apply aw (f:=16);rfl;rfl;intro w' hm;exact hC w' _ hm;rintro _ _ ⟨⟨ae,ar,ag,al,as_,ce,cr,cg,cl,cs⟩,rfl,rfl⟩;unfold iw;simp only [Xc,Xd]|apply aw (f:=23);rfl;rfl;intro w' hm;exact hH ⟨ae,ar,ag,al,as_,ce,cr,cg,cl,cs⟩ w' _ hm (BRd.of_sml hm pK pK pK pK pK);rintro _ _ ⟨Ah,ch,rfl,rfl⟩|apply aw (f:=21);rfl;rfl;intro w' hm;exact hN ⟨ae,ar,ag,al,as_,ce,cr,cg,cl,cs⟩ w' _ hm (BRd.of_sml hm pK pK pK pK pK);rintro _ B ⟨gg,_,D,rfl,rfl⟩;refine cJ (_++B) MSub.swap ?_;simp only [Xc,Xd]|apply aa (f:=20);rfl;rfl;intro w' hm;exact hA w' _ hm|apply aa;rfl;rfl;intro w hm;exact hO w|apply aa;rfl;rfl;intro w hm;exact hre w|apply aj (f:=27);rfl;rfl;refine D.reaches_to ?_ hy hck;(focus (exact mS;done));rintro _ _ ⟨rfl,rfl⟩|apply aw (f:=17);rfl;rfl;intro w' hm;exact hR ⟨ae,ar,ag,al,as_,ce,cr,cg,cl,cs⟩ w' _ hm (BRd.of_sml hm pK pK pK pK pK);rintro _ _ ⟨Ap,cp,Ac,cc,rfl,rfl⟩|refine zZA ?_|refine sM fun _=>?_|refine sC ?_ ?_<;>intro hb<;>try omega|fail)
 all_goals try omega
 rename_i gq;refine ax [7,9,13,15] rfl (fun y:Nat × Bool=> [(17,.bool y.2),(18,.int .i64 (y.1:Int))]) (fun _=> .own Ah 31 4 HV.length ch (HV.flatMap ay):: .box g7 34 (aq c):: .box gq 49 [.bool sees,sl Ap path.length cp,sl Ac cuts.length cc]:: []) (fun q=>q.1≤HV.length∧q.2=(HV.take q.1).any fun r=>aI r c) (fun q=>HV.length - q.1) (0,false) ⟨Xn _,rfl⟩ sB mS ?_;rintro ⟨i,f⟩ ⟨hi,hf⟩;dsimp only at hi hf ⊢;by_cases hlt:i<HV.length
 ·refine aU (A:=Ah) pK (by omega) fun gh hA=> ?_;subst hA;have hread:((HV.flatMap ay).drop (0+i*4)).take 4=ay HV[i]:=by rw [Xv];exact aM bM HV i hlt
  have hsn:(HV.take (i+1)).any (fun r=>aI r c)=(f||aI HV[i] c):=by rw [Xk hlt,List.any_append,← hf];simp
  have hHi:=fun w=>hHas HV[i] w;generalize aI HV[i] c=z at hsn hHi;generalize HV[i]=q at hread hHi
  cases f with
  |true=>
   rw [aan] at hsn;repeat' (first|apply aQ (d:=78);rfl;apply ai (j:=i);rfl;rfl;exact hlt|apply aQ (d:=79);rfl;apply au (ys:=ay q);rfl;exact pK;exact hread;rfl|apply df;rfl;rfl;intro w hm;exact hHi w|refine zZF ?_|refine sM fun _=>?_|refine sC ?_ ?_<;>intro hb<;>try omega|refine sCQ ?_ ?_<;>intro hb<;>try omega|fail)
   all_goals first
    |omega
    |refine ⟨(i+1,true),⟨hlt,hsn.symm⟩,by dsimp only;omega,by exact sB,by exact sB,by exact mS⟩;done
  |false=>
   rw [Z4] at hsn;repeat' (first|apply aQ (d:=78);rfl;apply ai (j:=i);rfl;rfl;exact hlt|apply aQ (d:=79);rfl;apply au (ys:=ay q);rfl;exact pK;exact hread;rfl|apply df;rfl;rfl;intro w hm;exact hHi w|refine zZF ?_|refine sM fun _=>?_|refine sC ?_ ?_<;>intro hb<;>try omega|refine sCQ ?_ ?_<;>intro hb<;>try omega|fail)
   all_goals first
    |omega
    |refine ⟨(i+1,z),⟨hlt,hsn.symm⟩,by dsimp only;omega,by exact sB,by exact sB,by exact mS⟩;done
 ·have e:i=HV.length:=by omega
  subst e;rw [XF,hlaw] at hf;subst hf;generalize path.length=pl
  cases hq:decide (pl=1) with
  |true=>
   have hp:=of_decide_eq_true hq;clear hq;cases y<;>cases sees;all_goals simp only [XT,XX,X8,Ye,Z3,aag]
   repeat' first|apply aa (f:=20);rfl;rfl;intro w' hm;exact hA w' _ hm|refine zZA ?_|refine sM fun _=>?_|refine sC ?_ ?_<;>intro hb<;>try omega|fail
   all_goals first|omega|exfalso;simp at hb;omega|(refine rT1 ?_);rfl
  |false=>
   have hp:=of_decide_eq_false hq;clear hq;cases y<;>cases sees;all_goals simp only [XT,XX,X8,Ye,Z3,aag]
   repeat' first|apply aa (f:=20);rfl;rfl;intro w' hm;exact hA w' _ hm|refine zZA ?_|refine sM fun _=>?_|refine sC ?_ ?_<;>intro hb<;>try omega|fail
   all_goals first|omega|exfalso;simp at hb;omega|(refine rT1 ?_);rfl
end Go.SL
