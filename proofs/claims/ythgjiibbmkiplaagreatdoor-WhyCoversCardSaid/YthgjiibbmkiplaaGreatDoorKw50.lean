/-
  Lemmas and walks, put together: Ng Tg Xh Xi.
-/
import Derived.Test.YthgjiibbmkiplaaGreatDoorKw44
set_option linter.unusedSimpArgs false
set_option linter.unusedVariables false
set_option maxRecDepth 20000
set_option maxHeartbeats 16000000
namespace Go.SL
open Go
theorem AJ {G:Gr} (hG:GrOk G) {c d:Rf} (hd:d∈ap G) (h:bi (aG G c) (cE d.col d.row)=true): ∃ u∈aG G c,aI u.rect d=true:=by
 unfold bi at h;rw [XQ] at h;obtain ⟨u,hu,h2⟩:=h;exact ⟨u,hu,by rw [← oH hG hu hd];exact h2⟩
theorem F9 {G:Gr} (hG:GrOk G) {c d:Rf} {u:Us} (hu:u∈aG G c) (hd:d∈ap G) (h:aI u.rect d=true):bi (aG G c) (cE d.col d.row)=true:=by
 unfold bi;rw [XQ];exact ⟨u,hu,by rw [oH hG hu hd];exact h⟩
section
variable {G:Gr} {w:Lw} {u:Nat} {hid:Rct→List Rct}
theorem wS (c:Rf):c∈iC G w u c∧(∀ x∈iC G w u c,x=c∨x∈ap G)∧ ∀ x∈iC G w u c,∀ r∈cG G w u x,∀ f∈ap G,aI r f=true→f∈iC G w u c:=by
 have h: ∀ n i S,WyI G w u c i S→G.length+1 - i≤n→ ∃ S',WyI G w u c S'.length S' :=fun n=>by
  induction n with
  |zero=>
   intro i S hS hn;have hl:=hS.len;have hle:=hS.le;have e:i=S.length:=by omega
   subst e;exact ⟨S,hS⟩
  |succ n ih=>
   intro i S hS hn;have hl:=hS.len;have hle:=hS.le;by_cases hi:i<S.length
   ·exact ih (i+1) _ (hS.step hi) (by omega)
   ·have e:i=S.length:=by omega
    subst e;exact ⟨S,hS⟩
 obtain ⟨S,hS⟩:=h (G.length+1) 0 [c] WyI.start (by omega);have e:=hS.end_;have hm: ∀ x,x∈iC G w u c↔x∈S:=fun x=>by
  unfold iC;rw [← e];exact (Zg S _).mem_iff
 refine ⟨(hm c).2 hS.here,fun x hx=>hS.sub x ((hm x).1 hx),fun x hx r hr f hf hh=>(hm f).2 ?_⟩;obtain ⟨j,hj,rfl⟩:=Z1.1 ((hm x).1 hx);exact hS.done j hj hj r hr f hf hh
def Ij (G:Gr) (hid:Rct→List Rct) (c:Rf):Prop:= ∃ l∈dl G c,hid l≠ []
theorem EV {hid:Rct→List Rct} {f:Rf} (hv:f.valid=true) (h:Ij G hid f):mQ G hid f=true:=by
 obtain ⟨l,hl,hn⟩:=h;unfold mQ ck;rw [if_pos (by unfold bS;simp [hv])];exact XQ.2 ⟨l,hl,decide_eq_true (Yr.2 hn)⟩
theorem Dx {c a:Rf} {x:Us} (ha:a∈iC G w u c) (hx:x∈aG G a) (ht:(w.to x).getLsbD u=true) (hh:cX G hid x.rect=true):iZ G w u hid c≠ []:=fun e=>by
 have h1:(⟨a,x.node⟩:Cl)∈iZ G w u hid c:=XL.2 ⟨a,ha,Xu.2 ⟨x,XM.2 ⟨hx,by rw [ht,hh];rfl⟩,rfl⟩⟩;rw [e] at h1;cases h1
theorem yL {r:Rct} {f:Rf} (hf:f∈ap G) (hh:aI r f=true) (hd:mQ G hid f=true):cX G hid r=true:=by
 unfold cX;rw [XQ.2 ⟨f,hf,by rw [hd,hh];rfl⟩,Bool.or_true]
theorem Rz (hG:GrOk G) (hw:HidW w u hid) {at_ c d:Rf} (hc:c∈iC G w u at_) (hs:seesP G w u c) {r:Rct} (hr:r=cE d.col d.row) (h:Rc G c r) (hd:d∈ap G) (hu: ∃ x∈aG G d,hid x.rect≠ []):iZ G w u hid at_≠ []:=by
 have hund: ∀ e∈ap G,(e=d∨Rc G e (cE d.col d.row))→Ij G hid e:=fun e he h2=>by
  obtain ⟨x,hx,hn⟩:=hu;refine ⟨x.rect,eP.2 ⟨d,?_,x,hx,rfl⟩,hn⟩;rcases h2 with h2|h2
  ·exact .inl h2.symm
  ·exact .inr (iJ.2 ⟨hd,h2⟩)
 have hbase: ∀ c,c∈iC G w u at_→seesP G w u c→(∃ x∈aG G c,hid x.rect≠ [])→iZ G w u hid at_≠ []:=fun c hc hs h2=>by
  obtain ⟨x,hx,hn⟩:=h2
  cases ht:(w.to x).getLsbD u with
  |true=>exact Dx hc hx ht (rP hn)
  |false=>exact absurd ((fj hG hw hs).2 x.rect (eu.2 ⟨x,hx,ht,rfl⟩)).2.1 hn
 induction h with
 | @use c r hck ht=>
  subst hr;obtain ⟨x,hx,hh⟩:=AJ hG hd ht
  cases htx:(w.to x).getLsbD u with
  |true=>exact Dx hc hx htx (yL hd hh (EV (ez hG hd) (hund d hd (.inl rfl))))
  |false=>
   have ho:=eu.2 ⟨x,hx,htx,rfl⟩;exact hbase d ((wS at_).2.2 c hc _ ho d hd hh) (((fj hG hw hs).2 _ ho).2.2 d hd hh) hu
 | @via c e r hck hek ht k ih=>
  subst hr;obtain ⟨x,hx,hh⟩:=AJ hG hek ht
  cases htx:(w.to x).getLsbD u with
  |true=>exact Dx hc hx htx (yL hek hh (EV (ez hG hek) (hund e hek (.inr k))))
  |false=>
   have ho:=eu.2 ⟨x,hx,htx,rfl⟩;exact ih ((wS at_).2.2 c hc _ ho e hek hh) (((fj hG hw hs).2 _ ho).2.2 e hek hh) rfl
theorem Fb (hG:GrOk G) (hw:HidW w u hid) {c:Rf} (hs:seesP G w u c) (h:Ij G hid c):iZ G w u hid c≠ []:=by
 obtain ⟨l,hl,hn⟩:=h;obtain ⟨x,hx,y,hy,rfl⟩:=eP.1 hl;rcases hx with rfl|hx
 ·cases ht:(w.to y).getLsbD u with
  |true=>exact Dx (wS x).1 hy ht (rP hn)
  |false=>exact absurd ((fj hG hw hs).2 y.rect (eu.2 ⟨y,hy,ht,rfl⟩)).2.1 hn
 ·have hb:=iJ.1 hx;exact Rz hG hw (wS c).1 hs rfl hb.2 hb.1 ⟨y,hy,hn⟩
theorem BH (h: ∀ x,(w.to x).getLsbD u=false) (c:Rf):iZ G w u hid c= []:=by
 unfold iZ;refine YM.2 fun y hy=> ?_;obtain ⟨a,_,hy⟩:=XL.1 hy;obtain ⟨x,hx,_⟩:=Xu.1 hy;rw [XM,h x] at hx;cases hx.2
theorem J0 (hG:GrOk G) (hw:HidW w u hid): ∀ (l:List Rf) (c:Rf),fI G w u (c::l)=true→l≠ []→Ij G hid c
 | [],_,_,hn=>absurd rfl hn
 |b::l,c,h,_=>by
  rw [fI,Xo,Xo,Xo,XQ] at h;obtain ⟨⟨_,_,r,hr,h2⟩,h3⟩:=h;obtain ⟨x,hx,_,rfl⟩:=eu.1 hr;have hok:=iE hG hx
  cases l with
  |nil=>
   rw [fI,Xo,Y4] at h3;obtain ⟨p,hp,_⟩:=hw.cov _ hok b h2 h3.2;exact ⟨x.rect,eP.2 ⟨c,.inl rfl,x,hx,rfl⟩,fun e=>by rw [e] at hp;cases hp⟩
  |cons b2 l=>
   obtain ⟨q,hq,hn⟩:=J0 hG hw (b2::l) b h3 (List.cons_ne_nil _ _);have hck:c∈ap G:=Classical.byContradiction fun hk=>by rw [kO hk] at hx;cases hx
   have hbk:b∈ap G:=Classical.byContradiction fun hk=>by
    rw [fI,Xo,Xo,Xo,XQ] at h3;obtain ⟨⟨_,_,r2,hr2,_⟩,_⟩:=h3;obtain ⟨y,hy,_⟩:=eu.1 hr2;rw [kO hk] at hy;cases hy
   have hrc:Rc G c (cE b.col b.row):= .use hck (F9 hG hx hbk h2);obtain ⟨z,hz,y,hy,e⟩:=eP.1 hq;refine ⟨q,eP.2 ⟨z,?_,y,hy,e⟩,hn⟩;rcases hz with rfl|hz
   ·exact .inr (iJ.2 ⟨hbk,hrc⟩)
   ·have hb:=iJ.1 hz;exact .inr (iJ.2 ⟨hb.1,Rc.trans hrc hbk hb.2⟩)
theorem LH (hG:GrOk G) (hw:HidW w u hid) (h: ∀ x,(w.to x).getLsbD u=false) {c:Rf} (hs:seesP G w u c): ¬ Ij G hid c:=fun hu=>Fb hG hw hs hu (BH h c)
theorem I9 (hG:GrOk G) (hw:HidW w u hid) {c:Rf} (hv:c.valid=true):da G hid c≠ []↔Ij G hid c:=by
 have hsw:=uO hG hw hv;constructor
 ·intro h;obtain ⟨r,hr⟩:=List.exists_mem_of_ne_nil _ h;obtain ⟨p,hp,_⟩:=(hsw.mem _).1 ⟨r,hr,nM (hsw.ok r hr)⟩;obtain ⟨l,hl,h2⟩:=XL.1 hp;exact ⟨l,(eE hv).1 hl,fun e=>by rw [e] at h2;cases h2⟩
 ·rintro ⟨l,hl,hn⟩ e;obtain ⟨p,hp⟩:=List.exists_mem_of_ne_nil _ hn;have hpo:=(hw.un l (kV hG hl) p hp).1;obtain ⟨r,hr,_⟩:=(hsw.mem _).2 ⟨p,XL.2 ⟨l,(eE hv).2 hl,hp⟩,nM hpo⟩;rw [e] at hr;cases hr
end
open Go.Proofs
def C0 (b:Bk):Bk:=⟨b.users,b.ents,b.rules,[],b.log,b.rels,b.step⟩
theorem Qd {user:Int} {a:Rf} {b:Bk} (h:cY user a b=0):cY user a (C0 b)=0:=by
 obtain ⟨hbk,hu0,hu1,hv,G,hG,_⟩:=lQ h;have hg:(lA b.users []).2=0:=by
  have:=hbk.u;unfold lA;rw [if_neg (by omega),if_neg (by simp)]
  rfl
 have hb2:bkE (C0 b)=0:=P9.2 ⟨hbk.u,hbk.e,hbk.r,hg,hbk.l,hbk.s,hbk.le,hbk.lr⟩;unfold cY;rw [if_neg (by rw [hb2];decide),if_neg (show ¬ (user<0∨(C0 b).users≤user) from (show ¬ (user<0∨b.users≤user) by omega)),if_neg (by rw [hv];decide)];show (jr b.ents).2=0;rw [hG]
theorem RT (L:List Rl) (u:Nat) (x:Us):((dV L []).to x).getLsbD u=false:=by
 have h:(eB x.fn x.rect L []).1=0#64:=by
  unfold eB;split
  ·rfl
  ·split
   ·rfl
   ·split
    ·rfl
    ·split<;>rfl
 show (if x.node<0 then 0#64 else (eB x.fn x.rect L []).1).getLsbD u=false;rw [h];split<;>simp
theorem RR {p q:Rct} (h: ∀ a,¬ (aI p a=true∧aI q a=true)):(bZ p q).2=false:=by
 unfold bZ;split
 ·rename_i hall;simp only [Zv,aac,X8,Xo] at hall;have h1:=aV.1 hall.2.2;have e1:=mC p q;have e2:=mB p q;have e3:=mA p q;have e4:=mz p q;exact absurd ⟨aJ.2 (by dsimp only;omega),aJ.2 (by dsimp only;omega)⟩ (h ⟨(fP p q).c1,(fP p q).r1⟩)
 ·rfl
structure CovOk (G:Gr) (w w0:Lw) (u:Nat) (hid:Rct→List Rct) (a:Rf):Prop where
 ok: ∀ p∈da G hid a,aA p=true
 dis: ∀ i k (hi:i<(da G hid a).length) (hk:k<i),(bZ ((da G hid a)[i]) ((da G hid a)[k])).2=false
 yes:(cZ G w u hid a).sees=true→0<(da G hid a).length→0<(cZ G w u hid a).cuts.length
 no:(cZ G w u hid a).sees=false→1<(cZ G w u hid a).path.length→0<(da G hid a).length
 cut:(cZ G w0 u hid a).cuts= []
 un:0<(da G hid a).length→(cZ G w0 u hid a).sees=false
theorem Sy {G:Gr} {w w0:Lw} {u:Nat} {hid:Rct→List Rct} (hG:GrOk G) (hw:HidW w u hid) (hw0:HidW w0 u hid) (h0: ∀ x,(w0.to x).getLsbD u=false) {a:Rf} (hv:a.valid=true):CovOk G w w0 u hid a:=by
 have hsw:=uO hG hw hv;have hpos:0<(da G hid a).length↔Ij G hid a:=by rw [Yr];exact I9 hG hw hv
 refine ⟨hsw.ok,fun i k hi hk=>RR fun c hc=>aaf.1 hsw.dis k i (by omega) hi hk c ⟨hc.2,hc.1⟩,fun hs hl=> ?_,fun hs hl=> ?_,?_,fun hl=> ?_⟩
 ·unfold cZ at hs ⊢;split at hs
  ·rename_i h;rw [if_pos h];exact Yr.2 (Fb hG hw (fR.1 h) (hpos.1 hl))
  ·cases hs
 ·cases h:(gA G w a).getLsbD u with
  |true=>unfold cZ at hs;rw [if_pos h] at hs;cases hs
  |false=>
   obtain ⟨l,h1,h2⟩:=yh hG hw hv h;rw [h1] at hl;refine hpos.2 (J0 hG hw l a h2 fun e=> ?_);rw [e] at hl;simp at hl
 ·unfold cZ;split
  ·exact BH h0 a
  ·rfl
 ·unfold cZ;split
  ·rename_i h;exact absurd (hpos.1 hl) (LH hG hw0 h0 (fR.1 h))
  ·rfl
structure CovP (r:Rsn) (l:List Rct) (s:Rsn):Prop where
 ok: ∀ i (hi:i<l.length),bY l[i]=0
 dis: ∀ i k (hi:i<l.length) (hk:k<i),(bZ (l[i]) (l[k])).2=false
 yes:r.sees=true→0<l.length→0<r.cuts.length
 no:r.sees=false→1<r.path.length→0<l.length
 cut:s.cuts= []
 un:0<l.length→s.sees=false
theorem Js {user:Int} {a:Rf} {b:Bk} (h:cY user a b=0): ∃ r l s,jR user a b=(r,0)∧uP user a b=(l,0)∧jR user a (C0 b)=(s,0)∧uP user a (C0 b)=(l,0)∧l.length≤2000000∧CovP r l s:=by
 have h2:=Qd h;obtain ⟨hG,_,hv,hw⟩:=kI h;obtain ⟨_,_,_,hw0⟩:=kI h2;have hc:=Sy (w0:=lwB (C0 b)) hG hw hw0 (fun x=>RT b.rules user.toNat x) hv;exact ⟨_,_,_,if_neg (fun n=>n h),if_neg (fun n=>n h),if_neg (fun n=>n h2),if_neg (fun n=>n h2),yM hG hw hv,fun i hi=>(jm _).2 (hc.ok _ (XO hi)),hc.dis,hc.yes,hc.no,hc.cut,hc.un⟩
attribute [local irreducible] FnAt FnIn FnP RW VOp W WA WC WE WG WL WLI WQ WR WT WX aX aY bA blk bw ceP scp thn
theorem wY {w0 w:World} {H:List Blk} {b:Bk} (a:Bo) (hm:Mem w0 w H) (h1:In (.own a.e 79 3 b.ents.length a.ce ((smT b.ents (aO b).ents.length).flatMap bN)) H) (h2:In (.own a.r 137 7 b.rules.length a.cr (b.rules.flatMap bQ)) H) (h3:In (.own a.g 76 8 b.grants.length a.cg (b.grants.flatMap cD)) H) (h4:In (.own a.l 147 9 b.log.length a.cl (b.log.flatMap fF)) H) (h5:In (.own a.s 149 11 b.rels.length a.cs (b.rels.flatMap fE)) H):BRd w (C0 (aO b)) (Bo.v ⟨a.e,a.r,none,a.l,a.s,a.ce,a.cr,0,a.cl,a.cs⟩):=
 have h:=BRd.of_sml hm h1 h2 h3 h4 h5
 ⟨h.e,h.r,bG w,h.l,h.s⟩
theorem DK (user:Int) (a:Rf) (b:Bk) (x:Bv) (w:World) (h:BRd w b x) (hW:Words w) (hs:SmallW b):
 aL Tryz.prog 6 [.int .i64 user,aC a,.agg (bg b x).toArray] w (.bool true):=by
 refine aB Tryz.func6 rfl Tryz.ntmps6 rfl ?_;obtain ⟨hl1,hl2⟩:=sx b;have hC:=fun (w' :World) (H:List Blk) (hm:Mem w w' H)=>nV b x w' (h.of_w0 hm) hs;have hA:=fun (w' :World) (H:List Blk) (hm:Mem w w' H)=>nT w' (hW.next hm);by_cases he:cY user a (aO b)≠0
 ·have hR:=fun (a' :Bo) (w' :World) (H:List Blk) (hm:Mem w w' H) (hb:BRd w' (aO b) a'.v)=>qB user a (aO b) a'.v w' hb (hW.next hm) (by omega) (by omega);have hH:=fun (a' :Bo) (w' :World) (H:List Blk) (hm:Mem w w' H) (hb:BRd w' (aO b) a'.v)=>pQ user a (aO b) a'.v w' hb (hW.next hm) (by omega) (by omega);have hre:jR user a (aO b)=(⟨false,[],[]⟩,cY user a (aO b)):=if_pos he;have hhe:uP user a (aO b)=([],cY user a (aO b)):=if_pos he;rw [hre] at hR;rw [hhe] at hH;generalize cY user a (aO b)=e at hR hH he;dsimp only at hR hH;repeat' (first|apply aw (f:=16);rfl;rfl;intro w' hm;exact hC w' _ hm;rintro _ _ ⟨⟨ae,ar,ag,al,as_,ce,cr,cg,cl,cs⟩,rfl,rfl⟩;unfold iw;simp only [Xc,Xd]|apply aw (d:=23);rfl;rfl;intro w' hm;exact hR ⟨ae,ar,ag,al,as_,ce,cr,cg,cl,cs⟩ w' _ hm (BRd.of_sml hm pK pK pK pK pK);rintro _ _ ⟨Ap,cp,Ac,cc,rfl,rfl⟩|apply aw (d:=30);rfl;rfl;intro w' hm;exact hH ⟨ae,ar,ag,al,as_,ce,cr,cg,cl,cs⟩ w' _ hm (BRd.of_sml hm pK pK pK pK pK);rintro _ _ ⟨Ah,ch,rfl,rfl⟩|apply aa (f:=20);rfl;rfl;intro w' hm;exact hA w' _ hm|refine zZA ?_|refine sM fun _=>?_|refine sC ?_ ?_<;>intro hb<;>try omega|fail)
  all_goals first|omega|(refine rT1 ?_);rfl
 have he0:cY user a (aO b)=0:=by omega
 obtain ⟨r,l,s,hre,hhe,hre2,hhe2,hll,hcv⟩:=Js he0;clear he he0;obtain ⟨sees,path,cuts⟩:=r;obtain ⟨sees2,path2,cuts2⟩:=s;obtain ⟨hok,hdis,hyes,hno,hcut,hun⟩:=hcv;dsimp only at hyes hno hcut hun;subst hcut;have hR:=fun (a' :Bo) (w' :World) (H:List Blk) (hm:Mem w w' H) (hb:BRd w' (aO b) a'.v)=>rF hre a'.v w' hb (hW.next hm) (by omega) (by omega);have hH:=fun (a' :Bo) (w' :World) (H:List Blk) (hm:Mem w w' H) (hb:BRd w' (aO b) a'.v)=>Jb hhe a'.v w' hb (hW.next hm) (by omega) (by omega);have hR2:=fun (a' :Bo) (w' :World) (H:List Blk) (hm:Mem w w' H) (hb:BRd w' (C0 (aO b)) a'.v)=>rF hre2 a'.v w' hb (hW.next hm) (XU hl1 (by decide)) (Xn _);have hH2:=fun (a' :Bo) (w' :World) (H:List Blk) (hm:Mem w w' H) (hb:BRd w' (C0 (aO b)) a'.v)=>Jb hhe2 a'.v w' hb (hW.next hm) (XU hl1 (by decide)) (Xn _);have hE:=fun (Ah:Option Nat) (ch:Nat) (Ai:Option Nat) (ci:Nat) (w' :World) (H:List Blk) (hm:Mem w w' H) (h1:In (.own Ah 31 4 l.length ch (l.flatMap ay)) H) (h2:In (.own Ai 31 4 l.length ci (l.flatMap ay)) H)=>(decide_eq_true (rfl:l=l)) ▸ ra l l _ _ w' (Reads.of_own hm h1) (Reads.of_own hm h2);have hrl: ∀ Ap cp Ac cc,iY ⟨sees,path,cuts⟩ (sl Ap path.length cp) (sl Ac cuts.length cc)= [.bool sees,sl Ap path.length cp,sl Ac cuts.length cc]:=fun _ _ _ _=>rfl;have hrl2: ∀ Ap cp Ac cc,iY ⟨sees2,path2,[]⟩ (sl Ap path2.length cp) (sl Ac ([]:List Cl).length cc)= [.bool sees2,sl Ap path2.length cp,sl Ac 0 cc]:=fun _ _ _ _=>rfl;dsimp only at hR hR2;simp only [hrl] at hR;simp only [hrl2] at hR2;clear hre hhe hre2 hhe2;repeat' (first|refine zZB ?_|refine sM fun _=>?_|refine sC ?_ ?_<;>intro hb<;>try omega|fail)
 all_goals try omega
 rename_i g4 g5;repeat' (first|apply aw (f:=16);rfl;rfl;intro w' hm;exact hC w' _ hm;rintro _ _ ⟨⟨ae,ar,ag,al,as_,ce,cr,cg,cl,cs⟩,rfl,rfl⟩;unfold iw;simp only [Xc,Xd]|apply aw (d:=23);rfl;rfl;intro w' hm;exact hR ⟨ae,ar,ag,al,as_,ce,cr,cg,cl,cs⟩ w' _ hm (BRd.of_sml hm pK pK pK pK pK);rintro _ _ ⟨Ap,cp,Ac,cc,rfl,rfl⟩|refine zZA ?_|refine sM fun _=>?_|refine sC ?_ ?_<;>intro hb<;>try omega|fail)
 all_goals try omega
 rename_i g7;repeat' (first|apply aw (d:=30);rfl;rfl;intro w' hm;exact hH ⟨ae,ar,ag,al,as_,ce,cr,cg,cl,cs⟩ w' _ hm (BRd.of_sml hm pK pK pK pK pK);rintro _ _ ⟨Ah,ch,rfl,rfl⟩|refine zZA ?_|refine sM fun _=>?_|refine sC ?_ ?_<;>intro hb<;>try omega|fail)
 all_goals try omega
 refine ax [0,4,5,7,9] rfl (fun i:Nat=> [(8,.int .i64 0),(10,.int .i64 0),(11,.int .i64 (i:Int))]) (fun _=> .own Ah 31 4 l.length ch (l.flatMap ay):: .box g7 49 [.bool sees,sl Ap path.length cp,sl Ac cuts.length cc]:: .own Ac 98 3 cuts.length cc (cuts.flatMap dr):: .own Ap 34 2 path.length cp (path.flatMap aq):: .box g4 34 (aq a):: .box g5 28 (bg (aO b) (Bo.v ⟨ae,ar,ag,al,as_,ce,cr,cg,cl,cs⟩)):: .own ae 79 3 b.ents.length ce ((smT b.ents (aO b).ents.length).flatMap bN):: .own ar 137 7 b.rules.length cr (b.rules.flatMap bQ):: .own ag 76 8 b.grants.length cg (b.grants.flatMap cD):: .own al 147 9 b.log.length cl (b.log.flatMap fF):: .own as_ 149 11 b.rels.length cs (b.rels.flatMap fE):: []) (fun i=>i≤l.length) (fun i=>l.length - i) 0 (Xn _) sB mS ?_;rintro i hi;by_cases hlt:i<l.length
 ·refine aU (A:=Ah) pK (by omega) fun gh hAh=> ?_;subst hAh;have hread:((l.flatMap ay).drop (0+i*4)).take 4=ay l[i]:=by rw [Xv];exact aM bM l i hlt
  have hoki:=hok i hlt;have hC4:=fun w' =>dQ l[i] w';rw [hoki] at hC4;obtain ⟨q,hq⟩: ∃ q,l[i]=q:=⟨_,rfl⟩;rw [hq] at hread hC4;repeat' (first|apply ak (d:=52);rfl;apply ai (j:=i);rfl;rfl;exact hlt|apply ak (d:=53);rfl;apply au (ys:=ay q);rfl;exact pK;exact hread;rfl|apply aa (f:=24);rfl;rfl;intro w' hm;exact hC4 w'|refine zZA ?_|refine sM fun _=>?_|refine sC ?_ ?_<;>intro hb<;>try omega|fail)
  all_goals try omega
  refine ax [0,4,5,7,8,9,10,11] rfl (fun k:Nat=> [(12,.int .i64 (k:Int))]) (fun _=> .own (some gh) 31 4 l.length ch (l.flatMap ay):: .box g7 49 [.bool sees,sl Ap path.length cp,sl Ac cuts.length cc]:: .own Ac 98 3 cuts.length cc (cuts.flatMap dr):: .own Ap 34 2 path.length cp (path.flatMap aq):: .box g4 34 (aq a):: .box g5 28 (bg (aO b) (Bo.v ⟨ae,ar,ag,al,as_,ce,cr,cg,cl,cs⟩)):: .own ae 79 3 b.ents.length ce ((smT b.ents (aO b).ents.length).flatMap bN):: .own ar 137 7 b.rules.length cr (b.rules.flatMap bQ):: .own ag 76 8 b.grants.length cg (b.grants.flatMap cD):: .own al 147 9 b.log.length cl (b.log.flatMap fF):: .own as_ 149 11 b.rels.length cs (b.rels.flatMap fE):: []) (fun k=>k≤i) (fun k=>i - k) 0 (Xn _) sB mS ?_;rintro k hk;by_cases hlk:k<i∧k<60
  ·obtain ⟨hlk,hk60⟩:=hlk;have hlk2:k<l.length:=by omega
   have hread2:((l.flatMap ay).drop (0+k*4)).take 4=ay l[k]:=by rw [Xv];exact aM bM l k hlk2
   have hd:=hdis i k hlt hlk;have hM:=fun w' =>tX l[i] l[k] w';rw [hq] at hM hd;generalize l[k]=p at hread2 hM hd;generalize bZ q p=mt at hM hd;obtain ⟨mr,mb⟩:=mt;dsimp only at hM hd;subst hd;repeat' (first|refine zZA ?_|refine sM fun _=>?_|refine sC ?_ ?_<;>intro hb<;>try omega|fail)
   all_goals try omega
   refine fw (id:=16) [8,12,13] [.own (some gh) 31 4 l.length ch (l.flatMap ay)] 15 rfl rfl mS ?_;repeat' (first|apply ba (i:=2);(iterate 4 rfl);(iterate 3 decide+kernel);apply ai (j:=i);rfl;rfl;exact hlt|apply ba (i:=3);(iterate 4 rfl);(iterate 3 decide+kernel);apply au (ys:=ay q);rfl;exact pK;exact hread;rfl|apply ba (i:=6);(iterate 4 rfl);(iterate 3 decide+kernel);apply ai (j:=k);rfl;rfl;exact hlk2|apply ba (i:=7);(iterate 4 rfl);(iterate 3 decide+kernel);apply au (ys:=ay p);rfl;exact pK;exact hread2;rfl|apply ba (i:=0);(iterate 4 rfl);(iterate 3 decide+kernel);exact vC|apply ba (i:=1);(iterate 4 rfl);(iterate 3 decide+kernel);exact vC|apply ba (i:=4);(iterate 4 rfl);(iterate 3 decide+kernel);exact vC|apply ba (i:=5);(iterate 4 rfl);(iterate 3 decide+kernel);exact vC|apply ba (i:=9);(iterate 4 rfl);(iterate 3 decide+kernel);exact vC|apply ba (i:=10);(iterate 4 rfl);(iterate 3 decide+kernel);exact vC|apply ba (i:=11);(iterate 4 rfl);(iterate 3 decide+kernel);exact vC|apply ba (i:=14);(iterate 4 rfl);(iterate 3 decide+kernel);apply eY;rfl|apply cF (i:=8) (j:=12);(iterate 6 rfl);decide+kernel|apply bk (i:=8);(iterate 3 rfl);decide+kernel|apply bk (i:=12);(iterate 3 rfl);decide+kernel|apply bk (i:=13);(iterate 3 rfl);decide+kernel|apply fu;decide+kernel|apply rW;(focus (exact mS;done))|apply aa (f:=25);rfl;rfl;intro w' hm;exact hM w'|refine zZA ?_|refine sM fun _=>?_|refine sC ?_ ?_<;>intro hb<;>try omega|fail)
   all_goals try omega
   all_goals first
    |omega
    |refine ⟨k+1,hlk,by omega,by exact sB,by exact sB,by exact mS⟩;done
  ·repeat' first|refine zZA ?_|refine sM fun _=>?_|refine sC ?_ ?_<;>intro hb<;>try omega|fail
   all_goals first
    |omega
    |refine ⟨i+1,hlt,by omega,by exact sB,by exact sB,by exact mS⟩;done
 ·have e:i=l.length:=by omega
  subst e;clear hok hdis hi hlt;cases sees
  ·simp only [true_implies,false_implies,reduceCtorEq,Bool.true_eq_false,X3] at hyes hno;repeat' (first|refine zZA ?_|refine sM fun _=>?_|refine sC ?_ ?_<;>intro hb<;>try omega|fail)
   all_goals try omega
   all_goals simp only [bg,Bo.v]
   all_goals
    repeat' first|apply aa (f:=20);rfl;rfl;intro w' hm;exact hA w' _ hm|refine zZA ?_|refine sM fun _=>?_|refine sC ?_ ?_<;>intro hb<;>try omega|fail
   all_goals try omega
   all_goals first|(refine rT1 ?_);rfl|skip
   all_goals
    repeat' first|apply aw (d:=117);rfl;rfl;intro w' hm;exact hR2 ⟨ae,ar,none,al,as_,ce,cr,0,cl,cs⟩ w' _ hm (wY ⟨ae,ar,ag,al,as_,ce,cr,cg,cl,cs⟩ hm pK pK pK pK pK);rintro _ _ ⟨Aq,cq,Ad,cd,rfl,rfl⟩|refine zZA ?_|refine sM fun _=>?_|refine sC ?_ ?_<;>intro hb<;>try omega|fail
   all_goals try omega
   all_goals rename_i g15
   all_goals cases sees2
   all_goals
    repeat' first|apply aw (d:=124);rfl;rfl;intro w' hm;exact hH2 ⟨ae,ar,none,al,as_,ce,cr,0,cl,cs⟩ w' _ hm (wY ⟨ae,ar,ag,al,as_,ce,cr,cg,cl,cs⟩ hm pK pK pK pK pK);rintro _ _ ⟨Ai,ci,rfl,rfl⟩|apply aa (d:=136);rfl;rfl;intro w' hm;exact hE Ah ch Ai ci w' _ hm pK pK|apply aa (f:=20);rfl;rfl;intro w' hm;exact hA w' _ hm|refine zZA ?_|refine sM fun _=>?_|refine sC ?_ ?_<;>intro hb<;>try omega|fail
   all_goals first|omega|exact absurd (hun (by omega)) (by decide)|(refine rT1 ?_);rfl
  ·simp only [true_implies,false_implies,reduceCtorEq,Bool.true_eq_false,X3] at hyes hno;repeat' (first|refine zZA ?_|refine sM fun _=>?_|refine sC ?_ ?_<;>intro hb<;>try omega|fail)
   all_goals try omega
   all_goals simp only [bg,Bo.v]
   all_goals
    repeat' first|apply aa (f:=20);rfl;rfl;intro w' hm;exact hA w' _ hm|refine zZA ?_|refine sM fun _=>?_|refine sC ?_ ?_<;>intro hb<;>try omega|fail
   all_goals try omega
   all_goals first|(refine rT1 ?_);rfl|skip
   all_goals
    repeat' first|apply aw (d:=117);rfl;rfl;intro w' hm;exact hR2 ⟨ae,ar,none,al,as_,ce,cr,0,cl,cs⟩ w' _ hm (wY ⟨ae,ar,ag,al,as_,ce,cr,cg,cl,cs⟩ hm pK pK pK pK pK);rintro _ _ ⟨Aq,cq,Ad,cd,rfl,rfl⟩|refine zZA ?_|refine sM fun _=>?_|refine sC ?_ ?_<;>intro hb<;>try omega|fail
   all_goals try omega
   all_goals rename_i g15
   all_goals cases sees2
   all_goals
    repeat' first|apply aw (d:=124);rfl;rfl;intro w' hm;exact hH2 ⟨ae,ar,none,al,as_,ce,cr,0,cl,cs⟩ w' _ hm (wY ⟨ae,ar,ag,al,as_,ce,cr,cg,cl,cs⟩ hm pK pK pK pK pK);rintro _ _ ⟨Ai,ci,rfl,rfl⟩|apply aa (d:=136);rfl;rfl;intro w' hm;exact hE Ah ch Ai ci w' _ hm pK pK|apply aa (f:=20);rfl;rfl;intro w' hm;exact hA w' _ hm|refine zZA ?_|refine sM fun _=>?_|refine sC ?_ ?_<;>intro hb<;>try omega|fail
   all_goals first|omega|exact absurd (hun (by omega)) (by decide)|(refine rT1 ?_);rfl
end Go.SL
