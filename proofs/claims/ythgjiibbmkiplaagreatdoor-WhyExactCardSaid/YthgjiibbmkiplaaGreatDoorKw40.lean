/-
  Lemmas and walks, put together: W10 Tf Tg.
-/
import Derived.Test.YthgjiibbmkiplaaGreatDoorKw22
import Derived.Test.YthgjiibbmkiplaaGreatDoorKw31
set_option linter.unusedSimpArgs false
set_option linter.unusedVariables false
set_option maxRecDepth 20000
namespace Go.SL
open Go Go.Proofs
attribute [local irreducible] W WL WQ WG WA VOp thn blk aY FnAt FnIn
def k7:Nd:=⟨7,cU,bU,0,9,2⟩
structure SwI (l:List Rct) (y:Int) (st:Swp):Prop where
 fl:st.first≤st.out.length
 bd: ∃ s,s<y∧st.out.drop st.first=st.band.map (dK s s)∧ ∀ r∈st.out.take st.first,r.r2<s
 ord: ∀ r∈fq st y,r.c1≤r.c2∧r.r1≤r.r2∧r.r2<y
 cov: ∀ a:Rf,a.row<y→((∃ r∈fq st y,aI r a=true)↔ ∃ p∈l,aI p a=true)
 dis:(fq st y).Pairwise fun r q=> ∀ a,¬ (aI r a=true∧aI q a=true)
theorem SwI.start {l:List Rct} {y:Int} (h: ∀ p∈l,y≤p.r1):SwI l y ⟨[],0,[]⟩:=by
 refine ⟨Xy _,⟨y - 1,by omega,rfl,fun _ h=>(by cases h)⟩,fun _ h=>(by cases h),fun a ha=>⟨fun h=>(by obtain ⟨_,h,_⟩:=h;cases h),fun h2=> ?_⟩,List.Pairwise.nil⟩;obtain ⟨p,hp,h3⟩:=h2;have:=h p hp;have:=aJ.1 h3;omega
theorem AQ {l:List Rct} {y y' :Int} (hy: ∀ p∈l,¬ (y<p.r1∧p.r1<y')∧ ¬ (y<p.r2+1∧p.r2+1<y')) {a:Rf} (h1:y≤a.row) (h2:a.row<y'):(∃ p∈l,aI p a=true)↔yJ l y a.col:=by
 unfold yJ;constructor
 ·rintro ⟨p,hp,h⟩;have h3:=aJ.1 h;have h4:=hy p hp;exact ⟨p,hp,aJ.2 (by simp only;omega)⟩
 ·rintro ⟨p,hp,h⟩;have h3:=aJ.1 h;have h4:=hy p hp;simp only at h3;exact ⟨p,hp,aJ.2 (by omega)⟩
theorem zk {s t:Int}: ∀ {R:List Rn},R.Pairwise (fun x y=>x.2+1<y.1)→(R.map (dK s t)).Pairwise fun r q=> ∀ a,¬ (aI r a=true∧aI q a=true)
 | [],_=>List.Pairwise.nil
 |x::R,h=>by
  have hx:=XG.1 h;rw [XD,XG];refine ⟨fun q hq a ha=> ?_,zk hx.2⟩;obtain ⟨y,hy,rfl⟩:=Xu.1 hq;have h1:=hx.1 y hy;have h2:=aJ.1 ha.1;have h3:=aJ.1 ha.2;simp only [dK] at h2 h3;omega
theorem G5 (s t:Int) (R:List Rn):(R.map (dK s s)).map (Ki t)=R.map (dK s t):=by rw [YL];rfl
theorem SwI.step {l:List Rct} (hl: ∀ p∈l,p.c1≤p.c2) {y y' :Int} {st:Swp} (h:SwI l y st) (hlt:y<y') (hy: ∀ p∈l,¬ (y<p.r1∧p.r1<y')∧ ¬ (y<p.r2+1∧p.r2+1<y')):SwI l y' (l8 l st y):=by
 have hc:=xc hl y;obtain ⟨s,hs,hb,hlow⟩:=h.bd;have hcl: ∀ t,fq st t=st.out.take st.first++st.band.map (dK s (t - 1)):=fun t=>by
  unfold fq;rw [hb,G5]
 unfold l8;split
 ·rename_i he;rw [he] at hc;have hbo:=hc.ord;have hold:=h.ord;have hcov:=h.cov;have hdis:=h.dis;rw [hcl] at hold hcov hdis;have hd:=Yh.1 hdis;refine ⟨h.fl,⟨s,by omega,hb,hlow⟩,fun r hr=> ?_,fun a ha=> ?_,?_⟩
  ·rw [hcl] at hr;rcases Xr.1 hr with hr|hr
   ·have:=hold r (Xw _ hr);omega
   ·obtain ⟨x,hx,rfl⟩:=Xu.1 hr;have:=hbo x hx;simp only [dK];omega
  ·rw [hcl];rcases Int.lt_or_le a.row y with h1|h1
   ·rw [← hcov a h1];constructor
    ·rintro ⟨r,hr,h2⟩;rcases Xr.1 hr with hr|hr
     ·exact ⟨r,Xw _ hr,h2⟩
     ·obtain ⟨x,hx,rfl⟩:=Xu.1 hr;have h3:=aJ.1 h2;simp only [dK] at h3;exact ⟨_,XB _ (Xu.2 ⟨x,hx,rfl⟩),aJ.2 (by simp only [dK];omega)⟩
    ·rintro ⟨r,hr,h2⟩;rcases Xr.1 hr with hr|hr
     ·exact ⟨r,Xw _ hr,h2⟩
     ·obtain ⟨x,hx,rfl⟩:=Xu.1 hr;have h3:=aJ.1 h2;simp only [dK] at h3;exact ⟨_,XB _ (Xu.2 ⟨x,hx,rfl⟩),aJ.2 (by simp only [dK];omega)⟩
   ·rw [AQ hy h1 ha,← hc.mem];constructor
    ·rintro ⟨r,hr,h2⟩;have h3:=aJ.1 h2;rcases Xr.1 hr with hr|hr
     ·have:=hlow r hr;omega
     ·obtain ⟨x,hx,rfl⟩:=Xu.1 hr;exact ⟨x,hx,h3.1,h3.2.1⟩
    ·rintro ⟨x,hx,h2,h3⟩;exact ⟨_,XB _ (Xu.2 ⟨x,hx,rfl⟩),aJ.2 (by simp only [dK];omega)⟩
  ·rw [hcl,Yh];refine ⟨hd.1,zk hc.gap,fun r hr q hq a ha=> ?_⟩;obtain ⟨x,hx,rfl⟩:=Xu.1 hq;have h1:=hlow r hr;have h2:=aJ.1 ha.1;have h3:=aJ.1 ha.2;simp only [dK] at h3;omega
 ·have htk: ∀ (A B:List Rct),A.length=st.out.length→(A++B).take st.out.length=A∧(A++B).drop st.out.length=B:=fun A B e=>by
   rw [← e];exact ⟨ZL,List.drop_left⟩
  obtain ⟨k1,k2⟩:=htk (fq st y) ((lC l y).map (dK y y)) (nN st y);have hcl2: ∀ t,fq ⟨fq st y++(lC l y).map (dK y y),st.out.length,lC l y⟩ t=fq st y++(lC l y).map (dK y (t - 1)):=fun t=>by
   rw [fq];simp only;rw [k1,k2,G5]
  refine ⟨?_,⟨y,hlt,k2,fun r hr=> ?_⟩,fun r hr=> ?_,fun a ha=> ?_,?_⟩
  ·simp only [Xa,nN];omega
  ·simp only at hr;rw [k1] at hr;exact (h.ord r hr).2.2
  ·rw [hcl2] at hr;rcases Xr.1 hr with hr|hr
   ·have:=h.ord r hr;omega
   ·obtain ⟨x,hx,rfl⟩:=Xu.1 hr;have:=hc.ord x hx;simp only [dK];omega
  ·rw [hcl2];rcases Int.lt_or_le a.row y with h1|h1
   ·rw [← h.cov a h1];constructor
    ·rintro ⟨r,hr,h2⟩;rcases Xr.1 hr with hr|hr
     ·exact ⟨r,hr,h2⟩
     ·obtain ⟨x,hx,rfl⟩:=Xu.1 hr;have h3:=aJ.1 h2;simp only [dK] at h3;omega
    ·rintro ⟨r,hr,h2⟩;exact ⟨r,Xw _ hr,h2⟩
   ·rw [AQ hy h1 ha,← hc.mem];constructor
    ·rintro ⟨r,hr,h2⟩;have h3:=aJ.1 h2;rcases Xr.1 hr with hr|hr
     ·have:=(h.ord r hr).2.2;omega
     ·obtain ⟨x,hx,rfl⟩:=Xu.1 hr;exact ⟨x,hx,h3.1,h3.2.1⟩
    ·rintro ⟨x,hx,h2,h3⟩;exact ⟨_,XB _ (Xu.2 ⟨x,hx,rfl⟩),aJ.2 (by simp only [dK];omega)⟩
  ·rw [hcl2,Yh];refine ⟨h.dis,zk hc.gap,fun r hr q hq a ha=> ?_⟩;obtain ⟨x,hx,rfl⟩:=Xu.1 hq;have h1:=(h.ord r hr).2.2;have h2:=aJ.1 ha.1;have h3:=aJ.1 ha.2;simp only [dK] at h3;omega
theorem xS {l:List Rct} (hl: ∀ p∈l,p.c1≤p.c2): ∀ (rs:List Int) (y z:Int) (st:Swp),SwI l y st→(y::rs).Pairwise (· < ·)→(∀ p∈l,(p.r1≤y∨p.r1∈rs)∧(p.r2+1≤y∨p.r2+1∈rs))→(∀ x∈y::rs,x<z)→SwI l z ((y::rs).foldl (l8 l) st)
 | [],y,z,st,h,_,hb,hz=>h.step hl (hz y Xb) fun p hp=>by
  obtain ⟨h1,h2⟩:=hb p hp;simp only [YQ,or_false] at h1 h2;omega
 |y' ::rs,y,z,st,h,hs,hb,hz=>by
  obtain ⟨h1,h2⟩:=XG.1 hs;have h3:=XG.1 h2;have hbt: ∀ x,x∈y' ::rs→y' ≤x:=fun x hx=>by
   rcases Xt.1 hx with rfl|hx
   ·exact Zb _
   ·exact Int.le_of_lt (h3.1 x hx)
  rw [YV];refine xS hl rs y' z _ (h.step hl (h1 y' Xb) fun p hp=> ?_) h2 (fun p hp=> ?_) fun x hx=>hz x (Xp _ hx)
  ·obtain ⟨h4,h5⟩:=hb p hp;refine ⟨fun h6=> ?_,fun h6=> ?_⟩
   ·rcases h4 with h4|h4
    ·omega
    ·have:=hbt _ h4;omega
   ·rcases h5 with h5|h5
    ·omega
    ·have:=hbt _ h5;omega
  ·obtain ⟨h4,h5⟩:=hb p hp;have hy:=h1 y' Xb;refine ⟨?_,?_⟩
   ·rcases h4 with h4|h4
    ·exact .inl (by omega)
    ·rcases Xt.1 h4 with h4|h4
     ·exact .inl (by omega)
     ·exact .inr h4
   ·rcases h5 with h5|h5
    ·exact .inl (by omega)
    ·rcases Xt.1 h5 with h5|h5
     ·exact .inl (by omega)
     ·exact .inr h5
structure SwpOk (l M:List Rct):Prop where
 ok: ∀ r∈M,aA r=true
 mem: ∀ a,(∃ r∈M,aI r a=true)↔ ∃ p∈l,aI p a=true
 dis:M.Pairwise fun r q=> ∀ a,¬ (aI r a=true∧aI q a=true)
theorem SwI.done {l:List Rct} {y:Int} {st:Swp} (h:SwI l y st) (hok: ∀ p∈l,aA p=true) (hb:st.band= []) (hy: ∀ p∈l,p.r2<y):SwpOk l st.out:=by
 obtain ⟨s,_,h1,_⟩:=h.bd;have hc:fq st y=st.out:=by
  rw [hb] at h1;conv=>rhs;rw [← YD st.first st.out,h1]
  unfold fq;rw [h1];rfl
 have h2:=h.cov;have h3:=h.ord;have h4:=h.dis;rw [hc] at h2 h3 h4;have hmem: ∀ a,(∃ r∈st.out,aI r a=true)↔ ∃ p∈l,aI p a=true:=fun a=>by
  rcases Int.lt_or_le a.row y with h5|h5
  ·exact h2 a h5
  ·constructor
   ·rintro ⟨r,hr,h6⟩;have:=h3 r hr;have:=aJ.1 h6;omega
   ·rintro ⟨p,hp,h6⟩;have:=hy p hp;have:=aJ.1 h6;omega
 refine ⟨fun r hr=> ?_,hmem,h4⟩;obtain ⟨k1,k2,_⟩:=h3 r hr;obtain ⟨p,hp,k3⟩:=(hmem ⟨r.c1,r.r1⟩).1 ⟨r,hr,aJ.2 (by simp only;omega)⟩;obtain ⟨q,hq,k4⟩:=(hmem ⟨r.c2,r.r2⟩).1 ⟨r,hr,aJ.2 (by simp only;omega)⟩;have k5:=aV.1 (hok p hp);have k6:=aV.1 (hok q hq);have k7:=aJ.1 k3;have k8:=aJ.1 k4;simp only at k7 k8;exact aV.2 (by omega)
theorem Je {l:List Rct}: ∀ (rs:List Int) (st:Swp),(rs.foldl (l8 l) st).band=match rs.getLast? with|none=>st.band|some y=>lC l y:=by
 intro rs
 induction rs using dh with
 |h0=>exact fun st=>rfl
 |h1 rs y ih=>
  intro st;rw [YG,Zp];show (l8 l (rs.foldl (l8 l) st) y).band=lC l y;unfold l8;split
  ·rename_i h;exact h.symm
  ·rfl
theorem N7 {l:List Rct} (hok: ∀ p∈l,aA p=true):SwpOk l (nn l):=by
 have hl: ∀ p∈l,p.c1≤p.c2:=fun p hp=>(aV.1 (hok p hp)).2.1;have hm:= @Bf l;have hs:=sL l;unfold nn
 cases hr:dJ l with
 |nil=>
  have hn:l= []:=YM.2 fun p hp=>by
   have:=(hm (y:=p.r1)).2 ⟨p,hp,.inl rfl⟩;rw [hr] at this;cases this
  subst hn;exact ⟨fun _ h=>(by cases h),fun a=>⟨fun h=>(by obtain ⟨_,h,_⟩:=h;cases h),fun h=>(by obtain ⟨_,h,_⟩:=h;cases h)⟩,List.Pairwise.nil⟩
 |cons y rs=>
  rw [hr] at hm hs;obtain ⟨h1,h2⟩:=XG.1 hs;have hne:y::rs≠ []:=List.cons_ne_nil _ _;obtain ⟨t,ht⟩: ∃ t,(y::rs).getLast? =some t:=⟨_,YH hne⟩;have htm:t∈y::rs:=List.mem_of_getLast? ht;have hsp:=kW ht;have hmax: ∀ x∈y::rs,x≤t:=fun x hx=>by
   have hp2:=hs;rw [← hsp] at hp2 hx;rcases Xr.1 hx with hx|hx
   ·exact Int.le_of_lt ((Yh.1 hp2).2.2 x hx t Xb)
   ·rw [Xl.1 hx];exact Zb _
  have hyl: ∀ x∈y::rs,y≤x:=fun x hx=>by
   rcases Xt.1 hx with rfl|hx
   ·exact Zb _
   ·exact Int.le_of_lt (h1 x hx)
  have h0:SwI l y ⟨[],0,[]⟩:=SwI.start fun p hp=>hyl _ (hm.2 ⟨p,hp,.inl rfl⟩);have hfin:=xS hl rs y (t+1) _ h0 hs (fun p hp=>⟨?_,?_⟩) fun x hx=>by have:=hmax x hx;omega
  ·refine hfin.done hok ?_ fun p hp=> ?_
   ·rw [Je,ht];show lC l t= [];have hc:=xc hl t;refine YM.2 fun x hx=> ?_;obtain ⟨p,hp,h3⟩:=(hc.mem x.1).1 ⟨x,hx,Zb _,hc.ord x hx⟩;have h4:=aJ.1 h3;have h5:=hmax _ (hm.2 ⟨p,hp,.inr rfl⟩);simp only at h4;omega
   ·have:=hmax _ (hm.2 ⟨p,hp,.inr rfl⟩);omega
  ·rcases Xt.1 (hm.2 ⟨p,hp,.inl rfl⟩) with h|h
   ·exact .inl (by omega)
   ·exact .inr h
  ·rcases Xt.1 (hm.2 ⟨p,hp,.inr rfl⟩) with h|h
   ·exact .inl (by omega)
   ·exact .inr h
section
variable {G:Gr} {w:Lw} {u:Nat} {hid:Rct→List Rct}
theorem uO (hG:GrOk G) (hw:HidW w u hid) {c:Rf} (hv:c.valid=true):SwpOk ((ck G c).flatMap hid) (da G hid c):=by
 refine N7 fun p hp=> ?_;obtain ⟨l,hl,h2⟩:=XL.1 hp;exact (hw.un l (kV hG ((eE hv).1 hl)) p h2).1
end
end Go.SL
