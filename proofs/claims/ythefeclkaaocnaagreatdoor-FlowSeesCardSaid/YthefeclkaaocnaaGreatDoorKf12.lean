/-
  Lemmas and walks, put together: A2p B4 B5 W11 W12 W13 Px.
-/
import Derived.Test.YthefeclkaaocnaaGreatDoorKf11
set_option linter.unusedSimpArgs false
set_option linter.unusedVariables false
set_option maxRecDepth 20000
namespace Go.SL
open Go
theorem xS {p:Pc} {c:Int} (h:cy c=true):cH p c=lF p (upC c):=by
 simp only [cy,Vo,TU,decide_eq_true_eq] at h
 rw [cH,if_pos]
 unfold upC
 split<;>omega
theorem iE {p:Pc} {c:Int} (h:aJ c=true):cH p c=gW p c:=by
 simp only [aJ,TU,decide_eq_true_eq] at h
 exact xT h.1 h.2
theorem nD {p:Pc} {c:Int} (h:cy c=false) (h2:aJ c=false):(cH p c).ok=false:=by
 simp only [cy,aJ,Bool.or_eq_false_iff,U3,decide_eq_false_iff_not] at h h2
 rw [AC (by omega) (by omega) (by omega)]
theorem HS {p:Pc} (h:p.ok=false) (c:Int):(cH p c).ok=false:=by
 unfold cH
 split
 ·
  simp [lF,h]
 ·
  split
  ·
   simp [gW,h]
  ·
   rfl
theorem pJ: ∀ (l:List Int) {p:Pc},p.ok=false→(l.foldl cH p).ok=false
 | [],_,h=>h
 |c::r,_,h=>pJ r (HS h c)
theorem E8: ∀ (l:List Int) (p:Pc),(∀ c∈l,cy c=true)→p.m1=0→l.foldl cH p=⟨p.m0+l.length,0,bI l p.v0,p.v1,p.ok⟩
 | [],p,_,h=>by obtain ⟨a,b,c,d,e⟩:=p;simp only at h;subst h;simp [bI]
 |c::r,p,hl,h=>by
  rw [UK,xS (hl c TI),E8 r _ (fun d hd=>hl d (TM _ hd)) (by simp [lF,h])]
  simp only [lF,h,bI,decide_true,Wg,TZ,Pc.mk.injEq,true_and,and_true]
  refine ⟨by push_cast;omega,?_⟩
  rw [show 26*p.v0+(upC c - 65)+1=26*p.v0+(upC c - 64) by omega]
theorem yp: ∀ (l:List Int) (p:Pc),(∀ c∈l,aJ c=true)→0<p.m1→l.foldl cH p=⟨p.m0,p.m1+l.length,p.v0,oq l p.v1,p.ok⟩
 | [],p,_,_=>by obtain ⟨a,b,c,d,e⟩:=p;simp [oq]
 |c::r,p,hl,h=>by
  rw [UK,iE (hl c TI),yp r _ (fun d hd=>hl d (TM _ hd)) (by simp [gW];omega)]
  simp only [gW,h,oq,decide_true,Bool.or_true,Wg,TZ,Pc.mk.injEq,true_and,and_true]
  push_cast;omega
theorem rJ: ∀ (l:List Int) (p:Pc),(l.all aJ=false)→0<p.m1→(l.foldl cH p).ok=false
 | [],_,h,_=>by simp at h
 |c::r,p,h,hm=>by
  rw [UK]
  cases hd:aJ c
  ·
   apply pJ
   cases hl:cy c
   ·
    exact nD hl hd
   ·
    rw [xS hl]
    simp only [lF]
    rw [decide_eq_false (by omega)]
    simp
  ·
   rw [VA,hd,VB] at h
   apply rJ r _ h
   rw [iE hd]
   simp only [gW];omega
theorem nQ: ∀ (l:List Int) {v:Int},(∀ c∈l,cy c=true)→0≤v→(l≠ []∨1≤v)→1≤bI l v
 | [],v,_,_,h=>by rcases h with h|h;exact absurd rfl h;exact h
 |c::r,v,hl,h0,_=>by
  have hc:=hl c TI
  simp only [cy,Vo,TU,decide_eq_true_eq] at hc
  have hu:65≤upC c:=by unfold upC;split<;>omega
  simp only [bI]
  exact nQ r (fun d hd=>hl d (TM _ hd)) (by omega) (.inr (by omega))
theorem Ed: ∀ (l:List Int) {v:Int},(∀ c∈l,aJ c=true)→1≤v→1≤oq l v
 | [],_,_,h=>h
 |c::r,v,hl,h=>by
  have hc:=hl c TI
  simp only [aJ,TU,decide_eq_true_eq] at hc
  simp only [oq]
  exact Ed r (fun d hd=>hl d (TM _ hd)) (by omega)
theorem qP {p:Int→Bool}: ∀ {l:List Int} {c:Int},c∈l.takeWhile p→p c=true
 |d::r,c,h=>by
  rw [List.takeWhile_cons] at h
  split at h
  ·
   rename_i hp
   rcases TS.1 h with rfl|h
   ·
    exact hp
   ·
    exact qP h
  ·
   cases h
theorem Oy (l:List Int):Bm l=cL l:=by
 unfold Bm cL
 dsimp only
 generalize ha:l.takeWhile cy=a
 generalize hd:l.dropWhile cy=d
 have hl:l=a++d:=by rw [← ha,← hd,List.takeWhile_append_dropWhile]
 have hal: ∀ c∈a,cy c=true:=fun c hc=>qP (ha ▸ hc)
 have hp:vY l=d.foldl cH ⟨a.length,0,bI a 0,0,true⟩:=by
  rw [vY,hl,U8,E8 a pc0 hal rfl]
  simp [pc0]
 rw [hp]
 cases d with
 |nil=>simp
 |cons c r=>
  have hcl:cy c=false:=by
   cases hq:cy c
   ·
    rfl
   ·
    exfalso
    have hne:l.dropWhile cy≠ []:=by rw [hd];simp
    have:=List.head_dropWhile_not cy hne
    simp only [hd,List.head_cons] at this
    rw [hq] at this;cases this
  rw [UK]
  by_cases ha0:a= []
  ·
   subst ha0
   have:(List.foldl cH (cH ⟨(([]:List Int).length:Int),0,bI [] 0,0,true⟩ c) r).ok=false∨(List.foldl cH (cH ⟨(([]:List Int).length:Int),0,bI [] 0,0,true⟩ c) r).m0=0∨(List.foldl cH (cH ⟨(([]:List Int).length:Int),0,bI [] 0,0,true⟩ c) r).m1=0:=by
    cases hdc:aJ c
    ·
     exact .inl (pJ r (nD hcl hdc))
    ·
     cases hr:r.all aJ
     ·
      left
      apply rJ r _ hr
      rw [iE hdc];simp [gW]
     ·
      right;left
      rw [yp r _ (by simpa using hr) (by rw [iE hdc];simp [gW])]
      rw [iE hdc];simp [gW]
   rw [if_pos this,if_pos (show (([]:List Int)= []∨_) from .inl rfl)]
  ·
   have hlen:0<(a.length:Int):=by
    have:=UX.2 ha0
    omega
   cases hdc:aJ c
   ·
    rw [if_pos (.inl (pJ r (nD hcl hdc))),if_pos (.inr (.inr (.inr (by simp [hdc]))))]
   ·
    rw [iE hdc]
    by_cases h48:c=48
    ·
     rw [if_pos (.inl (pJ r (by simp [gW,h48]))),if_pos (.inr (.inr (.inl (by simp [h48]))))]
    ·
     cases hr:r.all aJ
     ·
      rw [if_pos (.inl (rJ r _ hr (by simp [gW]))),if_pos (.inr (.inr (.inr (by simp [hr]))))]
     ·
      have hr' : ∀ x∈r,aJ x=true:=by simpa using hr
      have hp2:List.foldl cH (gW ⟨a.length,0,bI a 0,0,true⟩ c) r=⟨a.length,1+r.length,bI a 0,oq (c::r) 0,true⟩:=by
       rw [yp r _ hr' (by simp [gW])]
       simp [gW,h48,oq]
      rw [hp2,if_neg (c:=(a= []∨_)) (by simp [ha0,h48,hdc,hr])]
      have hd2:=hdc
      simp only [aJ,TU,decide_eq_true_eq] at hd2
      have h1:=nQ a hal (Vw 0) (.inl ha0)
      have h3:1≤oq (c::r) 0:=Ed r (v:=min (10*0+(c - 48)) 1025) hr' (by omega)
      generalize oq (c::r) 0=u at h3 ⊢
      split
      ·
       rename_i h
       exfalso
       rcases h with h|h|h
       ·
        cases h
       ·
        exact absurd h (by show ¬ ((a.length:Int)=0);omega)
       ·
        exact absurd h (by show ¬ (1+(r.length:Int)=0);omega)
      ·
       by_cases hb:1024<bI a 0∨1024<u
       ·
        rw [if_pos hb,if_neg]
        simp only [valid,TU,decide_eq_true_eq]
        omega
       ·
        rw [if_neg hb,if_pos]
        simp only [valid,TU,decide_eq_true_eq]
        omega
end Go.SL
namespace Go.SL
open Go Go.Proofs
attribute [local irreducible] W WL WQ WG WA WX WLI WR WT VOp thn blk bF scp ba bC FnAt FnIn
def iI (l:List Int):Option (Tk × Nat):=
 if cy (l.headD 0)=false then none
 else if (l.drop (aG dh l)).headD 0=40 then some (⟨7,0,mkB (upW l),aS,0⟩,aG dh l)
 else if mkB (upW l)=oL then some (⟨3,1,az,aS,0⟩,aG dh l)
 else if mkB (upW l)=lZ then some (⟨3,0,az,aS,0⟩,aG dh l)
 else if (cL (upW l)).2.2≠0 then none
 else if (l.drop (aG dh l)).headD 0=58∧cy ((l.drop (aG dh l+1)).headD 0)=true∧(cL (upW (l.drop (aG dh l+1)))).2.2=0∧(l.drop (aG dh l+1+aG dh (l.drop (aG dh l+1)))).headD 0≠40 then
  some (⟨if (cL (upW l)).1=(cL (upW (l.drop (aG dh l+1)))).1∧(cL (upW l)).2.1=(cL (upW (l.drop (aG dh l+1)))).2.1 then 5 else 6,0,az,
   ⟨min (cL (upW l)).1 (cL (upW (l.drop (aG dh l+1)))).1,min (cL (upW l)).2.1 (cL (upW (l.drop (aG dh l+1)))).2.1,max (cL (upW l)).1 (cL (upW (l.drop (aG dh l+1)))).1,max (cL (upW l)).2.1 (cL (upW (l.drop (aG dh l+1)))).2.1⟩,0⟩,aG dh l+1+aG dh (l.drop (aG dh l+1)))
 else some (⟨5,0,az,fR (cL (upW l)).1 (cL (upW l)).2.1,0⟩,aG dh l)
theorem gO (a b:Int):(if b<a then b else a)=min a b:=by omega
theorem gP (a b:Int):(if a<b then b else a)=max a b:=by omega
theorem FU (l:List Int) (hl:iU l) (hlen:l.length≤100000) (w:World):aD Tryz.prog 284 [.string (mkB l)] w (.tuple #[.agg (aC ⟨(cL l).1,(cL l).2.1⟩).toArray,.int .i64 (cL l).2.2]):=by
 have h:=CX (mkB l) (by rw [o8];exact hlen) w
 rw [pF hl,Oy] at h
 exact h
set_option maxHeartbeats 2000000 in
theorem OT (a:ByteArray) (ha:a.size≤10000) (i:Nat) (hi:i<a.size) (g:Nat) (w:World) (hr:Ro w g 0 [.string a]):
  aD Tryz.prog 245 [.pointer (some ⟨g,0,none⟩),.int .i64 (i:Int)] w (GH (atT i (iI ((ap a).drop i)))):=by
 refine ax Tryz.func245 rfl Tryz.ntmps245 rfl ?_
 have hl:=aw a
 have hP1:=fun w' h=>ED a (by omega) i (by omega) g w' h
 have hwl:=cB dh ((ap a).drop i)
 have hul:=xg ((ap a).drop i)
 have huk:iU (upW ((ap a).drop i)):=MA fun c hc=>nS a c (VF hc)
 rw [Ug] at hwl
 have hW:iI ((ap a).drop i)=iI ((ap a).drop i):=rfl
 unfold iI at hW ⊢
 clear hW
 rw [mM]
 simp only [U0]
 generalize hn:aG dh ((ap a).drop i)=n at*
 generalize hu:upW ((ap a).drop i)=u at*
 rw [mM]
 have hus:(mkB u).size=n:=by rw [o8,hul]
 have hA1:=FU u huk (by omega)
 generalize hau:cL u=A1 at hA1
 obtain ⟨c1,r1,e1⟩:=A1
 dsimp only at hA1 ⊢
 have hN1:=fun w' h=>Ci a (by omega) (i+n) g w' h
 have hN2:=fun w' h=>Ci a (by omega) (i+n+1) g w' h
 have hb1l:bat a (i+n)≠0→i+n<a.size:=fun h=>by
  rcases Vq (i+n) a.size with h1|h1
  ·
   exact h1
  ·
   exfalso;apply h;rw [bat,Ui,UN (by omega)];rfl
 generalize hb1:bat a (i+n)=b1 at hN1 hb1l
 rw [show i+(n+1)=i+n+1 by omega]
 have hvl:=xg ((ap a).drop (i+n+1))
 have hvk:iU (upW ((ap a).drop (i+n+1))):=MA fun c hc=>nS a c (VF hc)
 have hvr:=cB dh ((ap a).drop (i+n+1))
 rw [Ug] at hvr
 have hP2:=fun w' hi h=>ED a (by omega) (i+n+1) hi g w' h
 generalize hm:aG dh ((ap a).drop (i+n+1))=m at*
 generalize hv:upW ((ap a).drop (i+n+1))=v at*
 rw [mM,mM]
 have hvs:(mkB v).size=m:=by rw [o8,hvl]
 have hA2:=FU v hvk (by omega)
 generalize hav:cL v=A2 at hA2
 obtain ⟨c2,r2,e2⟩:=A2
 dsimp only at hA2 ⊢
 rw [show i+(n+1+m)=i+n+1+m by omega]
 have hN3:=fun w' h=>Ci a (by omega) (i+n+1+m) g w' h
 generalize hb2:bat a (i+n+1)=b2 at hN2
 generalize hb3:bat a (i+n+1+m)=b3 at hN3
 repeat' (first|(apply ak;exact rfl;apply aQ (o:=0) (off:=0);exact hr;exact rfl;exact rfl)|(apply aa;exact rfl;exact rfl;(intro w hm;exact s8 _ w))|(apply ak (d:=28);exact rfl;apply tT;exact rfl;exact hus)|(apply ak (d:=90);exact rfl;apply tT;exact rfl;exact hvs)|(apply ak (d:=126);exact rfl;apply tT;exact rfl;exact hvs)|(apply aa (d:=26);exact rfl;exact rfl;(intro w' hm;exact hP1 w' (hr.next hm)))|(apply aa (d:=77);exact rfl;exact rfl;(intro w' hm;exact hP2 w' (hb1l (by omega)) (hr.next hm)))|(apply aa (d:=34);exact rfl;exact rfl;(intro w' hm;exact hN1 w' (hr.next hm)))|(apply aa (d:=65);exact rfl;exact rfl;(intro w' hm;exact hN1 w' (hr.next hm)))|(apply aa (d:=71);exact rfl;exact rfl;(intro w' hm;exact hN2 w' (hr.next hm)))|(apply aa (d:=92);exact rfl;exact rfl;(intro w' hm;exact hN3 w' (hr.next hm)))|(apply aa;exact rfl;exact rfl;(intro w hm;exact hA1 w))|(apply aa;exact rfl;exact rfl;(intro w hm;exact hA2 w))|(apply ak (d:=99);exact rfl;exact gO _ _ ▸ jH rfl rfl)|(apply ak (d:=104);exact rfl;exact gO _ _ ▸ jH rfl rfl)|(apply ak (d:=109);exact rfl;exact gP _ _ ▸ iW rfl rfl)|(apply ak (d:=114);exact rfl;exact gP _ _ ▸ iW rfl rfl)|(apply ak (d:=118);exact rfl;exact RA (a:=⟨c1,r1⟩) (b:=⟨c2,r2⟩) rfl rfl)|(apply aa;exact rfl;exact rfl;(intro w hm;exact OG ⟨c1,r1⟩ w))|refine sT ?_|refine sT2 ?_|refine sN ?_|refine sM fun _=> ?_|(refine sC ?_ ?_<;>intro hb<;>try omega)|fail)
 all_goals
  (refine jU ?_)
  simp_all [oL,lZ,GH,atT,bw,aC,aS,az,fR,eqF,aN,dB]
def oT:List (List Int→Option (Tk × Nat)):= [gG,oP,iI,lN,iZ]
def nV (l:List Int):List (List Int→Option (Tk × Nat))→Option (Tk × Nat)
 | []=>none
 |r::rs=>match r l with
  |some x=>some x
  |none=>nV l rs
def dG (l:List Int):Option (Tk × Nat):=nV l oT
def bA (tk:List Int→Option (Tk × Nat)) (l:List Int):Nat→Nat→Except Nat (List Tk)
 |0,_=> .ok []
 |f+1,i=>
  match l.drop i with
  | []=> .ok []
  |c::_=>
   if c=32 then bA tk l f (i+1)
   else match tk (l.drop i) with
    |none=> .error i
    |some (t,n)=>(bA tk l f (i+n)).map fun r=>{ t with at_:=(i:Int) }::r
def Fits (l:List Int) (o:Option (Tk × Nat)):Prop:= ∀ t n,o=some (t,n)→0<n∧n≤l.length
theorem Fits.none {l:List Int}:Fits l none:=fun _ _ h=>by cases h
theorem Fits.some {l:List Int} {t:Tk} {n:Nat} (h1:0<n) (h2:n≤l.length):Fits l (some (t,n)):=fun _ _ h=>by cases h;exact ⟨h1,h2⟩
theorem mL {l:List Int} {c:Int} (h:l.headD 0=c) (hc:c≠0):0<l.length:=by
 cases l with
 |nil=>exact absurd h.symm hc
 |cons=>simp
theorem HO (l:List Int):cC l=0∨cC l+1≤l.length:=by
 unfold cC
 split
 ·
  right
  rename_i r
  have:=cB aJ r
  simp;omega
 ·
  left;rfl
theorem vu (l:List Int):Fits l (gG l):=by
 unfold gG
 dsimp only
 have h1:=cB aJ l
 have h2:=HO (l.drop (aG aJ l))
 rw [Ug] at h2
 have h3:(if cC (l.drop (aG aJ l))=0 then aG aJ l else aG aJ l+1+cC (l.drop (aG aJ l)))≤l.length∧aG aJ l≤(if cC (l.drop (aG aJ l))=0 then aG aJ l else aG aJ l+1+cC (l.drop (aG aJ l))):=by
  split<;>omega
 generalize (if cC (l.drop (aG aJ l))=0 then aG aJ l else aG aJ l+1+cC (l.drop (aG aJ l)))=m at h3 ⊢
 split
 ·
  exact .none
 ·
  rename_i h
  split
  ·
   exact .none
  ·
   exact .some (by omega) (by omega)
theorem qq: ∀ (n:Nat) (l:List Int) (k:Nat),l.length≤n→cW l=some k→k<l.length
 |_,[],_,_,h=>by simp [cW] at h
 |0,c::r,_,hn,_=>by simp at hn
 |n+1,c::r,k,hn,h=>by
  by_cases hc:c=34
  ·
   subst hc
   cases r with
   |nil=>simp [cW] at h;subst h;simp
   |cons d r' =>
    by_cases hd:d=34
    ·
     subst hd
     simp only [cW,ne_eq,not_true_eq_false,if_false,if_true,UL] at h
     obtain ⟨j,hj,rfl⟩:=h
     have:=qq n r' j (by simp at hn;omega) hj
     simp;omega
    ·
     simp [cW,hd] at h
     subst h;simp
  ·
   rw [lO hc,UL] at h
   obtain ⟨j,hj,rfl⟩:=h
   have:=qq n r j (by simp at hn;omega) hj
   simp;omega
theorem Kq (l:List Int):Fits l (oP l):=by
 unfold oP
 split
 ·
  exact .none
 ·
  rename_i h
  have h0:=mL (c:=34) (Decidable.not_not.1 h) (by decide)
  split
  ·
   exact .none
  ·
   rename_i k hk
   have:=qq _ _ k (TQ _) hk
   rw [Ug] at this
   split
   ·
    exact .none
   ·
    exact .some (by omega) (by omega)
theorem zA (l:List Int):Fits l (iI l):=by
 have h1:=cB dh l
 have h2:=cB dh (l.drop (aG dh l+1))
 rw [Ug] at h2
 have hpos:cy (l.headD 0)≠false→0<aG dh l:=fun h=>by
  cases l with
  |nil=>exact absurd rfl h
  |cons c r=>
   have:cy c=true:=by simpa using h
   simp [aG,dh,this]
 unfold iI
 split
 ·
  exact .none
 ·
  rename_i h
  have hp:=hpos h
  split
  ·
   exact .some hp h1
  ·
   split
   ·
    exact .some hp h1
   ·
    split
    ·
     exact .some hp h1
    ·
     split
     ·
      exact .none
     ·
      split
      ·
       rename_i hq
       have:=mL hq.1 (by decide)
       rw [Ug] at this
       exact .some (by omega) (by omega)
      ·
       exact .some hp h1
theorem yH (l:List Int): ∀ (ns:List (List Int)) (c k:Int) (n:Nat),(∀ s∈ns,s≠ [])→lc l ns c=some (k,n)→0<n∧n≤l.length
 | [],_,_,_,_,h=>by cases h
 |s::r,c,k,n,hs,h=>by
  rw [lc] at h
  split at h
  ·
   rename_i he
   cases h
   have:=congrArg List.length he
   rw [Uf,Ue] at this
   have:=UX.2 (hs s TI)
   omega
  ·
   exact yH l r _ k n (fun s hs' =>hs s (TM _ hs')) h
theorem AY (l:List Int):Fits l (lN l):=by
 intro t n h
 unfold lN at h
 rw [UL] at h
 obtain ⟨⟨c,m⟩,h1,h2⟩:=h
 cases h2
 exact yH l eD 1 c _ (by decide) h1
theorem EL (l:List Int): ∀ (ns:List (List Int × Int)) (k:Int) (n:Nat),(∀ s∈ns,s.1≠ [])→opL l ns=some (k,n)→0<n∧n≤l.length
 | [],_,_,_,h=>by cases h
 |(s,c)::r,k,n,hs,h=>by
  rw [opL] at h
  split at h
  ·
   rename_i he
   cases h
   have:=congrArg List.length he
   rw [Ue] at this
   have:=UX.2 (hs _ TI)
   dsimp only at this
   omega
  ·
   exact EL l r k n (fun s hs' =>hs s (TM _ hs')) h
theorem z7 (l:List Int):Fits l (iZ l):=by
 unfold iZ
 split
 ·
  rename_i k n h
  have:=EL l fN k n (by decide) h
  exact .some this.1 this.2
 ·
  split
  ·
   exact .some (by omega) (mL (by assumption) (by decide))
  ·
   split
   ·
    exact .some (by omega) (mL (by assumption) (by decide))
   ·
    split
    ·
     exact .some (by omega) (mL (by assumption) (by decide))
    ·
     exact .none
theorem yE (l:List Int): ∀ rs:List (List Int→Option (Tk × Nat)),(∀ r∈rs,Fits l (r l))→Fits l (nV l rs)
 | [],_=> .none
 |r::rs,h=>by
  unfold nV
  split
  ·
   rename_i x hx
   exact hx ▸ h r TI
  ·
   exact yE l rs fun r hr=>h r (TM _ hr)
theorem KA (l:List Int): ∀ r∈oT,Fits l (r l):=by
 intro r hr
 simp only [oT,TS,Vr,or_false] at hr
 rcases hr with rfl|rfl|rfl|rfl|rfl
 ·
  exact vu l
 ·
  exact Kq l
 ·
  exact zA l
 ·
  exact AY l
 ·
  exact z7 l
theorem xo (l:List Int):Fits l (dG l):=yE l _ (KA l)
theorem sj {tk:List Int→Option (Tk × Nat)} {l:List Int} (ht: ∀ m,Fits m (tk m)): ∀ (b d f i:Nat),d≤b→l.length - i=d→d≤f→bA tk l f i=bA tk l d i:=by
 intro b
 induction b with
 |zero=>
  intro d f i hb hd hf
  have:d=0:=by omega
  subst this
  cases f with
  |zero=>rfl
  |succ f=>
   simp only [bA]
   rw [Uk (by omega)]
 |succ b ih=>
  intro d f i hb hd hf
  cases d with
  |zero=>
   cases f with
   |zero=>rfl
   |succ f=>
    simp only [bA]
    rw [Uk (by omega)]
  |succ m=>
   obtain ⟨g,rfl⟩: ∃ g,f=g+1:=⟨f - 1,by omega⟩
   simp only [bA]
   have hi:i<l.length:=by omega
   rw [TN hi]
   dsimp only
   split
   ·
    exact ih m g (i+1) (by omega) (by omega) (by omega)
   ·
    split
    ·
     rfl
    ·
     rename_i t n hn
     have:=ht _ t n hn
     rw [ih (l.length - (i+n)) g (i+n) (by omega) rfl (by omega),ih (l.length - (i+n)) m (i+n) (by omega) rfl (by omega)]
def bH (tk:List Int→Option (Tk × Nat)) (l:List Int):List Tk × Int × Int:=
 if 256<l.length then ([],0,5)
 else match l.findIdx? (fun c=> !bS c) with
  |some i=>([],(i:Int),4)
  |none=>match bA tk l l.length 0 with
   | .ok r=>(r,0,0)
   | .error i=>([],(i:Int),4)
def Jj (A:Option Nat) (cap:Nat) (r:List Tk × Int × Int):Value:= .tuple #[sl A r.1.length cap,.int .i64 r.2.1,.int .i64 r.2.2]
def GZ:List Nat:= [243,244,245,246,247]
theorem Pw (a:ByteArray) (ha:a.size≤10000) (i:Nat) (hi:i<a.size) (g:Nat) (k:Nat) (hk:k<5):
  ∃ f r,oT.drop k=r::oT.drop (k+1)∧(GZ.map fun f=>Value.func (.func f) #[.pointer (some ⟨g,0,none⟩)] #[])[k]? =some (.func (.func f) #[.pointer (some ⟨g,0,none⟩)] #[])∧Callable Tryz.prog f∧
   ∀ w,Ro w g 0 [.string a]→Words w→aD Tryz.prog f [.pointer (some ⟨g,0,none⟩),.int .i64 (i:Int)] w (GH (atT i (r ((ap a).drop i)))):=by
 rcases (by omega:k=0∨k=1∨k=2∨k=3∨k=4) with rfl|rfl|rfl|rfl|rfl
 ·
  exact ⟨_,_,rfl,rfl,inferInstance,fun w hr _=>KU a (by omega) i (by omega) g w hr⟩
 ·
  exact ⟨_,_,rfl,rfl,inferInstance,fun w hr _=>Pq a (by omega) i hi g w hr⟩
 ·
  exact ⟨_,_,rfl,rfl,inferInstance,fun w hr _=>OT a ha i hi g w hr⟩
 ·
  exact ⟨_,_,rfl,rfl,inferInstance,fun w hr hW=>P4 a (by omega) i (by omega) g w hr hW⟩
 ·
  exact ⟨_,_,rfl,rfl,inferInstance,fun w hr _=>Ps a (by omega) i hi g w hr⟩
theorem pO {a:ByteArray} {q:Int→Bool} {i:Nat} (h:i<a.size) (hq:q (bat a i)=true) (hno: ∀ j,j<i→q (bat a j)=false):(ap a).findIdx? q=some i:=by
 rw [Wd]
 have hl:=aw a
 have hg: ∀ j (hj:j<(ap a).length),(ap a)[j]=bat a j:=fun j hj=>by
  have:=ig (a:=a) (i:=j) (by omega)
  rw [TJ hj] at this
  exact Option.some.inj this
 refine ⟨by omega,by rw [hg];exact hq,fun j hj=> ?_⟩
 rw [hg,hno j hj];simp
theorem nI {a:ByteArray} {q:Int→Bool} (hno: ∀ j,j<a.size→q (bat a j)=false):(ap a).findIdx? q=none:=by
 rw [VQ]
 intro x hx
 obtain ⟨j,hj,rfl⟩:=UY hx
 have hl:=aw a
 have:=ig (a:=a) (i:=j) (by omega)
 rw [TJ hj] at this
 rw [Option.some.inj this]
 exact hno j (by omega)
set_option maxHeartbeats 2000000 in
theorem LR (a:ByteArray) (w:World) (hW:Words w):
  FnAt Tryz.prog 203 [.string a] w fun v H=> ∃ A cap,v=Jj A cap (bH dG (ap a))∧H= [.own A 295 8 (bH dG (ap a)).1.length cap ((bH dG (ap a)).1.flatMap bw)]:=by
 refine ax Tryz.func203 rfl Tryz.ntmps203 rfl ?_
 have hl:=aw a
 unfold bH
 refine aW 295 8 ?_
 by_cases hlen:256<(ap a).length
 ·
  rw [if_pos hlen]
  repeat' (first|refine sT ?_|refine sS ?_|refine sT2 ?_|refine sM fun _=> ?_|(refine sC ?_ ?_<;>intro hb<;>try omega)|fail)
  all_goals try (exfalso;omega)
  exact qu (.inl rfl) rfl rfl rfl rfl (.refl _) ⟨none,0,rfl,rfl⟩
 ·
  rw [if_neg hlen]
  repeat' (first|refine sT ?_|refine sS ?_|refine sT2 ?_|refine sM fun _=> ?_|(refine sC ?_ ?_<;>intro hb<;>try omega)|fail)
  all_goals try (exfalso;omega)
  refine ay [0,2,17] rfl (fun i:Nat=> [(18,.int .i64 (i:Int))]) (fun _=> [.own none 295 8 0 0 []]) (fun i=>i≤a.size∧ ∀ j,j<i→bS (bat a j)=true) (fun i=>a.size - i) 0 ⟨by omega,fun j h=>by omega⟩ sB mS ?_
  rintro i ⟨hi,hpl⟩
  by_cases hlt:i<a.size
  ·
   repeat' (first|refine sT ?_|refine sS ?_|refine sT2 ?_|refine sN ?_|refine sM fun _=> ?_|(refine sC ?_ ?_<;>intro hb<;>try omega)|fail)
   ·
    have hf:(ap a).findIdx? (fun c=> !bS c)=some i:=by
     refine pO hlt ?_ fun j hj=>by rw [hpl j hj];rfl
     simp only [bS,WB,U3,decide_eq_false_iff_not]
     omega
    rw [hf]
    exact qu (.inl rfl) rfl rfl rfl rfl (.refl _) ⟨none,0,rfl,rfl⟩
   ·
    have hf:(ap a).findIdx? (fun c=> !bS c)=some i:=by
     refine pO hlt ?_ fun j hj=>by rw [hpl j hj];rfl
     simp only [bS,WB,U3,decide_eq_false_iff_not]
     omega
    rw [hf]
    exact qu (.inl rfl) rfl rfl rfl rfl (.refl _) ⟨none,0,rfl,rfl⟩
   ·
    refine ⟨i+1,?_,(by first|omega|(dsimp only;omega)),sB,sB,mS⟩
    refine ⟨hlt,fun j hj=> ?_⟩
    rcases (by omega:j<i∨j=i) with h|rfl
    ·
     exact hpl j h
    ·
     rename_i h1
     simp only [bS,TU,decide_eq_true_eq]
     omega
  ·
   have e:i=a.size:=by omega
   subst e
   have hf:(ap a).findIdx? (fun c=> !bS c)=none:=nI fun j hj=>by rw [hpl j hj];rfl
   rw [hf]
   dsimp only
   repeat' (first|(apply ak;exact rfl;apply m8;exact rfl)|(apply Ga;(iterate 6 exact rfl))|refine sT ?_|refine sS ?_|refine sT2 ?_|refine sN ?_|refine sM fun _=> ?_|(refine sC ?_ ?_<;>intro hb<;>try omega)|fail)
   all_goals try (exfalso;omega)
   rename_i g6 g7
   generalize hT:bA dG (ap a) (ap a).length 0=T
   refine ay [0,6,7] rfl (fun x:Nat × List Tk × Option Nat × Nat=> [(2,sl x.2.2.1 x.2.1.length x.2.2.2),(8,.int .i64 (x.1:Int))]) (fun x=> [.own x.2.2.1 295 8 x.2.1.length x.2.2.2 (x.2.1.flatMap bw),.box g7 336 (GZ.map fun f=>Value.func (.func f) #[.pointer (some ⟨g6,0,none⟩)] #[]),.box g6 334 [.string a]])
    (fun x=>x.1≤a.size∧x.2.1.length≤x.1∧T=(bA dG (ap a) (a.size - x.1) x.1).map (x.2.1++ ·)) (fun x=>a.size - x.1) (0,[],none,0) ⟨by omega,by simp,by rw [← hT,hl];cases bA dG (ap a) a.size 0<;>rfl⟩ sB mS ?_
   rintro ⟨i,toks,A,cap⟩ ⟨hi2,hi3,hi4⟩
   dsimp only at hi2 hi3 hi4 ⊢
   by_cases hlt2:i<a.size
   ·
    obtain ⟨f,hf1⟩: ∃ f,a.size - i=f+1:=⟨a.size - i - 1,by omega⟩
    rw [hf1] at hi4
    simp only [bA] at hi4
    have hdr:=bz hlt2
    generalize hld:(ap a).drop i=ld at hi4 hdr
    rw [hdr] at hi4
    dsimp only at hi4
    by_cases h32:bat a i=32
    ·
     rw [if_pos h32] at hi4
     repeat' (first|refine sT ?_|refine sS ?_|refine sT2 ?_|refine sN ?_|refine sM fun _=> ?_|(refine sC ?_ ?_<;>intro hb<;>try omega)|fail)
     all_goals try (exfalso;omega)
     refine ⟨(i+1,toks,A,cap),?_,(by first|omega|(dsimp only;omega)),sB,sB,mS⟩
     exact ⟨hlt2,by dsimp only;omega,by dsimp only;rw [show a.size - (i+1)=f by omega];exact hi4⟩
    ·
     rw [if_neg h32,← hdr] at hi4
     repeat' (first|refine sT ?_|refine sS ?_|refine sT2 ?_|refine sN ?_|refine sM fun _=> ?_|(refine sC ?_ ?_<;>intro hb<;>try omega)|fail)
     all_goals try (exfalso;omega)
     have hldl:ld.length=a.size - i:=by rw [← hld,Ug,hl]
     refine ay [0,2,6,7,8,57] rfl (fun k:Nat=> [(58,.int .i64 (k:Int))]) (fun _=> [.own A 295 8 toks.length cap (toks.flatMap bw),.box g7 336 (GZ.map fun f=>Value.func (.func f) #[.pointer (some ⟨g6,0,none⟩)] #[]),.box g6 334 [.string a]]) (fun k=>k≤5∧dG ld=nV ld (oT.drop k)) (fun k=>5 - k) 0 ⟨by omega,rfl⟩ sB mS ?_
     rintro k ⟨hk,hkt⟩
     by_cases hk5:k<5
     ·
      obtain ⟨f2,r,r1,r2,r3,r4⟩:=Pw a (by omega) i hlt2 g6 k hk5
      rw [hld] at r4
      rw [r1,nV] at hkt
      cases ho:r ld with
      |none=>
       rw [ho] at hkt r4
       dsimp only at hkt
       repeat' (first|(apply ak;exact rfl;apply oI;exact rfl;exact rfl;exact hk5;exact r2)|(apply tQ;exact rfl;exact rfl;exact r3;exact rfl;(intro w' hm;exact r4 w' (Ro.of_box hm pK) (hW.next hm)))|refine sT ?_|refine sS ?_|refine sT2 ?_|refine sN ?_|refine sM fun _=> ?_|(refine sC ?_ ?_<;>intro hb<;>try omega)|fail)
       all_goals try (exfalso;omega)
       refine ⟨k+1,?_,(by first|omega|(dsimp only;omega)),sB,sB,mS⟩
       exact ⟨hk5,hkt⟩
      |some x=>
       obtain ⟨t,m⟩:=x
       rw [ho] at hkt r4
       dsimp only at hkt
       have hfit:=xo ld t m hkt
       rw [hkt] at hi4
       dsimp only at hi4
       have hm0:0<m:=hfit.1
       repeat' (first|(apply ak;exact rfl;apply oI;exact rfl;exact rfl;exact hk5;exact r2)|(apply tQ;exact rfl;exact rfl;exact r3;exact rfl;(intro w' hm;exact r4 w' (Ro.of_box hm pK) (hW.next hm)))|(apply aX;(iterate 3 exact rfl);exact pK;exact pK;exact rfl;(simp [bw,Value.oneCell']);omega;(simp only [maxLen];omega);intro g8 c8)|refine sT ?_|refine sS ?_|refine sT2 ?_|refine sN ?_|refine sM fun _=> ?_|(refine sC ?_ ?_<;>intro hb<;>try omega)|fail)
       all_goals try (exfalso;omega)
       refine ⟨(i+m,toks++ [{ t with at_:=(i:Int) }],some g8,c8),⟨by dsimp only;omega,by simp;omega,?_⟩,(by dsimp only;omega),?_,sB,?_⟩
       ·
        dsimp only
        rw [hi4,sj xo f (a.size - (i+m)) f (i+m) (by omega) (by omega) (by omega)]
        cases bA dG (ap a) (a.size - (i+m)) (i+m)<;>simp [Except.map]
       ·
        simp only [TG,TH]
        exact sB
       ·
        simp only [TG,TH,Ua,T9,Up,TR]
        exact mS
     ·
      have e:k=5:=by omega
      subst e
      rw [show nV ld (oT.drop 5)=none from rfl] at hkt
      rw [hkt] at hi4
      dsimp only [Except.map] at hi4
      rw [hi4]
      refine aW 295 8 ?_
      repeat' (first|refine sT ?_|refine sS ?_|refine sT2 ?_|refine sN ?_|refine sM fun _=> ?_|(refine sC ?_ ?_<;>intro hb<;>try omega)|fail)
      all_goals try (exfalso;omega)
      exact qu (.inl rfl) rfl rfl rfl rfl (H' := [.own none 295 8 0 0 []]) mS ⟨none,0,rfl,rfl⟩
   ·
    have e:i=a.size:=by omega
    subst e
    rw [show a.size - a.size=0 by omega] at hi4
    simp only [bA,Except.map,TR] at hi4
    rw [hi4]
    repeat' (first|refine sT ?_|refine sS ?_|refine sT2 ?_|refine sN ?_|refine sM fun _=> ?_|(refine sC ?_ ?_<;>intro hb<;>try omega)|fail)
    all_goals try (exfalso;omega)
    exact qu (.inl rfl) rfl rfl rfl rfl (H' := [.own A 295 8 toks.length cap (toks.flatMap bw)]) mS ⟨A,cap,rfl,rfl⟩
end Go.SL
namespace Go.SL
open Go Go.Proofs
attribute [local irreducible] W WL WQ WG WA VOp thn blk ba FnAt FnIn
def dD:List ByteArray:= [
 ⟨#[65,66,83]⟩,⟨#[83,73,71,78]⟩,⟨#[73,78,84]⟩,⟨#[84,82,85,78,67]⟩,⟨#[82,79,85,78,68]⟩,
 ⟨#[77,79,68]⟩,⟨#[80,79,87,69,82]⟩,⟨#[83,81,82,84]⟩,⟨#[83,85,77]⟩,⟨#[80,82,79,68,85,67,84]⟩,
 ⟨#[67,79,85,78,84]⟩,⟨#[67,79,85,78,84,65]⟩,⟨#[67,79,85,78,84,66,76,65,78,75]⟩,⟨#[65,86,69,82,65,71,69]⟩,⟨#[77,73,78]⟩,
 ⟨#[77,65,88]⟩,⟨#[77,69,68,73,65,78]⟩,⟨#[76,65,82,71,69]⟩,⟨#[83,77,65,76,76]⟩,⟨#[73,70]⟩,
 ⟨#[65,78,68]⟩,⟨#[79,82]⟩,⟨#[88,79,82]⟩,⟨#[78,79,84]⟩,⟨#[73,70,69,82,82,79,82]⟩,
 ⟨#[73,83,69,82,82,79,82]⟩,⟨#[73,83,66,76,65,78,75]⟩,⟨#[73,83,78,85,77,66,69,82]⟩,⟨#[73,83,84,69,88,84]⟩,⟨#[67,72,79,79,83,69]⟩,
 ⟨#[76,69,78]⟩,⟨#[76,69,70,84]⟩,⟨#[82,73,71,72,84]⟩,⟨#[77,73,68]⟩,⟨#[85,80,80,69,82]⟩,
 ⟨#[76,79,87,69,82]⟩,⟨#[84,82,73,77]⟩,⟨#[67,79,78,67,65,84]⟩,⟨#[82,69,80,84]⟩,⟨#[69,88,65,67,84]⟩,
 ⟨#[70,73,78,68]⟩,⟨#[86,65,76,85,69]⟩,⟨#[73,78,68,69,88]⟩,⟨#[77,65,84,67,72]⟩,⟨#[67,79,85,78,84,73,70]⟩,
 ⟨#[68,83,85,77]⟩,⟨#[68,67,79,85,78,84]⟩,⟨#[68,65,86,71]⟩,⟨#[68,77,73,78]⟩,⟨#[68,77,65,88]⟩]
theorem Nv (w:World):aD Tryz.prog 374 [] w (.agg (dD.map Value.string).toArray):=by
 refine ax Tryz.func374 rfl Tryz.ntmps374 rfl ?_
 repeat' (first|(apply Dj;(iterate 5 exact rfl))|refine sT ?_|refine sM fun _=> ?_|(refine sC ?_ ?_<;>intro hb<;>try omega)|fail)
 exact KE (.inl rfl) Tryz.results374 rfl .hd rfl (MSub.nil _) rfl
theorem Ro.str1 {w:World} {g o:Nat} {L:List ByteArray} (h:Ro w g o (L.map Value.string)) (i:Nat) (hi:i<L.length):Ro w g (o+i*1) [Value.string L[i]]:=by
 have h1:=(h.drop (k:=i)).take (k:=1)
 rw [← List.map_drop,← List.map_take,TN hi] at h1
 rw [Va]
 exact h1
def eQ:List ByteArray→ByteArray→Int→Int
 | [],_,_=> -1
 |a::r,s,i=>if s=a then i else eQ r s (i+1)
theorem OJ (L:List ByteArray) (b:ByteArray) (tv:Value) (w:World) (ht:Reads w tv L.length (L.map Value.string)):aD Tryz.prog 375 [tv,.string b] w (.int .i64 (eQ L b 0)):=by
 obtain ⟨Al,cl,rfl,hl1,hl2,hl3⟩:=ht
 refine ax Tryz.func375 rfl Tryz.ntmps375 rfl ?_
 repeat' (first|refine sT ?_|refine sM fun _=> ?_|(refine sC ?_ ?_<;>intro hb<;>try omega)|fail)
 refine jf (fun i:Nat=> [(0,.slice Al L.length cl),(1,.string b),(7,.int .i64 (L.length:Int)),(8,.int .i64 (i:Int))]) (fun _=> []) (fun i=>i≤L.length∧eQ L b 0=eQ (L.drop i) b (i:Int)) (fun i=>L.length - i) 0 ⟨by omega,rfl⟩ ?_ ?_ ?_
 ·
  exact sB
 ·
  exact mS
 ·
  rintro i ⟨hi,hrec⟩
  by_cases hlt:i<L.length
  ·
   obtain ⟨gl,ol,rfl,hrl⟩:=hl3 (by omega)
   have he:=hrl.str1 i hlt
   rw [TN hlt,eQ] at hrec
   repeat' (first|(apply ak;exact rfl;apply aj;exact rfl;exact rfl;exact hlt)|(apply ak;exact rfl;apply w8;exact rfl;exact he)|(apply ak;exact rfl;apply lp;exact rfl;exact rfl;(simp only [maxLen] at*;omega))|refine sT ?_|refine sM fun _=> ?_|(refine sC ?_ ?_<;>intro hb<;>try omega)|fail)
   ·
    (refine rT1 ?_)
    rw [hrec,if_pos hb]
   ·
    refine ⟨i+1,⟨by omega,?_⟩,by omega,?_,?_⟩
    ·
     rw [hrec,if_neg hb]
     rfl
    ·
     exact sB
    ·
     exact mS
  ·
   have e:i=L.length:=by omega
   subst e
   repeat' (first|refine sT ?_|refine sM fun _=> ?_|(refine sC ?_ ?_<;>intro hb<;>try omega)|fail)
   (refine rT1 ?_)
   rw [hrec,UB,eQ]
theorem jD:dD.length=50:=rfl
theorem jF (L:List ByteArray) (b:ByteArray) (i:Int) (h:0≤i):eQ L b i= -1∨(i≤eQ L b i∧eQ L b i<i+L.length):=by
 induction L generalizing i with
 |nil=>exact .inl rfl
 |cons a r ih=>
  unfold eQ
  rw [TZ]
  split
  ·
   right;omega
  ·
   rcases ih (i+1) (by omega) with h1|h1
   ·
    exact .inl h1
   ·
    right;omega
def bk (b:ByteArray):Int × Int:=if eQ dD b 0<0 then (0,6) else (eQ dD b 0+1,0)
theorem FY (b:ByteArray) (w:World):aD Tryz.prog 363 [.string b] w (.tuple #[.int .u8 (bk b).1,.int .i64 (bk b).2]):=by
 refine ax Tryz.func363 rfl Tryz.ntmps363 rfl ?_
 have hb1:=jF dD b 0 (by omega)
 rw [jD] at hb1
 have hix:=fun w tv (h:Reads w tv (dD.map Value.string).length (dD.map Value.string))=>OJ dD b tv w h
 unfold bk
 generalize eQ dD b 0=r at hb1 hix
 repeat' (first|(apply aa;exact rfl;exact rfl;(intro w hm;exact Nv w))|(apply ak;exact rfl;apply Dv;exact rfl)|(apply aa;exact rfl;exact rfl;(intro w' hm;exact hix w' _ (Reads.of_box hm pK rfl)))|(apply ak;exact rfl;apply eY;exact rfl;exact rfl;exact I64.wrap ⟨by omega,by omega⟩)|(apply ak;exact rfl;apply zP;exact rfl;exact wrap_u8 (by omega) (by omega))|refine sT ?_|refine sM fun _=> ?_|(refine sC ?_ ?_<;>intro hb<;>try omega)|fail)
 ·
  refine dc (.inl rfl) Tryz.results363 rfl rfl (.nil _) ?_
  rw [if_pos hb]
 ·
  refine dc (.inl rfl) Tryz.results363 rfl rfl (.nil _) ?_
  rw [if_neg (by omega)]
def gV (fn:Int):ByteArray:=if 51≤fn then az else (az::dD).getD fn.toNat az
theorem wrap_i64 {a:Int} (h1:0≤a) (h2:a≤255):IntKind.i64.wrap a=a:=I64.wrap ⟨by omega,by omega⟩
theorem nz (fn:Int) (h0:0≤fn) (h1:fn≤255) (w:World):aD Tryz.prog 344 [.int .u8 fn] w (.string (gV fn)):=by
 obtain ⟨j,rfl⟩:=We h0
 refine ax Tryz.func344 rfl Tryz.ntmps344 rfl ?_
 have hg: ∀ h:j<51,((az::dD).map Value.string)[0+j*1]? =some (.string ((az::dD).getD j az)):=by
  intro h
  have:j<(az::dD).length:=h
  rw [show 0+j*1=j by omega]
  simp only [Uq,Ui,TJ this]
  rfl
 repeat' (first|(apply ak;exact rfl;apply zP;exact rfl;exact wrap_i64 h0 h1)|(apply ak;exact rfl;apply aj (j:=j);exact rfl;exact rfl;omega)|(apply ak;exact rfl;apply bG;exact rfl;exact pK;exact hg (by omega))|refine sT ?_|refine sM fun _=> ?_|(refine sC ?_ ?_<;>intro hb<;>try omega)|fail)
 ·
  (refine rT1 ?_)
  rw [gV,if_pos (by omega)]
  rfl
 ·
  (refine rT1 ?_)
  rw [gV,if_neg (by omega)]
  rfl
theorem Ej {i:Nat} (h:i<50):gV ((i:Int)+1)=dD[i]'h:=by
 have h2:i<dD.length:=h
 rw [gV,if_neg (by omega),show ((i:Int)+1).toNat=i+1 by omega]
 simp [h2]
 rfl
theorem xI (b:ByteArray) (w:World):aD Tryz.prog 370 [.string b] w (.tuple #[.int .u8 (bk b).1,.int .i64 (bk b).2]):=by
 refine ax Tryz.func370 rfl Tryz.ntmps370 rfl ?_
 repeat' (first|refine sT ?_|refine sM fun _=> ?_|(refine sC ?_ ?_<;>intro hb<;>try omega)|fail)
 refine jf (fun i:Nat=> [(0,.string b),(4,.int .u8 ((i:Int)+1))]) (fun _=> []) (fun i=>i≤50∧eQ dD b 0=eQ (dD.drop i) b (i:Int)) (fun i=>50 - i) 0 ⟨by omega,rfl⟩ ?_ ?_ ?_
 ·
  exact sB
 ·
  exact mS
 ·
  rintro i ⟨hi,hrec⟩
  by_cases hlt:i<50
  ·
   have hl:i<dD.length:=hlt
   have hr: ∀ w,aD Tryz.prog 344 [.int .u8 ((i:Int)+1)] w (.string (dD[i]'hl)):=fun w=>Ej hlt ▸ nz _ (by omega) (by omega) w
   rw [TN hl,eQ] at hrec
   repeat' (first|(apply aa;exact rfl;exact rfl;(intro w hm;exact hr w))|(apply ak;exact rfl;apply eY (c:=((i+1:Nat):Int)+1);exact rfl;exact rfl;exact wrap_u8 (by omega) (by omega))|refine sT ?_|refine sM fun _=> ?_|(refine sC ?_ ?_<;>intro hb<;>try omega)|fail)
   ·
    refine dc (.inl rfl) Tryz.results370 rfl rfl (.nil _) ?_
    rw [bk,hrec,if_pos hb.symm,if_neg (by omega)]
   ·
    refine ⟨i+1,⟨by omega,?_⟩,by omega,?_,?_⟩
    ·
     rw [hrec,if_neg (fun h=>hb h.symm)]
     rfl
    ·
     exact sB
    ·
     exact mS
  ·
   have e:i=50:=by omega
   subst e
   repeat' (first|refine sT ?_|refine sM fun _=> ?_|(refine sC ?_ ?_<;>intro hb<;>try omega)|fail)
   refine dc (.inl rfl) Tryz.results370 rfl rfl (.nil _) ?_
   rw [bk,hrec]
   rfl
def cd (fn:Int):Int × Int:=
 if fn=5∨fn=6∨fn=7∨fn=25∨fn=39∨fn=40∨fn=18∨fn=19∨fn=45∨fn=44 then (2,2)
 else if fn=20∨fn=41∨fn=43 then (2,3)
 else if fn=32∨fn=33 then (1,2)
 else if fn=34 then (3,3)
 else if fn=21∨fn=22∨fn=23∨fn=38∨fn=9∨fn=10∨fn=11∨fn=12∨fn=14∨fn=15∨fn=16∨fn=17 then (1,16)
 else if fn=30 then (2,16)
 else (1,1)
set_option maxRecDepth 10000 in
theorem lC (fn:Int) (w:World):aD Tryz.prog 345 [.int .u8 fn] w (.tuple #[.int .i64 (cd fn).1,.int .i64 (cd fn).2]):=by
 refine ax Tryz.func345 rfl Tryz.ntmps345 rfl ?_
 repeat' (first|refine sT ?_|refine sM fun _=> ?_|(refine sC ?_ ?_<;>intro hb<;>try omega)|fail)
 all_goals ((refine rT2 ?_);simp_all [cd])
def f4 (fn i:Int):Bool:=
 if i<0∨(cd fn).2≤i then false
 else if fn=9∨fn=10∨fn=11∨fn=12∨fn=14∨fn=15∨fn=16∨fn=17 then true
 else if fn=13∨fn=18∨fn=19∨fn=45∨fn=43 then decide (i=0)
 else if fn=44 then decide (i=1)
 else decide (46≤fn) && decide (fn≤50)
set_option maxRecDepth 10000 in
theorem xF (fn i:Int) (w:World):aD Tryz.prog 360 [.int .u8 fn,.int .i64 i] w (.bool (f4 fn i)):=by
 refine ax Tryz.func360 rfl Tryz.ntmps360 rfl ?_
 repeat' (first|(apply aa;exact rfl;exact rfl;(intro w hm;exact lC fn w))|refine sT ?_|refine sM fun _=> ?_|(refine sC ?_ ?_<;>intro hb<;>try omega)|fail)
 all_goals ((refine rT1 ?_);((try simp only [← Int.not_lt] at*);simp_all [f4, -Int.not_lt, -Int.not_le,← Int.not_lt]))
theorem Nu: ∀ j,j<50→dD.getD j az≠az∧bk (dD.getD j az)=((j:Int)+1,0):=by decide+kernel
theorem lQ {fn:Int} (h:cU fn=true):fp fn=((cd fn).1,(cd fn).2,0):=by
 unfold fp cd
 (repeat' split)<;>simp_all
theorem qW {fn:Int} (h:cU fn=false):fp fn=(0,0,10):=by
 simp only [cU,U3,decide_eq_false_iff_not] at h
 have hk:cU fn=false:=by simp only [cU,U3,decide_eq_false_iff_not];exact h
 unfold fp
 (repeat' split)<;>first|(exfalso;omega)|(simp_all;done)|rfl
theorem wU {fn:Int} (h:cU fn=true) (i:Int):kJ fn i=(f4 fn i,if i<0∨(cd fn).2≤i then 3 else 0):=by
 unfold kJ f4
 rw [lQ h]
 simp only [ne_eq,not_true_eq_false,if_false]
 by_cases h1:i<0∨(cd fn).2≤i
 ·
  simp only [if_pos h1]
 ·
  simp only [if_neg h1]
  by_cases h2:fn=9∨fn=10∨fn=11∨fn=12∨fn=14∨fn=15∨fn=16∨fn=17
  ·
   simp only [if_pos h2]
  ·
   simp only [if_neg h2]
   by_cases h3:fn=44
   ·
    subst h3
    simp
   ·
    simp only [if_neg h3]
    by_cases h4:fn=18∨fn=19∨fn=45∨fn=43∨fn=13
    ·
     rw [if_pos h4,if_pos (by omega)]
    ·
     rw [if_neg h4,if_neg (by omega)]
     rfl
end Go.SL
namespace Go.SL
open Go
def iC (op:Int):Int:=
 if 7≤op∧op≤12 then 1 else if op=6 then 2 else if op=1∨op=2 then 3 else if op=3∨op=4 then 4 else if op=5 then 6 else if op=13 then 7 else 0
structure PS where
 l:List Tk
 out:List Nd
def hdT (fin:Int) (l:List Tk):Tk:=l.headD { dB with at_:=fin }
def PS.skip (p:PS):PS:=⟨p.l.tail,p.out⟩
def PS.put (p:PS) (n:Nd):PS:=⟨p.l,p.out++ [n]⟩
inductive Job where
 |level (k:Int)
 |loop (k:Int)
 |sign
 |pct
 |pctl
 |prim
 |args (fn:Int) (n:Nat)
abbrev Out:=Except (Int × Int) (Nat × PS)
def dS (kind op:Int):Nd:=⟨kind,bV,aS,op,0,0⟩
def gI (r:Option Out) (k:Nat→PS→Option Out):Option Out:=
 match r with
 |some (.ok (n,p))=>k n p
 |r=>r
def nO (t:Tk):Nd:=
 ⟨1,if t.kind=1 then ⟨1,t.num,az⟩ else if t.kind=2 then ⟨3,0,t.text⟩ else if t.kind=3 then ⟨2,t.num,az⟩ else ⟨4,t.num,az⟩,aS,0,0,0⟩
def dx (fin:Int) (name:Tk) (fn:Int) (n:Nat) (p:PS):Option Out:=
 let t:=hdT fin p.l
 if t.kind≠10 then some (.error (t.at_,4))
 else if (n:Int)<(fp fn).1∨(fp fn).2.1<(n:Int) then some (.error (name.at_,11))
 else if 46≤fn∧(p.out.getLast?.map fun x=>decide (x.kind=2∨x.kind=3))≠some true then some (.error (name.at_,4))
 else some (.ok (0,p.skip.put ⟨7,bV,aS,0,fn,n⟩))
def bL (fin:Int):Nat→Job→PS→Option Out
 |0,_,_=>none
 |f+1,.level k,p=>if k=5 then bL fin f .sign p else gI (bL fin f (.level (k+1)) p) fun _ p=>bL fin f (.loop k) p
 |f+1,.loop k,p=>
  let t:=hdT fin p.l
  if t.kind=8∧iC t.num=k then gI (bL fin f (.level (k+1)) p.skip) fun _ p=>bL fin f (.loop k) (p.put (dS 6 t.num))
  else some (.ok (0,p))
 |f+1,.sign,p=>
  let t:=hdT fin p.l
  if t.kind=8∧t.num=2 then gI (bL fin f .sign p.skip) fun _ p=>some (.ok (0,p.put (dS 4 0)))
  else gI (bL fin f .pct p) fun _ p=>
   let u:=hdT fin p.l
   if u.kind=8∧u.num=5 then gI (bL fin f .sign p.skip) fun _ p=>some (.ok (0,p.put (dS 6 5)))
   else some (.ok (0,p))
 |f+1,.pct,p=>gI (bL fin f .prim p) fun _ p=>bL fin f .pctl p
 |f+1,.pctl,p=>
  let t:=hdT fin p.l
  if t.kind=8∧t.num=13 then bL fin f .pctl (p.skip.put (dS 5 0)) else some (.ok (0,p))
 |f+1,.prim,p=>
  let t:=hdT fin p.l
  if 1≤t.kind∧t.kind≤4 then some (.ok (0,p.skip.put (nO t)))
  else if t.kind=5 then some (.ok (0,p.skip.put ⟨2,bV,t.rect,0,0,0⟩))
  else if t.kind=9 then gI (bL fin f (.level 1) p.skip) fun _ p=>
   let u:=hdT fin p.l
   if u.kind≠10 then some (.error (u.at_,4)) else some (.ok (0,p.skip))
  else if t.kind=7 then
   if (bk t.text).2≠0 then some (.error (t.at_,10))
   else
    let u:=hdT fin p.skip.l
    if u.kind≠9 then some (.error (u.at_,4))
    else if (hdT fin p.skip.skip.l).kind=10 then dx fin t (bk t.text).1 0 p.skip.skip
    else gI (bL fin f (.args (bk t.text).1 0) p.skip.skip) fun n p=>dx fin t (bk t.text).1 n p
  else some (.error (t.at_,4))
 |f+1,.args fn n,p=>
  let t:=hdT fin p.l
  let go:=fun (p:PS)=>if (hdT fin p.l).kind=11 then bL fin f (.args fn (n+1)) p.skip else some (.ok (n+1,p))
  if t.kind≠6 then gI (bL fin f (.level 1) p) fun _ p=>go p
  else if (kJ fn n).1=false∨(kJ fn n).2≠0 then some (.error (t.at_,4))
  else go (p.skip.put ⟨3,bV,t.rect,0,0,0⟩)
end Go.SL
