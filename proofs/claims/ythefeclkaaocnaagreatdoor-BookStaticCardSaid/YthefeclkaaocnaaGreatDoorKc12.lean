/-
  Lemmas and walks, put together: A2p B4 B5 W11 W12 W13 Px.
-/
import Derived.Test.YthefeclkaaocnaaGreatDoorKc11
set_option linter.unusedSimpArgs false
set_option linter.unusedVariables false
set_option maxRecDepth 20000
namespace Go.SL
open Go
theorem rP {p:Pc} {c:Int} (h:bH c=true):bP p c=jr p (upC c):=by
 simp only [bH,OG,M0,decide_eq_true_eq] at h
 rw [bP,if_pos]
 unfold upC
 split<;>omega
theorem fM {p:Pc} {c:Int} (h:aD c=true):bP p c=fw p c:=by
 simp only [aD,M0,decide_eq_true_eq] at h
 exact rQ h.1 h.2
theorem kH {p:Pc} {c:Int} (h:bH c=false) (h2:aD c=false):(bP p c).ok=false:=by
 simp only [bH,aD,OT,NU,decide_eq_false_iff_not] at h h2
 rw [uX (by omega) (by omega) (by omega)]
theorem Bx {p:Pc} (h:p.ok=false) (c:Int):(bP p c).ok=false:=by
 unfold bP
 split
 ·
  simp [jr,h]
 ·
  split
  ·
   simp [fw,h]
  ·
   rfl
theorem lS: ∀ (l:List Int) {p:Pc},p.ok=false→(l.foldl bP p).ok=false
 | [],_,h=>h
 |c::r,_,h=>lS r (Bx h c)
theorem zj: ∀ (l:List Int) (p:Pc),(∀ c∈l,bH c=true)→p.m1=0→l.foldl bP p=⟨p.m0+l.length,0,ba l p.v0,p.v1,p.ok⟩
 | [],p,_,h=>by obtain ⟨a,b,c,d,e⟩:=p;simp only at h;subst h;simp [ba]
 |c::r,p,hl,h=>by
  rw [OX,rP (hl c MY),zj r _ (fun d hd=>hl d (M7 _ hd)) (by simp [jr,h])]
  simp only [jr,h,ba,decide_true,NI,Nq,Pc.mk.injEq,true_and,and_true]
  refine ⟨by push_cast;omega,?_⟩
  rw [show 26*p.v0+(upC c - 65)+1=26*p.v0+(upC c - 64) by omega]
theorem sA: ∀ (l:List Int) (p:Pc),(∀ c∈l,aD c=true)→0<p.m1→l.foldl bP p=⟨p.m0,p.m1+l.length,p.v0,kV l p.v1,p.ok⟩
 | [],p,_,_=>by obtain ⟨a,b,c,d,e⟩:=p;simp [kV]
 |c::r,p,hl,h=>by
  rw [OX,fM (hl c MY),sA r _ (fun d hd=>hl d (M7 _ hd)) (by simp [fw];omega)]
  simp only [fw,h,kV,decide_true,Bool.or_true,NI,Nq,Pc.mk.injEq,true_and,and_true]
  push_cast;omega
theorem nk: ∀ (l:List Int) (p:Pc),(l.all aD=false)→0<p.m1→(l.foldl bP p).ok=false
 | [],_,h,_=>by simp at h
 |c::r,p,h,hm=>by
  rw [OX]
  cases hd:aD c
  ·
   apply lS
   cases hl:bH c
   ·
    exact kH hl hd
   ·
    rw [rP hl]
    simp only [jr]
    rw [decide_eq_false (by omega)]
    simp
  ·
   rw [O5,hd,Ns] at h
   apply nk r _ h
   rw [fM hd]
   simp only [fw];omega
theorem kL: ∀ (l:List Int) {v:Int},(∀ c∈l,bH c=true)→0≤v→(l≠ []∨1≤v)→1≤ba l v
 | [],v,_,_,h=>by rcases h with h|h;exact absurd rfl h;exact h
 |c::r,v,hl,h0,_=>by
  have hc:=hl c MY
  simp only [bH,OG,M0,decide_eq_true_eq] at hc
  have hu:65≤upC c:=by unfold upC;split<;>omega
  simp only [ba]
  exact kL r (fun d hd=>hl d (M7 _ hd)) (by omega) (.inr (by omega))
theorem yt: ∀ (l:List Int) {v:Int},(∀ c∈l,aD c=true)→1≤v→1≤kV l v
 | [],_,_,h=>h
 |c::r,v,hl,h=>by
  have hc:=hl c MY
  simp only [aD,M0,decide_eq_true_eq] at hc
  simp only [kV]
  exact yt r (fun d hd=>hl d (M7 _ hd)) (by omega)
theorem mM {p:Int→Bool}: ∀ {l:List Int} {c:Int},c∈l.takeWhile p→p c=true
 |d::r,c,h=>by
  rw [OV] at h
  split at h
  ·
   rename_i hp
   rcases M8.1 h with rfl|h
   ·
    exact hp
   ·
    exact mM h
  ·
   cases h
theorem Iw (l:List Int):vO l=bR l:=by
 unfold vO bR
 dsimp only
 generalize ha:l.takeWhile bH=a
 generalize hd:l.dropWhile bH=d
 have hl:l=a++d:=by rw [← ha,← hd,List.takeWhile_append_dropWhile]
 have hal: ∀ c∈a,bH c=true:=fun c hc=>mM (ha ▸ hc)
 have hp:qi l=d.foldl bP ⟨a.length,0,ba a 0,0,true⟩:=by
  rw [qi,hl,PN,zj a pc0 hal rfl]
  simp [pc0]
 rw [hp]
 cases d with
 |nil=>simp
 |cons c r=>
  have hcl:bH c=false:=by
   cases hq:bH c
   ·
    rfl
   ·
    exfalso
    have hne:l.dropWhile bH≠ []:=by rw [hd];simp
    have:=List.head_dropWhile_not bH hne
    simp only [hd,List.head_cons] at this
    rw [hq] at this;cases this
  rw [OX]
  by_cases ha0:a= []
  ·
   subst ha0
   have:(List.foldl bP (bP ⟨(([]:List Int).length:Int),0,ba [] 0,0,true⟩ c) r).ok=false∨(List.foldl bP (bP ⟨(([]:List Int).length:Int),0,ba [] 0,0,true⟩ c) r).m0=0∨(List.foldl bP (bP ⟨(([]:List Int).length:Int),0,ba [] 0,0,true⟩ c) r).m1=0:=by
    cases hdc:aD c
    ·
     exact .inl (lS r (kH hcl hdc))
    ·
     cases hr:r.all aD
     ·
      left
      apply nk r _ hr
      rw [fM hdc];simp [fw]
     ·
      right;left
      rw [sA r _ (by simpa using hr) (by rw [fM hdc];simp [fw])]
      rw [fM hdc];simp [fw]
   rw [if_pos this,if_pos (show (([]:List Int)= []∨_) from .inl rfl)]
  ·
   have hlen:0<(a.length:Int):=by
    have:=OJ.2 ha0
    omega
   cases hdc:aD c
   ·
    rw [if_pos (.inl (lS r (kH hcl hdc))),if_pos (.inr (.inr (.inr (by simp [hdc]))))]
   ·
    rw [fM hdc]
    by_cases h48:c=48
    ·
     rw [if_pos (.inl (lS r (by simp [fw,h48]))),if_pos (.inr (.inr (.inl (by simp [h48]))))]
    ·
     cases hr:r.all aD
     ·
      rw [if_pos (.inl (nk r _ hr (by simp [fw]))),if_pos (.inr (.inr (.inr (by simp [hr]))))]
     ·
      have hr' : ∀ x∈r,aD x=true:=by simpa using hr
      have hp2:List.foldl bP (fw ⟨a.length,0,ba a 0,0,true⟩ c) r=⟨a.length,1+r.length,ba a 0,kV (c::r) 0,true⟩:=by
       rw [sA r _ hr' (by simp [fw])]
       simp [fw,h48,kV]
      rw [hp2,if_neg (c:=(a= []∨_)) (by simp [ha0,h48,hdc,hr])]
      have hd2:=hdc
      simp only [aD,M0,decide_eq_true_eq] at hd2
      have h1:=kL a hal (Od 0) (.inl ha0)
      have h3:1≤kV (c::r) 0:=yt r (v:=min (10*0+(c - 48)) 1025) hr' (by omega)
      generalize kV (c::r) 0=u at h3 ⊢
      split
      ·
       rename_i h
       exfalso
       rcases h with h|h|h
       ·
        cases h
       ·
        exact absurd h (by show ¬ ((a.length:Int)=0);omega)
       ·
        exact absurd h (by show ¬ (1+(r.length:Int)=0);omega)
      ·
       by_cases hb:1024<ba a 0∨1024<u
       ·
        rw [if_pos hb,if_neg]
        simp only [valid,M0,decide_eq_true_eq]
        omega
       ·
        rw [if_neg hb,if_pos]
        simp only [valid,M0,decide_eq_true_eq]
        omega
end Go.SL
namespace Go.SL
open Go Go.Proofs
attribute [local irreducible] W WL WQ WG WA WX WLI WR WT VOp thn blk bL scp bi bY aQ FnIn
def fQ (l:List Int):Option (Tk × Nat):=
 if bH (l.headD 0)=false then none
 else if (l.drop (aB cB l)).headD 0=40 then some (⟨7,0,mkB (upW l),aL,0⟩,aB cB l)
 else if mkB (upW l)=li then some (⟨3,1,av,aL,0⟩,aB cB l)
 else if mkB (upW l)=jM then some (⟨3,0,av,aL,0⟩,aB cB l)
 else if (bR (upW l)).2.2≠0 then none
 else if (l.drop (aB cB l)).headD 0=58∧bH ((l.drop (aB cB l+1)).headD 0)=true∧(bR (upW (l.drop (aB cB l+1)))).2.2=0∧(l.drop (aB cB l+1+aB cB (l.drop (aB cB l+1)))).headD 0≠40 then
  some (⟨if (bR (upW l)).1=(bR (upW (l.drop (aB cB l+1)))).1∧(bR (upW l)).2.1=(bR (upW (l.drop (aB cB l+1)))).2.1 then 5 else 6,0,av,
   ⟨min (bR (upW l)).1 (bR (upW (l.drop (aB cB l+1)))).1,min (bR (upW l)).2.1 (bR (upW (l.drop (aB cB l+1)))).2.1,max (bR (upW l)).1 (bR (upW (l.drop (aB cB l+1)))).1,max (bR (upW l)).2.1 (bR (upW (l.drop (aB cB l+1)))).2.1⟩,0⟩,aB cB l+1+aB cB (l.drop (aB cB l+1)))
 else some (⟨5,0,av,JJ (bR (upW l)).1 (bR (upW l)).2.1,0⟩,aB cB l)
theorem fa (a b:Int):(if b<a then b else a)=min a b:=by omega
theorem fg (a b:Int):(if a<b then b else a)=max a b:=by omega
theorem zP (l:List Int) (hl:gk l) (hlen:l.length≤100000) (w:World):ax Tryz.prog 284 [.string (mkB l)] w (.tuple #[.agg (db ⟨(bR l).1,(bR l).2.1⟩).toArray,.int .i64 (bR l).2.2]):=by
 have h:=xg (mkB l) (by rw [lH];exact hlen) w
 rw [lO hl,Iw] at h
 exact h
set_option maxHeartbeats 2000000 in
theorem IQ (a:ByteArray) (ha:a.size≤10000) (i:Nat) (hi:i<a.size) (g:Nat) (w:World) (hr:Ro w g 0 [.string a]):
  ax Tryz.prog 245 [.pointer (some ⟨g,0,none⟩),.int .i64 (i:Int)] w (AO (atT i (fQ ((ap a).drop i)))):=by
 refine aq Tryz.func245 rfl Tryz.ntmps245 rfl ?_
 have hl:=au a
 have hP1:=fun w' h=>yQ a (by omega) i (by omega) g w' h
 have hwl:=bN cB ((ap a).drop i)
 have hul:=rq ((ap a).drop i)
 have huk:gk (upW ((ap a).drop i)):=FL fun c hc=>kM a c (OQ hc)
 rw [M6] at hwl
 have hW:fQ ((ap a).drop i)=fQ ((ap a).drop i):=rfl
 unfold fQ at hW ⊢
 clear hW
 rw [ko]
 simp only [N8]
 generalize hn:aB cB ((ap a).drop i)=n at*
 generalize hu:upW ((ap a).drop i)=u at*
 rw [ko]
 have hus:(mkB u).size=n:=by rw [lH,hul]
 have hA1:=zP u huk (by omega)
 generalize hau:bR u=A1 at hA1
 obtain ⟨c1,r1,e1⟩:=A1
 dsimp only at hA1 ⊢
 have hN1:=fun w' h=>wO a (by omega) (i+n) g w' h
 have hN2:=fun w' h=>wO a (by omega) (i+n+1) g w' h
 have hb1l:bat a (i+n)≠0→i+n<a.size:=fun h=>by
  rcases Ow (i+n) a.size with h1|h1
  ·
   exact h1
  ·
   exfalso;apply h;rw [bat,Ni,N9 (by omega)];rfl
 generalize hb1:bat a (i+n)=b1 at hN1 hb1l
 rw [show i+(n+1)=i+n+1 by omega]
 have hvl:=rq ((ap a).drop (i+n+1))
 have hvk:gk (upW ((ap a).drop (i+n+1))):=FL fun c hc=>kM a c (OQ hc)
 have hvr:=bN cB ((ap a).drop (i+n+1))
 rw [M6] at hvr
 have hP2:=fun w' hi h=>yQ a (by omega) (i+n+1) hi g w' h
 generalize hm:aB cB ((ap a).drop (i+n+1))=m at*
 generalize hv:upW ((ap a).drop (i+n+1))=v at*
 rw [ko,ko]
 have hvs:(mkB v).size=m:=by rw [lH,hvl]
 have hA2:=zP v hvk (by omega)
 generalize hav:bR v=A2 at hA2
 obtain ⟨c2,r2,e2⟩:=A2
 dsimp only at hA2 ⊢
 rw [show i+(n+1+m)=i+n+1+m by omega]
 have hN3:=fun w' h=>wO a (by omega) (i+n+1+m) g w' h
 generalize hb2:bat a (i+n+1)=b2 at hN2
 generalize hb3:bat a (i+n+1+m)=b3 at hN3
 repeat' (first|(apply aj;exact rfl;apply aH (o:=0) (off:=0);exact hr;exact rfl;exact rfl)|(apply aa;exact rfl;exact rfl;(intro w hm;exact oh _ w))|(apply aj (d:=28);exact rfl;apply oZ;exact rfl;exact hus)|(apply aj (d:=90);exact rfl;apply oZ;exact rfl;exact hvs)|(apply aj (d:=126);exact rfl;apply oZ;exact rfl;exact hvs)|(apply aa (d:=26);exact rfl;exact rfl;(intro w' hm;exact hP1 w' (hr.next hm)))|(apply aa (d:=77);exact rfl;exact rfl;(intro w' hm;exact hP2 w' (hb1l (by omega)) (hr.next hm)))|(apply aa (d:=34);exact rfl;exact rfl;(intro w' hm;exact hN1 w' (hr.next hm)))|(apply aa (d:=65);exact rfl;exact rfl;(intro w' hm;exact hN1 w' (hr.next hm)))|(apply aa (d:=71);exact rfl;exact rfl;(intro w' hm;exact hN2 w' (hr.next hm)))|(apply aa (d:=92);exact rfl;exact rfl;(intro w' hm;exact hN3 w' (hr.next hm)))|(apply aa;exact rfl;exact rfl;(intro w hm;exact hA1 w))|(apply aa;exact rfl;exact rfl;(intro w hm;exact hA2 w))|(apply aj (d:=99);exact rfl;exact fa _ _ ▸ ig rfl rfl)|(apply aj (d:=104);exact rfl;exact fa _ _ ▸ ig rfl rfl)|(apply aj (d:=109);exact rfl;exact fg _ _ ▸ gq rfl rfl)|(apply aj (d:=114);exact rfl;exact fg _ _ ▸ gq rfl rfl)|(apply aj (d:=118);exact rfl;exact FK (a:=⟨c1,r1⟩) (b:=⟨c2,r2⟩) rfl rfl)|(apply aa;exact rfl;exact rfl;(intro w hm;exact LJ ⟨c1,r1⟩ w))|refine sT ?_|refine sT2 ?_|refine sN ?_|refine sM fun _=> ?_|(refine sC ?_ ?_<;>intro hb<;>try omega)|fail)
 all_goals
  (refine eQ ?_)
  simp_all [li,jM,AO,atT,aX,db,aL,av,JJ,eqF,bK,cK]
def lu:List (List Int→Option (Tk × Nat)):= [eL,ll,fQ,jw,gx]
def kO (l:List Int):List (List Int→Option (Tk × Nat))→Option (Tk × Nat)
 | []=>none
 |r::rs=>match r l with
  |some x=>some x
  |none=>kO l rs
def dH (l:List Int):Option (Tk × Nat):=kO l lu
def aZ (tk:List Int→Option (Tk × Nat)) (l:List Int):Nat→Nat→Except Nat (List Tk)
 |0,_=> .ok []
 |f+1,i=>
  match l.drop i with
  | []=> .ok []
  |c::_=>
   if c=32 then aZ tk l f (i+1)
   else match tk (l.drop i) with
    |none=> .error i
    |some (t,n)=>(aZ tk l f (i+n)).map fun r=>{ t with at_:=(i:Int) }::r
def Fits (l:List Int) (o:Option (Tk × Nat)):Prop:= ∀ t n,o=some (t,n)→0<n∧n≤l.length
theorem Fits.none {l:List Int}:Fits l none:=fun _ _ h=>by cases h
theorem Fits.some {l:List Int} {t:Tk} {n:Nat} (h1:0<n) (h2:n≤l.length):Fits l (some (t,n)):=fun _ _ h=>by cases h;exact ⟨h1,h2⟩
theorem kn {l:List Int} {c:Int} (h:l.headD 0=c) (hc:c≠0):0<l.length:=by
 cases l with
 |nil=>exact absurd h.symm hc
 |cons=>simp
theorem Br (l:List Int):bO l=0∨bO l+1≤l.length:=by
 unfold bO
 split
 ·
  right
  rename_i r
  have:=bN aD r
  simp;omega
 ·
  left;rfl
theorem pT (l:List Int):Fits l (eL l):=by
 unfold eL
 dsimp only
 have h1:=bN aD l
 have h2:=Br (l.drop (aB aD l))
 rw [M6] at h2
 have h3:(if bO (l.drop (aB aD l))=0 then aB aD l else aB aD l+1+bO (l.drop (aB aD l)))≤l.length∧aB aD l≤(if bO (l.drop (aB aD l))=0 then aB aD l else aB aD l+1+bO (l.drop (aB aD l))):=by
  split<;>omega
 generalize (if bO (l.drop (aB aD l))=0 then aB aD l else aB aD l+1+bO (l.drop (aB aD l)))=m at h3 ⊢
 split
 ·
  exact .none
 ·
  rename_i h
  split
  ·
   exact .none
  ·
   exact .some (by omega) (by omega)
theorem mA: ∀ (n:Nat) (l:List Int) (k:Nat),l.length≤n→bZ l=some k→k<l.length
 |_,[],_,_,h=>by simp [bZ] at h
 |0,c::r,_,hn,_=>by simp at hn
 |n+1,c::r,k,hn,h=>by
  by_cases hc:c=34
  ·
   subst hc
   cases r with
   |nil=>simp [bZ] at h;subst h;simp
   |cons d r' =>
    by_cases hd:d=34
    ·
     subst hd
     simp only [bZ,ne_eq,not_true_eq_false,if_false,if_true,NQ] at h
     obtain ⟨j,hj,rfl⟩:=h
     have:=mA n r' j (by simp at hn;omega) hj
     simp;omega
    ·
     simp [bZ,hd] at h
     subst h;simp
  ·
   rw [jy hc,NQ] at h
   obtain ⟨j,hj,rfl⟩:=h
   have:=mA n r j (by simp at hn;omega) hj
   simp;omega
theorem DR (l:List Int):Fits l (ll l):=by
 unfold ll
 split
 ·
  exact .none
 ·
  rename_i h
  have h0:=kn (c:=34) (Decidable.not_not.1 h) (by decide)
  split
  ·
   exact .none
  ·
   rename_i k hk
   have:=mA _ _ k (MZ _) hk
   rw [M6] at this
   split
   ·
    exact .none
   ·
    exact .some (by omega) (by omega)
theorem ux (l:List Int):Fits l (fQ l):=by
 have h1:=bN cB l
 have h2:=bN cB (l.drop (aB cB l+1))
 rw [M6] at h2
 have hpos:bH (l.headD 0)≠false→0<aB cB l:=fun h=>by
  cases l with
  |nil=>exact absurd rfl h
  |cons c r=>
   have:bH c=true:=by simpa using h
   simp [aB,cB,this]
 unfold fQ
 split
 ·
  exact .none
 ·
  rename_i h
  have hp:=hpos h
  split
  ·
   exact .some hp h1
  ·
   split
   ·
    exact .some hp h1
   ·
    split
    ·
     exact .some hp h1
    ·
     split
     ·
      exact .none
     ·
      split
      ·
       rename_i hq
       have:=kn hq.1 (by decide)
       rw [M6] at this
       exact .some (by omega) (by omega)
      ·
       exact .some hp h1
theorem sV (l:List Int): ∀ (ns:List (List Int)) (c k:Int) (n:Nat),(∀ s∈ns,s≠ [])→jk l ns c=some (k,n)→0<n∧n≤l.length
 | [],_,_,_,_,h=>by cases h
 |s::r,c,k,n,hs,h=>by
  rw [jk] at h
  split at h
  ·
   rename_i he
   cases h
   have:=congrArg List.length he
   rw [NZ,Nj] at this
   have:=OJ.2 (hs s MY)
   omega
  ·
   exact sV l r _ k n (fun s hs' =>hs s (M7 _ hs')) h
theorem vv (l:List Int):Fits l (jw l):=by
 intro t n h
 unfold jw at h
 rw [NQ] at h
 obtain ⟨⟨c,m⟩,h1,h2⟩:=h
 cases h2
 exact sV l dh 1 c _ (by decide) h1
theorem yY (l:List Int): ∀ (ns:List (List Int × Int)) (k:Int) (n:Nat),(∀ s∈ns,s.1≠ [])→opL l ns=some (k,n)→0<n∧n≤l.length
 | [],_,_,_,h=>by cases h
 |(s,c)::r,k,n,hs,h=>by
  rw [opL] at h
  split at h
  ·
   rename_i he
   cases h
   have:=congrArg List.length he
   rw [Nj] at this
   have:=OJ.2 (hs _ MY)
   dsimp only at this
   omega
  ·
   exact yY l r k n (fun s hs' =>hs s (M7 _ hs')) h
theorem uM (l:List Int):Fits l (gx l):=by
 unfold gx
 split
 ·
  rename_i k n h
  have:=yY l dX k n (by decide) h
  exact .some this.1 this.2
 ·
  split
  ·
   exact .some (by omega) (kn (by assumption) (by decide))
  ·
   split
   ·
    exact .some (by omega) (kn (by assumption) (by decide))
   ·
    split
    ·
     exact .some (by omega) (kn (by assumption) (by decide))
    ·
     exact .none
theorem sK (l:List Int): ∀ rs:List (List Int→Option (Tk × Nat)),(∀ r∈rs,Fits l (r l))→Fits l (kO l rs)
 | [],_=> .none
 |r::rs,h=>by
  unfold kO
  split
  ·
   rename_i x hx
   exact hx ▸ h r MY
  ·
   exact sK l rs fun r hr=>h r (M7 _ hr)
theorem DX (l:List Int): ∀ r∈lu,Fits l (r l):=by
 intro r hr
 simp only [lu,M8,OZ,or_false] at hr
 rcases hr with rfl|rfl|rfl|rfl|rfl
 ·
  exact pT l
 ·
  exact DR l
 ·
  exact ux l
 ·
  exact vv l
 ·
  exact uM l
theorem ry (l:List Int):Fits l (dH l):=sK l _ (DX l)
theorem nF {tk:List Int→Option (Tk × Nat)} {l:List Int} (ht: ∀ m,Fits m (tk m)): ∀ (b d f i:Nat),d≤b→l.length - i=d→d≤f→aZ tk l f i=aZ tk l d i:=by
 intro b
 induction b with
 |zero=>
  intro d f i hb hd hf
  have:d=0:=by omega
  subst this
  cases f with
  |zero=>rfl
  |succ f=>
   simp only [aZ]
   rw [Nn (by omega)]
 |succ b ih=>
  intro d f i hb hd hf
  cases d with
  |zero=>
   cases f with
   |zero=>rfl
   |succ f=>
    simp only [aZ]
    rw [Nn (by omega)]
  |succ m=>
   obtain ⟨g,rfl⟩: ∃ g,f=g+1:=⟨f - 1,by omega⟩
   simp only [aZ]
   have hi:i<l.length:=by omega
   rw [M3 hi]
   dsimp only
   split
   ·
    exact ih m g (i+1) (by omega) (by omega) (by omega)
   ·
    split
    ·
     rfl
    ·
     rename_i t n hn
     have:=ht _ t n hn
     rw [ih (l.length - (i+n)) g (i+n) (by omega) rfl (by omega),ih (l.length - (i+n)) m (i+n) (by omega) rfl (by omega)]
def bF (tk:List Int→Option (Tk × Nat)) (l:List Int):List Tk × Int × Int:=
 if 256<l.length then ([],0,5)
 else match l.findIdx? (fun c=> !bn c) with
  |some i=>([],(i:Int),4)
  |none=>match aZ tk l l.length 0 with
   | .ok r=>(r,0,0)
   | .error i=>([],(i:Int),4)
def CL (A:Option Nat) (cap:Nat) (r:List Tk × Int × Int):Value:= .tuple #[sl A r.1.length cap,.int .i64 r.2.1,.int .i64 r.2.2]
def AY:List Nat:= [243,244,245,246,247]
theorem Jy (a:ByteArray) (ha:a.size≤10000) (i:Nat) (hi:i<a.size) (g:Nat) (k:Nat) (hk:k<5):
  ∃ f r,lu.drop k=r::lu.drop (k+1)∧(AY.map fun f=>Value.func (.func f) #[.pointer (some ⟨g,0,none⟩)] #[])[k]? =some (.func (.func f) #[.pointer (some ⟨g,0,none⟩)] #[])∧Callable Tryz.prog f∧
   ∀ w,Ro w g 0 [.string a]→Words w→ax Tryz.prog f [.pointer (some ⟨g,0,none⟩),.int .i64 (i:Int)] w (AO (atT i (r ((ap a).drop i)))):=by
 rcases (by omega:k=0∨k=1∨k=2∨k=3∨k=4) with rfl|rfl|rfl|rfl|rfl
 ·
  exact ⟨_,_,rfl,rfl,inferInstance,fun w hr _=>Em a (by omega) i (by omega) g w hr⟩
 ·
  exact ⟨_,_,rfl,rfl,inferInstance,fun w hr _=>Jr a (by omega) i hi g w hr⟩
 ·
  exact ⟨_,_,rfl,rfl,inferInstance,fun w hr _=>IQ a ha i hi g w hr⟩
 ·
  exact ⟨_,_,rfl,rfl,inferInstance,fun w hr hW=>JW a (by omega) i (by omega) g w hr hW⟩
 ·
  exact ⟨_,_,rfl,rfl,inferInstance,fun w hr _=>Jt a (by omega) i hi g w hr⟩
theorem lT {a:ByteArray} {q:Int→Bool} {i:Nat} (h:i<a.size) (hq:q (bat a i)=true) (hno: ∀ j,j<i→q (bat a j)=false):(ap a).findIdx? q=some i:=by
 rw [OE]
 have hl:=au a
 have hg: ∀ j (hj:j<(ap a).length),(ap a)[j]=bat a j:=fun j hj=>by
  have:=fF (a:=a) (i:=j) (by omega)
  rw [MV hj] at this
  exact Option.some.inj this
 refine ⟨by omega,by rw [hg];exact hq,fun j hj=> ?_⟩
 rw [hg,hno j hj];simp
theorem kJ {a:ByteArray} {q:Int→Bool} (hno: ∀ j,j<a.size→q (bat a j)=false):(ap a).findIdx? q=none:=by
 rw [Ov]
 intro x hx
 obtain ⟨j,hj,rfl⟩:=OW hx
 have hl:=au a
 have:=fF (a:=a) (i:=j) (by omega)
 rw [MV hj] at this
 rw [Option.some.inj this]
 exact hno j (by omega)
set_option maxHeartbeats 2000000 in
theorem E0 (a:ByteArray) (w:World) (hW:Words w):
  aQ Tryz.prog 203 [.string a] w fun v H=> ∃ A cap,v=CL A cap (bF dH (ap a))∧H= [.own A 295 8 (bF dH (ap a)).1.length cap ((bF dH (ap a)).1.flatMap aX)]:=by
 refine aq Tryz.func203 rfl Tryz.ntmps203 rfl ?_
 have hl:=au a
 unfold bF
 refine aI 295 8 ?_
 by_cases hlen:256<(ap a).length
 ·
  rw [if_pos hlen]
  repeat' (first|refine sT ?_|refine sS ?_|refine sT2 ?_|refine sM fun _=> ?_|(refine sC ?_ ?_<;>intro hb<;>try omega)|fail)
  all_goals try (exfalso;omega)
  exact mC (.inl rfl) rfl rfl rfl rfl (.refl _) ⟨none,0,rfl,rfl⟩
 ·
  rw [if_neg hlen]
  repeat' (first|refine sT ?_|refine sS ?_|refine sT2 ?_|refine sM fun _=> ?_|(refine sC ?_ ?_<;>intro hb<;>try omega)|fail)
  all_goals try (exfalso;omega)
  refine ay [0,2,17] rfl (fun i:Nat=> [(18,.int .i64 (i:Int))]) (fun _=> [.own none 295 8 0 0 []]) (fun i=>i≤a.size∧ ∀ j,j<i→bn (bat a j)=true) (fun i=>a.size - i) 0 ⟨by omega,fun j h=>by omega⟩ sB mS ?_
  rintro i ⟨hi,hpl⟩
  by_cases hlt:i<a.size
  ·
   repeat' (first|refine sT ?_|refine sS ?_|refine sT2 ?_|refine sN ?_|refine sM fun _=> ?_|(refine sC ?_ ?_<;>intro hb<;>try omega)|fail)
   ·
    have hf:(ap a).findIdx? (fun c=> !bn c)=some i:=by
     refine lT hlt ?_ fun j hj=>by rw [hpl j hj];rfl
     simp only [bn,Bool.not_eq_true',NU,decide_eq_false_iff_not]
     omega
    rw [hf]
    exact mC (.inl rfl) rfl rfl rfl rfl (.refl _) ⟨none,0,rfl,rfl⟩
   ·
    have hf:(ap a).findIdx? (fun c=> !bn c)=some i:=by
     refine lT hlt ?_ fun j hj=>by rw [hpl j hj];rfl
     simp only [bn,Bool.not_eq_true',NU,decide_eq_false_iff_not]
     omega
    rw [hf]
    exact mC (.inl rfl) rfl rfl rfl rfl (.refl _) ⟨none,0,rfl,rfl⟩
   ·
    refine ⟨i+1,?_,(by first|omega|(dsimp only;omega)),sB,sB,mS⟩
    refine ⟨hlt,fun j hj=> ?_⟩
    rcases (by omega:j<i∨j=i) with h|rfl
    ·
     exact hpl j h
    ·
     rename_i h1
     simp only [bn,M0,decide_eq_true_eq]
     omega
  ·
   have e:i=a.size:=by omega
   subst e
   have hf:(ap a).findIdx? (fun c=> !bn c)=none:=kJ fun j hj=>by rw [hpl j hj];rfl
   rw [hf]
   dsimp only
   repeat' (first|(apply aj;exact rfl;apply ky;exact rfl)|(apply Ah;(iterate 6 exact rfl))|refine sT ?_|refine sS ?_|refine sT2 ?_|refine sN ?_|refine sM fun _=> ?_|(refine sC ?_ ?_<;>intro hb<;>try omega)|fail)
   all_goals try (exfalso;omega)
   rename_i g6 g7
   generalize hT:aZ dH (ap a) (ap a).length 0=T
   refine ay [0,6,7] rfl (fun x:Nat × List Tk × Option Nat × Nat=> [(2,sl x.2.2.1 x.2.1.length x.2.2.2),(8,.int .i64 (x.1:Int))]) (fun x=> [.own x.2.2.1 295 8 x.2.1.length x.2.2.2 (x.2.1.flatMap aX),.box g7 336 (AY.map fun f=>Value.func (.func f) #[.pointer (some ⟨g6,0,none⟩)] #[]),.box g6 334 [.string a]])
    (fun x=>x.1≤a.size∧x.2.1.length≤x.1∧T=(aZ dH (ap a) (a.size - x.1) x.1).map (x.2.1++ ·)) (fun x=>a.size - x.1) (0,[],none,0) ⟨by omega,by simp,by rw [← hT,hl];cases aZ dH (ap a) a.size 0<;>rfl⟩ sB mS ?_
   rintro ⟨i,toks,A,cap⟩ ⟨hi2,hi3,hi4⟩
   dsimp only at hi2 hi3 hi4 ⊢
   by_cases hlt2:i<a.size
   ·
    obtain ⟨f,hf1⟩: ∃ f,a.size - i=f+1:=⟨a.size - i - 1,by omega⟩
    rw [hf1] at hi4
    simp only [aZ] at hi4
    have hdr:=aY hlt2
    generalize hld:(ap a).drop i=ld at hi4 hdr
    rw [hdr] at hi4
    dsimp only at hi4
    by_cases h32:bat a i=32
    ·
     rw [if_pos h32] at hi4
     repeat' (first|refine sT ?_|refine sS ?_|refine sT2 ?_|refine sN ?_|refine sM fun _=> ?_|(refine sC ?_ ?_<;>intro hb<;>try omega)|fail)
     all_goals try (exfalso;omega)
     refine ⟨(i+1,toks,A,cap),?_,(by first|omega|(dsimp only;omega)),sB,sB,mS⟩
     exact ⟨hlt2,by dsimp only;omega,by dsimp only;rw [show a.size - (i+1)=f by omega];exact hi4⟩
    ·
     rw [if_neg h32,← hdr] at hi4
     repeat' (first|refine sT ?_|refine sS ?_|refine sT2 ?_|refine sN ?_|refine sM fun _=> ?_|(refine sC ?_ ?_<;>intro hb<;>try omega)|fail)
     all_goals try (exfalso;omega)
     have hldl:ld.length=a.size - i:=by rw [← hld,M6,hl]
     refine ay [0,2,6,7,8,57] rfl (fun k:Nat=> [(58,.int .i64 (k:Int))]) (fun _=> [.own A 295 8 toks.length cap (toks.flatMap aX),.box g7 336 (AY.map fun f=>Value.func (.func f) #[.pointer (some ⟨g6,0,none⟩)] #[]),.box g6 334 [.string a]]) (fun k=>k≤5∧dH ld=kO ld (lu.drop k)) (fun k=>5 - k) 0 ⟨by omega,rfl⟩ sB mS ?_
     rintro k ⟨hk,hkt⟩
     by_cases hk5:k<5
     ·
      obtain ⟨f2,r,r1,r2,r3,r4⟩:=Jy a (by omega) i hlt2 g6 k hk5
      rw [hld] at r4
      rw [r1,kO] at hkt
      cases ho:r ld with
      |none=>
       rw [ho] at hkt r4
       dsimp only at hkt
       repeat' (first|(apply aj;exact rfl;apply lc;exact rfl;exact rfl;exact hk5;exact r2)|(apply oV;exact rfl;exact rfl;exact r3;exact rfl;(intro w' hm;exact r4 w' (Ro.of_box hm pK) (hW.next hm)))|refine sT ?_|refine sS ?_|refine sT2 ?_|refine sN ?_|refine sM fun _=> ?_|(refine sC ?_ ?_<;>intro hb<;>try omega)|fail)
       all_goals try (exfalso;omega)
       refine ⟨k+1,?_,(by first|omega|(dsimp only;omega)),sB,sB,mS⟩
       exact ⟨hk5,hkt⟩
      |some x=>
       obtain ⟨t,m⟩:=x
       rw [ho] at hkt r4
       dsimp only at hkt
       have hfit:=ry ld t m hkt
       rw [hkt] at hi4
       dsimp only at hi4
       have hm0:0<m:=hfit.1
       repeat' (first|(apply aj;exact rfl;apply lc;exact rfl;exact rfl;exact hk5;exact r2)|(apply oV;exact rfl;exact rfl;exact r3;exact rfl;(intro w' hm;exact r4 w' (Ro.of_box hm pK) (hW.next hm)))|(apply aM;(iterate 3 exact rfl);exact pK;exact pK;exact rfl;(simp [aX,Value.oneCell']);omega;(simp only [maxLen];omega);intro g8 c8)|refine sT ?_|refine sS ?_|refine sT2 ?_|refine sN ?_|refine sM fun _=> ?_|(refine sC ?_ ?_<;>intro hb<;>try omega)|fail)
       all_goals try (exfalso;omega)
       refine ⟨(i+m,toks++ [{ t with at_:=(i:Int) }],some g8,c8),⟨by dsimp only;omega,by simp;omega,?_⟩,(by dsimp only;omega),?_,sB,?_⟩
       ·
        dsimp only
        rw [hi4,nF ry f (a.size - (i+m)) f (i+m) (by omega) (by omega) (by omega)]
        cases aZ dH (ap a) (a.size - (i+m)) (i+m)<;>simp [Except.map]
       ·
        simp only [MT,MX]
        exact sB
       ·
        simp only [MT,MX,Nk,Nc,NB,M4]
        exact mS
     ·
      have e:k=5:=by omega
      subst e
      rw [show kO ld (lu.drop 5)=none from rfl] at hkt
      rw [hkt] at hi4
      dsimp only [Except.map] at hi4
      rw [hi4]
      refine aI 295 8 ?_
      repeat' (first|refine sT ?_|refine sS ?_|refine sT2 ?_|refine sN ?_|refine sM fun _=> ?_|(refine sC ?_ ?_<;>intro hb<;>try omega)|fail)
      all_goals try (exfalso;omega)
      exact mC (.inl rfl) rfl rfl rfl rfl (H' := [.own none 295 8 0 0 []]) mS ⟨none,0,rfl,rfl⟩
   ·
    have e:i=a.size:=by omega
    subst e
    rw [show a.size - a.size=0 by omega] at hi4
    simp only [aZ,Except.map,M4] at hi4
    rw [hi4]
    repeat' (first|refine sT ?_|refine sS ?_|refine sT2 ?_|refine sN ?_|refine sM fun _=> ?_|(refine sC ?_ ?_<;>intro hb<;>try omega)|fail)
    all_goals try (exfalso;omega)
    exact mC (.inl rfl) rfl rfl rfl rfl (H' := [.own A 295 8 toks.length cap (toks.flatMap aX)]) mS ⟨A,cap,rfl,rfl⟩
end Go.SL
namespace Go.SL
open Go Go.Proofs
attribute [local irreducible] W WL WQ WG WA VOp thn blk bi aQ FnIn
def cL:List ByteArray:= [
 ⟨#[65,66,83]⟩,⟨#[83,73,71,78]⟩,⟨#[73,78,84]⟩,⟨#[84,82,85,78,67]⟩,⟨#[82,79,85,78,68]⟩,
 ⟨#[77,79,68]⟩,⟨#[80,79,87,69,82]⟩,⟨#[83,81,82,84]⟩,⟨#[83,85,77]⟩,⟨#[80,82,79,68,85,67,84]⟩,
 ⟨#[67,79,85,78,84]⟩,⟨#[67,79,85,78,84,65]⟩,⟨#[67,79,85,78,84,66,76,65,78,75]⟩,⟨#[65,86,69,82,65,71,69]⟩,⟨#[77,73,78]⟩,
 ⟨#[77,65,88]⟩,⟨#[77,69,68,73,65,78]⟩,⟨#[76,65,82,71,69]⟩,⟨#[83,77,65,76,76]⟩,⟨#[73,70]⟩,
 ⟨#[65,78,68]⟩,⟨#[79,82]⟩,⟨#[88,79,82]⟩,⟨#[78,79,84]⟩,⟨#[73,70,69,82,82,79,82]⟩,
 ⟨#[73,83,69,82,82,79,82]⟩,⟨#[73,83,66,76,65,78,75]⟩,⟨#[73,83,78,85,77,66,69,82]⟩,⟨#[73,83,84,69,88,84]⟩,⟨#[67,72,79,79,83,69]⟩,
 ⟨#[76,69,78]⟩,⟨#[76,69,70,84]⟩,⟨#[82,73,71,72,84]⟩,⟨#[77,73,68]⟩,⟨#[85,80,80,69,82]⟩,
 ⟨#[76,79,87,69,82]⟩,⟨#[84,82,73,77]⟩,⟨#[67,79,78,67,65,84]⟩,⟨#[82,69,80,84]⟩,⟨#[69,88,65,67,84]⟩,
 ⟨#[70,73,78,68]⟩,⟨#[86,65,76,85,69]⟩,⟨#[73,78,68,69,88]⟩,⟨#[77,65,84,67,72]⟩,⟨#[67,79,85,78,84,73,70]⟩,
 ⟨#[68,83,85,77]⟩,⟨#[68,67,79,85,78,84]⟩,⟨#[68,65,86,71]⟩,⟨#[68,77,73,78]⟩,⟨#[68,77,65,88]⟩]
theorem GD (w:World):ax Tryz.prog 374 [] w (.agg (cL.map Value.string).toArray):=by
 refine aq Tryz.func374 rfl Tryz.ntmps374 rfl ?_
 repeat' (first|(apply xE;(iterate 5 exact rfl))|refine sT ?_|refine sM fun _=> ?_|(refine sC ?_ ?_<;>intro hb<;>try omega)|fail)
 exact wA (.inl rfl) Tryz.results374 rfl .hd rfl (MSub.nil _) rfl
theorem Ro.str1 {w:World} {g o:Nat} {L:List ByteArray} (h:Ro w g o (L.map Value.string)) (i:Nat) (hi:i<L.length):Ro w g (o+i*1) [Value.string L[i]]:=by
 have h1:=(h.drop (k:=i)).take (k:=1)
 rw [← List.map_drop,← List.map_take,M3 hi] at h1
 rw [OP]
 exact h1
def dw:List ByteArray→ByteArray→Int→Int
 | [],_,_=> -1
 |a::r,s,i=>if s=a then i else dw r s (i+1)
theorem ID (L:List ByteArray) (b:ByteArray) (tv:Value) (w:World) (ht:Reads w tv L.length (L.map Value.string)):ax Tryz.prog 375 [tv,.string b] w (.int .i64 (dw L b 0)):=by
 obtain ⟨Al,cl,rfl,hl1,hl2,hl3⟩:=ht
 refine aq Tryz.func375 rfl Tryz.ntmps375 rfl ?_
 repeat' (first|refine sT ?_|refine sM fun _=> ?_|(refine sC ?_ ?_<;>intro hb<;>try omega)|fail)
 refine fT (fun i:Nat=> [(0,.slice Al L.length cl),(1,.string b),(7,.int .i64 (L.length:Int)),(8,.int .i64 (i:Int))]) (fun _=> []) (fun i=>i≤L.length∧dw L b 0=dw (L.drop i) b (i:Int)) (fun i=>L.length - i) 0 ⟨by omega,rfl⟩ ?_ ?_ ?_
 ·
  exact sB
 ·
  exact mS
 ·
  rintro i ⟨hi,hrec⟩
  by_cases hlt:i<L.length
  ·
   obtain ⟨gl,ol,rfl,hrl⟩:=hl3 (by omega)
   have he:=hrl.str1 i hlt
   rw [M3 hlt,dw] at hrec
   repeat' (first|(apply aj;exact rfl;apply ak;exact rfl;exact rfl;exact hlt)|(apply aj;exact rfl;apply kz;exact rfl;exact he)|(apply aj;exact rfl;apply iJ;exact rfl;exact rfl;(simp only [maxLen] at*;omega))|refine sT ?_|refine sM fun _=> ?_|(refine sC ?_ ?_<;>intro hb<;>try omega)|fail)
   ·
    (refine rT1 ?_)
    rw [hrec,if_pos hb]
   ·
    refine ⟨i+1,⟨by omega,?_⟩,by omega,?_,?_⟩
    ·
     rw [hrec,if_neg hb]
     rfl
    ·
     exact sB
    ·
     exact mS
  ·
   have e:i=L.length:=by omega
   subst e
   repeat' (first|refine sT ?_|refine sM fun _=> ?_|(refine sC ?_ ?_<;>intro hb<;>try omega)|fail)
   (refine rT1 ?_)
   rw [hrec,ND,dw]
theorem gY:cL.length=50:=rfl
theorem ia (L:List ByteArray) (b:ByteArray) (i:Int) (h:0≤i):dw L b i= -1∨(i≤dw L b i∧dw L b i<i+L.length):=by
 induction L generalizing i with
 |nil=>exact .inl rfl
 |cons a r ih=>
  unfold dw
  rw [Nq]
  split
  ·
   right;omega
  ·
   rcases ih (i+1) (by omega) with h1|h1
   ·
    exact .inl h1
   ·
    right;omega
def aW (b:ByteArray):Int × Int:=if dw cL b 0<0 then (0,6) else (dw cL b 0+1,0)
theorem zY (b:ByteArray) (w:World):ax Tryz.prog 363 [.string b] w (.tuple #[.int .u8 (aW b).1,.int .i64 (aW b).2]):=by
 refine aq Tryz.func363 rfl Tryz.ntmps363 rfl ?_
 have hb1:=ia cL b 0 (by omega)
 rw [gY] at hb1
 have hix:=fun w tv (h:Reads w tv (cL.map Value.string).length (cL.map Value.string))=>ID cL b tv w h
 unfold aW
 generalize dw cL b 0=r at hb1 hix
 repeat' (first|(apply aa;exact rfl;exact rfl;(intro w hm;exact GD w))|(apply aj;exact rfl;apply xK;exact rfl)|(apply aa;exact rfl;exact rfl;(intro w' hm;exact hix w' _ (Reads.of_box hm pK rfl)))|(apply aj;exact rfl;apply dA;exact rfl;exact rfl;exact I64.wrap ⟨by omega,by omega⟩)|(apply aj;exact rfl;apply uI;exact rfl;exact dV (by omega) (by omega))|refine sT ?_|refine sM fun _=> ?_|(refine sC ?_ ?_<;>intro hb<;>try omega)|fail)
 ·
  refine iA (.inl rfl) Tryz.results363 rfl rfl (.nil _) ?_
  rw [if_pos hb]
 ·
  refine iA (.inl rfl) Tryz.results363 rfl rfl (.nil _) ?_
  rw [if_neg (by omega)]
def fu (fn:Int):ByteArray:=if 51≤fn then av else (av::cL).getD fn.toNat av
theorem wrap_i64 {a:Int} (h1:0≤a) (h2:a≤255):IntKind.i64.wrap a=a:=I64.wrap ⟨by omega,by omega⟩
theorem kE (fn:Int) (h0:0≤fn) (h1:fn≤255) (w:World):ax Tryz.prog 344 [.int .u8 fn] w (.string (fu fn)):=by
 obtain ⟨j,rfl⟩:=Pq h0
 refine aq Tryz.func344 rfl Tryz.ntmps344 rfl ?_
 have hg: ∀ h:j<51,((av::cL).map Value.string)[0+j*1]? =some (.string ((av::cL).getD j av)):=by
  intro h
  have:j<(av::cL).length:=h
  rw [show 0+j*1=j by omega]
  simp only [NY,Ni,MV this]
  rfl
 repeat' (first|(apply aj;exact rfl;apply uI;exact rfl;exact wrap_i64 h0 h1)|(apply aj;exact rfl;apply ak (j:=j);exact rfl;exact rfl;omega)|(apply aj;exact rfl;apply bT;exact rfl;exact pK;exact hg (by omega))|refine sT ?_|refine sM fun _=> ?_|(refine sC ?_ ?_<;>intro hb<;>try omega)|fail)
 ·
  (refine rT1 ?_)
  rw [fu,if_pos (by omega)]
  rfl
 ·
  (refine rT1 ?_)
  rw [fu,if_neg (by omega)]
  rfl
theorem yz {i:Nat} (h:i<50):fu ((i:Int)+1)=cL[i]'h:=by
 have h2:i<cL.length:=h
 rw [fu,if_neg (by omega),show ((i:Int)+1).toNat=i+1 by omega]
 simp [h2]
 rfl
theorem rL (b:ByteArray) (w:World):ax Tryz.prog 370 [.string b] w (.tuple #[.int .u8 (aW b).1,.int .i64 (aW b).2]):=by
 refine aq Tryz.func370 rfl Tryz.ntmps370 rfl ?_
 repeat' (first|refine sT ?_|refine sM fun _=> ?_|(refine sC ?_ ?_<;>intro hb<;>try omega)|fail)
 refine fT (fun i:Nat=> [(0,.string b),(4,.int .u8 ((i:Int)+1))]) (fun _=> []) (fun i=>i≤50∧dw cL b 0=dw (cL.drop i) b (i:Int)) (fun i=>50 - i) 0 ⟨by omega,rfl⟩ ?_ ?_ ?_
 ·
  exact sB
 ·
  exact mS
 ·
  rintro i ⟨hi,hrec⟩
  by_cases hlt:i<50
  ·
   have hl:i<cL.length:=hlt
   have hr: ∀ w,ax Tryz.prog 344 [.int .u8 ((i:Int)+1)] w (.string (cL[i]'hl)):=fun w=>yz hlt ▸ kE _ (by omega) (by omega) w
   rw [M3 hl,dw] at hrec
   repeat' (first|(apply aa;exact rfl;exact rfl;(intro w hm;exact hr w))|(apply aj;exact rfl;apply dA (c:=((i+1:Nat):Int)+1);exact rfl;exact rfl;exact dV (by omega) (by omega))|refine sT ?_|refine sM fun _=> ?_|(refine sC ?_ ?_<;>intro hb<;>try omega)|fail)
   ·
    refine iA (.inl rfl) Tryz.results370 rfl rfl (.nil _) ?_
    rw [aW,hrec,if_pos hb.symm,if_neg (by omega)]
   ·
    refine ⟨i+1,⟨by omega,?_⟩,by omega,?_,?_⟩
    ·
     rw [hrec,if_neg (fun h=>hb h.symm)]
     rfl
    ·
     exact sB
    ·
     exact mS
  ·
   have e:i=50:=by omega
   subst e
   repeat' (first|refine sT ?_|refine sM fun _=> ?_|(refine sC ?_ ?_<;>intro hb<;>try omega)|fail)
   refine iA (.inl rfl) Tryz.results370 rfl rfl (.nil _) ?_
   rw [aW,hrec]
   rfl
def bB (fn:Int):Int × Int:=
 if fn=5∨fn=6∨fn=7∨fn=25∨fn=39∨fn=40∨fn=18∨fn=19∨fn=45∨fn=44 then (2,2)
 else if fn=20∨fn=41∨fn=43 then (2,3)
 else if fn=32∨fn=33 then (1,2)
 else if fn=34 then (3,3)
 else if fn=21∨fn=22∨fn=23∨fn=38∨fn=9∨fn=10∨fn=11∨fn=12∨fn=14∨fn=15∨fn=16∨fn=17 then (1,16)
 else if fn=30 then (2,16)
 else (1,1)
set_option maxRecDepth 10000 in
theorem jq (fn:Int) (w:World):ax Tryz.prog 345 [.int .u8 fn] w (.tuple #[.int .i64 (bB fn).1,.int .i64 (bB fn).2]):=by
 refine aq Tryz.func345 rfl Tryz.ntmps345 rfl ?_
 repeat' (first|refine sT ?_|refine sM fun _=> ?_|(refine sC ?_ ?_<;>intro hb<;>try omega)|fail)
 all_goals ((refine rT2 ?_);simp_all [bB])
def eC (fn i:Int):Bool:=
 if i<0∨(bB fn).2≤i then false
 else if fn=9∨fn=10∨fn=11∨fn=12∨fn=14∨fn=15∨fn=16∨fn=17 then true
 else if fn=13∨fn=18∨fn=19∨fn=45∨fn=43 then decide (i=0)
 else if fn=44 then decide (i=1)
 else decide (46≤fn) && decide (fn≤50)
set_option maxRecDepth 10000 in
theorem rJ (fn i:Int) (w:World):ax Tryz.prog 360 [.int .u8 fn,.int .i64 i] w (.bool (eC fn i)):=by
 refine aq Tryz.func360 rfl Tryz.ntmps360 rfl ?_
 repeat' (first|(apply aa;exact rfl;exact rfl;(intro w hm;exact jq fn w))|refine sT ?_|refine sM fun _=> ?_|(refine sC ?_ ?_<;>intro hb<;>try omega)|fail)
 all_goals ((refine rT1 ?_);((try simp only [← Int.not_lt] at*);simp_all [eC, -Int.not_lt, -Int.not_le,← Int.not_lt]))
theorem GA: ∀ j,j<50→cL.getD j av≠av∧aW (cL.getD j av)=((j:Int)+1,0):=by decide+kernel
theorem jz {fn:Int} (h:cM fn=true):dY fn=((bB fn).1,(bB fn).2,0):=by
 unfold dY bB
 (repeat' split)<;>simp_all
theorem mQ {fn:Int} (h:cM fn=false):dY fn=(0,0,10):=by
 simp only [cM,NU,decide_eq_false_iff_not] at h
 have hk:cM fn=false:=by simp only [cM,NU,decide_eq_false_iff_not];exact h
 unfold dY
 (repeat' split)<;>first|(exfalso;omega)|(simp_all;done)|rfl
theorem qQ {fn:Int} (h:cM fn=true) (i:Int):i9 fn i=(eC fn i,if i<0∨(bB fn).2≤i then 3 else 0):=by
 unfold i9 eC
 rw [jz h]
 simp only [ne_eq,not_true_eq_false,if_false]
 by_cases h1:i<0∨(bB fn).2≤i
 ·
  simp only [if_pos h1]
 ·
  simp only [if_neg h1]
  by_cases h2:fn=9∨fn=10∨fn=11∨fn=12∨fn=14∨fn=15∨fn=16∨fn=17
  ·
   simp only [if_pos h2]
  ·
   simp only [if_neg h2]
   by_cases h3:fn=44
   ·
    subst h3
    simp
   ·
    simp only [if_neg h3]
    by_cases h4:fn=18∨fn=19∨fn=45∨fn=43∨fn=13
    ·
     rw [if_pos h4,if_pos (by omega)]
    ·
     rw [if_neg h4,if_neg (by omega)]
     rfl
end Go.SL
namespace Go.SL
open Go
def fJ (op:Int):Int:=
 if 7≤op∧op≤12 then 1 else if op=6 then 2 else if op=1∨op=2 then 3 else if op=3∨op=4 then 4 else if op=5 then 6 else if op=13 then 7 else 0
structure PS where
 l:List Tk
 out:List Nd
def hdT (fin:Int) (l:List Tk):Tk:=l.headD { cK with at_:=fin }
def PS.skip (p:PS):PS:=⟨p.l.tail,p.out⟩
def PS.put (p:PS) (n:Nd):PS:=⟨p.l,p.out++ [n]⟩
inductive Job where
 |level (k:Int)
 |loop (k:Int)
 |sign
 |pct
 |pctl
 |prim
 |args (fn:Int) (n:Nat)
abbrev Out:=Except (Int × Int) (Nat × PS)
def dr (kind op:Int):Nd:=⟨kind,bD,aL,op,0,0⟩
def fq (r:Option Out) (k:Nat→PS→Option Out):Option Out:=
 match r with
 |some (.ok (n,p))=>k n p
 |r=>r
def kK (t:Tk):Nd:=
 ⟨1,if t.kind=1 then ⟨1,t.num,av⟩ else if t.kind=2 then ⟨3,0,t.text⟩ else if t.kind=3 then ⟨2,t.num,av⟩ else ⟨4,t.num,av⟩,aL,0,0,0⟩
def cZ (fin:Int) (name:Tk) (fn:Int) (n:Nat) (p:PS):Option Out:=
 let t:=hdT fin p.l
 if t.kind≠10 then some (.error (t.at_,4))
 else if (n:Int)<(dY fn).1∨(dY fn).2.1<(n:Int) then some (.error (name.at_,11))
 else if 46≤fn∧(p.out.getLast?.map fun x=>decide (x.kind=2∨x.kind=3))≠some true then some (.error (name.at_,4))
 else some (.ok (0,p.skip.put ⟨7,bD,aL,0,fn,n⟩))
def bu (fin:Int):Nat→Job→PS→Option Out
 |0,_,_=>none
 |f+1,.level k,p=>if k=5 then bu fin f .sign p else fq (bu fin f (.level (k+1)) p) fun _ p=>bu fin f (.loop k) p
 |f+1,.loop k,p=>
  let t:=hdT fin p.l
  if t.kind=8∧fJ t.num=k then fq (bu fin f (.level (k+1)) p.skip) fun _ p=>bu fin f (.loop k) (p.put (dr 6 t.num))
  else some (.ok (0,p))
 |f+1,.sign,p=>
  let t:=hdT fin p.l
  if t.kind=8∧t.num=2 then fq (bu fin f .sign p.skip) fun _ p=>some (.ok (0,p.put (dr 4 0)))
  else fq (bu fin f .pct p) fun _ p=>
   let u:=hdT fin p.l
   if u.kind=8∧u.num=5 then fq (bu fin f .sign p.skip) fun _ p=>some (.ok (0,p.put (dr 6 5)))
   else some (.ok (0,p))
 |f+1,.pct,p=>fq (bu fin f .prim p) fun _ p=>bu fin f .pctl p
 |f+1,.pctl,p=>
  let t:=hdT fin p.l
  if t.kind=8∧t.num=13 then bu fin f .pctl (p.skip.put (dr 5 0)) else some (.ok (0,p))
 |f+1,.prim,p=>
  let t:=hdT fin p.l
  if 1≤t.kind∧t.kind≤4 then some (.ok (0,p.skip.put (kK t)))
  else if t.kind=5 then some (.ok (0,p.skip.put ⟨2,bD,t.rect,0,0,0⟩))
  else if t.kind=9 then fq (bu fin f (.level 1) p.skip) fun _ p=>
   let u:=hdT fin p.l
   if u.kind≠10 then some (.error (u.at_,4)) else some (.ok (0,p.skip))
  else if t.kind=7 then
   if (aW t.text).2≠0 then some (.error (t.at_,10))
   else
    let u:=hdT fin p.skip.l
    if u.kind≠9 then some (.error (u.at_,4))
    else if (hdT fin p.skip.skip.l).kind=10 then cZ fin t (aW t.text).1 0 p.skip.skip
    else fq (bu fin f (.args (aW t.text).1 0) p.skip.skip) fun n p=>cZ fin t (aW t.text).1 n p
  else some (.error (t.at_,4))
 |f+1,.args fn n,p=>
  let t:=hdT fin p.l
  let go:=fun (p:PS)=>if (hdT fin p.l).kind=11 then bu fin f (.args fn (n+1)) p.skip else some (.ok (n+1,p))
  if t.kind≠6 then fq (bu fin f (.level 1) p) fun _ p=>go p
  else if (i9 fn n).1=false∨(i9 fn n).2≠0 then some (.error (t.at_,4))
  else go (p.skip.put ⟨3,bD,t.rect,0,0,0⟩)
end Go.SL
