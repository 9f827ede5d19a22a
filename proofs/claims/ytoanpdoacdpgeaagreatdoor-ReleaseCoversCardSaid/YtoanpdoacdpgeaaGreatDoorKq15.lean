/-
  Lemmas and walks, put together: B5 C7 Lq D2 Oq Gp G1 Ex Lr R1 R4.
-/
import Derived.Test.YtoanpdoacdpgeaaGreatDoorKq14
set_option linter.unusedSimpArgs false
set_option linter.unusedVariables false
set_option maxRecDepth 20000
namespace Go.SL
open Go Go.Proofs
attribute [local irreducible] W WL WQ WG WA WX WLI WR WT VOp thn blk bE scp aV bI aK FnIn
def mN:List (List Int→Option (Tk × Nat)):= [fB,mK,gD,kw,gU]
def l7 (l:List Int):List (List Int→Option (Tk × Nat))→Option (Tk × Nat)
 | []=>none
 |r::rs=>match r l with
  |some x=>some x
  |none=>l7 l rs
def db (l:List Int):Option (Tk × Nat):=l7 l mN
def bk (tk:List Int→Option (Tk × Nat)) (l:List Int):Nat→Nat→Except Nat (List Tk)
 |0,_=> .ok []
 |f+1,i=>
  match l.drop i with
  | []=> .ok []
  |c::_=>
   if c=32 then bk tk l f (i+1)
   else match tk (l.drop i) with
    |none=> .error i
    |some (t,n)=>(bk tk l f (i+n)).map fun r=>{ t with at_:=(i:Int) }::r
def Fits (l:List Int) (o:Option (Tk × Nat)):Prop:= ∀ t n,o=some (t,n)→0<n∧n≤l.length
theorem Fits.none {l:List Int}:Fits l none:=fun _ _ h=>by cases h
theorem Fits.some {l:List Int} {t:Tk} {n:Nat} (h1:0<n) (h2:n≤l.length):Fits l (some (t,n)):=fun _ _ h=>by cases h;exact ⟨h1,h2⟩
theorem lB {l:List Int} {c:Int} (h:l.headD 0=c) (hc:c≠0):0<l.length:=by
 cases l with
 |nil=>exact absurd h.symm hc
 |cons=>simp
theorem Ec (l:List Int):bZ l=0∨bZ l+1≤l.length:=by
 unfold bZ
 split
 ·
  right
  rename_i r
  have:=bY aF r
  simp;omega
 ·
  left;rfl
theorem sF (l:List Int):Fits l (fB l):=by
 unfold fB
 dsimp only
 have h1:=bY aF l
 have h2:=Ec (l.drop (aC aF l))
 rw [Rk] at h2
 have h3:(if bZ (l.drop (aC aF l))=0 then aC aF l else aC aF l+1+bZ (l.drop (aC aF l)))≤l.length∧aC aF l≤(if bZ (l.drop (aC aF l))=0 then aC aF l else aC aF l+1+bZ (l.drop (aC aF l))):=by
  split<;>omega
 generalize (if bZ (l.drop (aC aF l))=0 then aC aF l else aC aF l+1+bZ (l.drop (aC aF l)))=m at h3 ⊢
 split
 ·
  exact .none
 ·
  rename_i h
  split
  ·
   exact .none
  ·
   exact .some (by omega) (by omega)
theorem oz: ∀ (n:Nat) (l:List Int) (k:Nat),l.length≤n→cF l=some k→k<l.length
 |_,[],_,_,h=>by simp [cF] at h
 |0,c::r,_,hn,_=>by simp at hn
 |n+1,c::r,k,hn,h=>by
  by_cases hc:c=34
  ·
   subst hc
   cases r with
   |nil=>simp [cF] at h;subst h;simp
   |cons d r' =>
    by_cases hd:d=34
    ·
     subst hd
     simp only [cF,ne_eq,not_true_eq_false,if_false,if_true,Sa] at h
     obtain ⟨j,hj,rfl⟩:=h
     have:=oz n r' j (by simp at hn;omega) hj
     simp;omega
    ·
     simp [cF,hd] at h
     subst h;simp
  ·
   rw [ky hc,Sa] at h
   obtain ⟨j,hj,rfl⟩:=h
   have:=oz n r j (by simp at hn;omega) hj
   simp;omega
theorem G8 (l:List Int):Fits l (mK l):=by
 unfold mK
 split
 ·
  exact .none
 ·
  rename_i h
  have h0:=lB (c:=34) (Decidable.not_not.1 h) (by decide)
  split
  ·
   exact .none
  ·
   rename_i k hk
   have:=oz _ _ k (QV _) hk
   rw [Rk] at this
   split
   ·
    exact .none
   ·
    exact .some (by omega) (by omega)
theorem wZ (l:List Int):Fits l (gD l):=by
 have h1:=bY cN l
 have h2:=bY cN (l.drop (aC cN l+1))
 rw [Rk] at h2
 have hpos:bV (l.headD 0)≠false→0<aC cN l:=fun h=>by
  cases l with
  |nil=>exact absurd rfl h
  |cons c r=>
   have:bV c=true:=by simpa using h
   simp [aC,cN,this]
 unfold gD
 split
 ·
  exact .none
 ·
  rename_i h
  have hp:=hpos h
  split
  ·
   exact .some hp h1
  ·
   split
   ·
    exact .some hp h1
   ·
    split
    ·
     exact .some hp h1
    ·
     split
     ·
      exact .none
     ·
      split
      ·
       rename_i hq
       have:=lB hq.1 (by decide)
       rw [Rk] at this
       exact .some (by omega) (by omega)
      ·
       exact .some hp h1
theorem wg (l:List Int): ∀ (ns:List (List Int)) (c k:Int) (n:Nat),(∀ s∈ns,s≠ [])→jU l ns c=some (k,n)→0<n∧n≤l.length
 | [],_,_,_,_,h=>by cases h
 |s::r,c,k,n,hs,h=>by
  rw [jU] at h
  split at h
  ·
   rename_i he
   cases h
   have:=congrArg List.length he
   rw [RN,Rq] at this
   have:=Sx.2 (hs s QT)
   omega
  ·
   exact wg l r _ k n (fun s hs' =>hs s (Rc _ hs')) h
theorem xY (l:List Int):Fits l (kw l):=by
 intro t n h
 unfold kw at h
 rw [Sa] at h
 obtain ⟨⟨c,m⟩,h1,h2⟩:=h
 cases h2
 exact wg l dI 1 c _ (by decide) h1
theorem BD (l:List Int): ∀ (ns:List (List Int × Int)) (k:Int) (n:Nat),(∀ s∈ns,s.1≠ [])→opL l ns=some (k,n)→0<n∧n≤l.length
 | [],_,_,_,h=>by cases h
 |(s,c)::r,k,n,hs,h=>by
  rw [opL] at h
  split at h
  ·
   rename_i he
   cases h
   have:=congrArg List.length he
   rw [Rq] at this
   have:=Sx.2 (hs _ QT)
   dsimp only at this
   omega
  ·
   exact BD l r k n (fun s hs' =>hs s (Rc _ hs')) h
theorem xw (l:List Int):Fits l (gU l):=by
 unfold gU
 split
 ·
  rename_i k n h
  have:=BD l eO k n (by decide) h
  exact .some this.1 this.2
 ·
  split
  ·
   exact .some (by omega) (lB (by assumption) (by decide))
  ·
   split
   ·
    exact .some (by omega) (lB (by assumption) (by decide))
   ·
    split
    ·
     exact .some (by omega) (lB (by assumption) (by decide))
    ·
     exact .none
theorem v6 (l:List Int): ∀ rs:List (List Int→Option (Tk × Nat)),(∀ r∈rs,Fits l (r l))→Fits l (l7 l rs)
 | [],_=> .none
 |r::rs,h=>by
  unfold l7
  split
  ·
   rename_i x hx
   exact hx ▸ h r QT
  ·
   exact v6 l rs fun r hr=>h r (Rc _ hr)
theorem Hx (l:List Int): ∀ r∈mN,Fits l (r l):=by
 intro r hr
 simp only [mN,Rd,S0,or_false] at hr
 rcases hr with rfl|rfl|rfl|rfl|rfl
 ·
  exact sF l
 ·
  exact G8 l
 ·
  exact wZ l
 ·
  exact xY l
 ·
  exact xw l
theorem uK (l:List Int):Fits l (db l):=v6 l _ (Hx l)
theorem p6 {tk:List Int→Option (Tk × Nat)} {l:List Int} (ht: ∀ m,Fits m (tk m)): ∀ (b d f i:Nat),d≤b→l.length - i=d→d≤f→bk tk l f i=bk tk l d i:=by
 intro b
 induction b with
 |zero=>
  intro d f i hb hd hf
  have:d=0:=by omega
  subst this
  cases f with
  |zero=>rfl
  |succ f=>
   simp only [bk]
   rw [Ry (by omega)]
 |succ b ih=>
  intro d f i hb hd hf
  cases d with
  |zero=>
   cases f with
   |zero=>rfl
   |succ f=>
    simp only [bk]
    rw [Ry (by omega)]
  |succ m=>
   obtain ⟨g,rfl⟩: ∃ g,f=g+1:=⟨f - 1,by omega⟩
   simp only [bk]
   have hi:i<l.length:=by omega
   rw [QY hi]
   dsimp only
   split
   ·
    exact ih m g (i+1) (by omega) (by omega) (by omega)
   ·
    split
    ·
     rfl
    ·
     rename_i t n hn
     have:=ht _ t n hn
     rw [ih (l.length - (i+n)) g (i+n) (by omega) rfl (by omega),ih (l.length - (i+n)) m (i+n) (by omega) rfl (by omega)]
def bC (tk:List Int→Option (Tk × Nat)) (l:List Int):List Tk × Int × Int:=
 if 256<l.length then ([],0,5)
 else match l.findIdx? (fun c=> !bA c) with
  |some i=>([],(i:Int),4)
  |none=>match bk tk l l.length 0 with
   | .ok r=>(r,0,0)
   | .error i=>([],(i:Int),4)
def FO (A:Option Nat) (cap:Nat) (r:List Tk × Int × Int):Value:= .tuple #[sl A r.1.length cap,.int .i64 r.2.1,.int .i64 r.2.2]
def DM:List Nat:= [221,222,223,224,225]
theorem MY (a:ByteArray) (ha:a.size≤10000) (i:Nat) (hi:i<a.size) (g:Nat) (k:Nat) (hk:k<5):
  ∃ f r,mN.drop k=r::mN.drop (k+1)∧(DM.map fun f=>Value.func (.func f) #[.pointer (some ⟨g,0,none⟩)] #[])[k]? =some (.func (.func f) #[.pointer (some ⟨g,0,none⟩)] #[])∧Callable Tryz.prog f∧
   ∀ w,Ro w g 0 [.string a]→Words w→ay Tryz.prog f [.pointer (some ⟨g,0,none⟩),.int .i64 (i:Int)] w (DB (atT i (r ((ap a).drop i)))):=by
 rcases (by omega:k=0∨k=1∨k=2∨k=3∨k=4) with rfl|rfl|rfl|rfl|rfl
 ·
  exact ⟨_,_,rfl,rfl,inferInstance,fun w hr _=>HZ a (by omega) i (by omega) g w hr⟩
 ·
  exact ⟨_,_,rfl,rfl,inferInstance,fun w hr _=>MR a (by omega) i hi g w hr⟩
 ·
  exact ⟨_,_,rfl,rfl,inferInstance,fun w hr _=>Mi a ha i hi g w hr⟩
 ·
  exact ⟨_,_,rfl,rfl,inferInstance,fun w hr hW=>NC a (by omega) i (by omega) g w hr hW⟩
 ·
  exact ⟨_,_,rfl,rfl,inferInstance,fun w hr _=>MU a (by omega) i hi g w hr⟩
theorem nF {a:ByteArray} {q:Int→Bool} {i:Nat} (h:i<a.size) (hq:q (bat a i)=true) (hno: ∀ j,j<i→q (bat a j)=false):(ap a).findIdx? q=some i:=by
 rw [SP]
 have hl:=au a
 have hg: ∀ j (hj:j<(ap a).length),(ap a)[j]=bat a j:=fun j hj=>by
  have:=fW (a:=a) (i:=j) (by omega)
  rw [QQ hj] at this
  exact Option.some.inj this
 refine ⟨by omega,by rw [hg];exact hq,fun j hj=> ?_⟩
 rw [hg,hno j hj];simp
theorem lX {a:ByteArray} {q:Int→Bool} (hno: ∀ j,j<a.size→q (bat a j)=false):(ap a).findIdx? q=none:=by
 rw [SG]
 intro x hx
 obtain ⟨j,hj,rfl⟩:=SJ hx
 have hl:=au a
 have:=fW (a:=a) (i:=j) (by omega)
 rw [QQ hj] at this
 rw [Option.some.inj this]
 exact hno j (by omega)
set_option maxHeartbeats 2000000 in
theorem I7 (a:ByteArray) (w:World) (hW:Words w):
  aK Tryz.prog 174 [.string a] w fun v H=> ∃ A cap,v=FO A cap (bC db (ap a))∧H= [.own A 228 8 (bC db (ap a)).1.length cap ((bC db (ap a)).1.flatMap bg)]:=by
 refine aq Tryz.func174 rfl Tryz.ntmps174 rfl ?_
 have hl:=au a
 unfold bC
 refine aH 228 8 ?_
 by_cases hlen:256<(ap a).length
 ·
  rw [if_pos hlen]
  repeat' (first|refine sT ?_|refine sS ?_|refine sT2 ?_|refine sM fun _=> ?_|(refine sC ?_ ?_<;>intro hb<;>try omega)|fail)
  all_goals try (exfalso;omega)
  exact oD (.inl rfl) rfl rfl rfl rfl (.refl _) ⟨none,0,rfl,rfl⟩
 ·
  rw [if_neg hlen]
  repeat' (first|refine sT ?_|refine sS ?_|refine sT2 ?_|refine sM fun _=> ?_|(refine sC ?_ ?_<;>intro hb<;>try omega)|fail)
  all_goals try (exfalso;omega)
  refine ax [0,2,17] rfl (fun i:Nat=> [(18,.int .i64 (i:Int))]) (fun _=> [.own none 228 8 0 0 []]) (fun i=>i≤a.size∧ ∀ j,j<i→bA (bat a j)=true) (fun i=>a.size - i) 0 ⟨by omega,fun j h=>by omega⟩ sB mS ?_
  rintro i ⟨hi,hpl⟩
  by_cases hlt:i<a.size
  ·
   repeat' (first|refine sT ?_|refine sS ?_|refine sT2 ?_|refine sN ?_|refine sM fun _=> ?_|(refine sC ?_ ?_<;>intro hb<;>try omega)|fail)
   ·
    have hf:(ap a).findIdx? (fun c=> !bA c)=some i:=by
     refine nF hlt ?_ fun j hj=>by rw [hpl j hj];rfl
     simp only [bA,Bool.not_eq_true',Sk,decide_eq_false_iff_not]
     omega
    rw [hf]
    exact oD (.inl rfl) rfl rfl rfl rfl (.refl _) ⟨none,0,rfl,rfl⟩
   ·
    have hf:(ap a).findIdx? (fun c=> !bA c)=some i:=by
     refine nF hlt ?_ fun j hj=>by rw [hpl j hj];rfl
     simp only [bA,Bool.not_eq_true',Sk,decide_eq_false_iff_not]
     omega
    rw [hf]
    exact oD (.inl rfl) rfl rfl rfl rfl (.refl _) ⟨none,0,rfl,rfl⟩
   ·
    refine ⟨i+1,?_,(by first|omega|(dsimp only;omega)),sB,sB,mS⟩
    refine ⟨hlt,fun j hj=> ?_⟩
    rcases (by omega:j<i∨j=i) with h|rfl
    ·
     exact hpl j h
    ·
     rename_i h1
     simp only [bA,QZ,decide_eq_true_eq]
     omega
  ·
   have e:i=a.size:=by omega
   subst e
   have hf:(ap a).findIdx? (fun c=> !bA c)=none:=lX fun j hj=>by rw [hpl j hj];rfl
   rw [hf]
   dsimp only
   repeat' (first|(apply ak;exact rfl;apply lK;exact rfl)|(apply Dc;(iterate 6 exact rfl))|refine sT ?_|refine sS ?_|refine sT2 ?_|refine sN ?_|refine sM fun _=> ?_|(refine sC ?_ ?_<;>intro hb<;>try omega)|fail)
   all_goals try (exfalso;omega)
   rename_i g6 g7
   generalize hT:bk db (ap a) (ap a).length 0=T
   refine ax [0,6,7] rfl (fun x:Nat × List Tk × Option Nat × Nat=> [(2,sl x.2.2.1 x.2.1.length x.2.2.2),(8,.int .i64 (x.1:Int))]) (fun x=> [.own x.2.2.1 228 8 x.2.1.length x.2.2.2 (x.2.1.flatMap bg),.box g7 274 (DM.map fun f=>Value.func (.func f) #[.pointer (some ⟨g6,0,none⟩)] #[]),.box g6 272 [.string a]])
    (fun x=>x.1≤a.size∧x.2.1.length≤x.1∧T=(bk db (ap a) (a.size - x.1) x.1).map (x.2.1++ ·)) (fun x=>a.size - x.1) (0,[],none,0) ⟨by omega,by simp,by rw [← hT,hl];cases bk db (ap a) a.size 0<;>rfl⟩ sB mS ?_
   rintro ⟨i,toks,A,cap⟩ ⟨hi2,hi3,hi4⟩
   dsimp only at hi2 hi3 hi4 ⊢
   by_cases hlt2:i<a.size
   ·
    obtain ⟨f,hf1⟩: ∃ f,a.size - i=f+1:=⟨a.size - i - 1,by omega⟩
    rw [hf1] at hi4
    simp only [bk] at hi4
    have hdr:=bi hlt2
    generalize hld:(ap a).drop i=ld at hi4 hdr
    rw [hdr] at hi4
    dsimp only at hi4
    by_cases h32:bat a i=32
    ·
     rw [if_pos h32] at hi4
     repeat' (first|refine sT ?_|refine sS ?_|refine sT2 ?_|refine sN ?_|refine sM fun _=> ?_|(refine sC ?_ ?_<;>intro hb<;>try omega)|fail)
     all_goals try (exfalso;omega)
     refine ⟨(i+1,toks,A,cap),?_,(by first|omega|(dsimp only;omega)),sB,sB,mS⟩
     exact ⟨hlt2,by dsimp only;omega,by dsimp only;rw [show a.size - (i+1)=f by omega];exact hi4⟩
    ·
     rw [if_neg h32,← hdr] at hi4
     repeat' (first|refine sT ?_|refine sS ?_|refine sT2 ?_|refine sN ?_|refine sM fun _=> ?_|(refine sC ?_ ?_<;>intro hb<;>try omega)|fail)
     all_goals try (exfalso;omega)
     have hldl:ld.length=a.size - i:=by rw [← hld,Rk,hl]
     refine ax [0,2,6,7,8,57] rfl (fun k:Nat=> [(58,.int .i64 (k:Int))]) (fun _=> [.own A 228 8 toks.length cap (toks.flatMap bg),.box g7 274 (DM.map fun f=>Value.func (.func f) #[.pointer (some ⟨g6,0,none⟩)] #[]),.box g6 272 [.string a]]) (fun k=>k≤5∧db ld=l7 ld (mN.drop k)) (fun k=>5 - k) 0 ⟨by omega,rfl⟩ sB mS ?_
     rintro k ⟨hk,hkt⟩
     by_cases hk5:k<5
     ·
      obtain ⟨f2,r,r1,r2,r3,r4⟩:=MY a (by omega) i hlt2 g6 k hk5
      rw [hld] at r4
      rw [r1,l7] at hkt
      cases ho:r ld with
      |none=>
       rw [ho] at hkt r4
       dsimp only at hkt
       repeat' (first|(apply ak;exact rfl;apply mF;exact rfl;exact rfl;exact hk5;exact r2)|(apply qW;exact rfl;exact rfl;exact r3;exact rfl;(intro w' hm;exact r4 w' (Ro.of_box hm pK) (hW.next hm)))|refine sT ?_|refine sS ?_|refine sT2 ?_|refine sN ?_|refine sM fun _=> ?_|(refine sC ?_ ?_<;>intro hb<;>try omega)|fail)
       all_goals try (exfalso;omega)
       refine ⟨k+1,?_,(by first|omega|(dsimp only;omega)),sB,sB,mS⟩
       exact ⟨hk5,hkt⟩
      |some x=>
       obtain ⟨t,m⟩:=x
       rw [ho] at hkt r4
       dsimp only at hkt
       have hfit:=uK ld t m hkt
       rw [hkt] at hi4
       dsimp only at hi4
       have hm0:0<m:=hfit.1
       repeat' (first|(apply ak;exact rfl;apply mF;exact rfl;exact rfl;exact hk5;exact r2)|(apply qW;exact rfl;exact rfl;exact r3;exact rfl;(intro w' hm;exact r4 w' (Ro.of_box hm pK) (hW.next hm)))|(apply aQ;(iterate 3 exact rfl);exact pK;exact pK;exact rfl;(simp [bg,Value.oneCell']);omega;(simp only [maxLen];omega);intro g8 c8)|refine sT ?_|refine sS ?_|refine sT2 ?_|refine sN ?_|refine sM fun _=> ?_|(refine sC ?_ ?_<;>intro hb<;>try omega)|fail)
       all_goals try (exfalso;omega)
       refine ⟨(i+m,toks++ [{ t with at_:=(i:Int) }],some g8,c8),⟨by dsimp only;omega,by simp;omega,?_⟩,(by dsimp only;omega),?_,sB,?_⟩
       ·
        dsimp only
        rw [hi4,p6 uK f (a.size - (i+m)) f (i+m) (by omega) (by omega) (by omega)]
        cases bk db (ap a) (a.size - (i+m)) (i+m)<;>simp [Except.map]
       ·
        simp only [QP,QS]
        exact sB
       ·
        simp only [QP,QS,Rm,Rj,RC,QW]
        exact mS
     ·
      have e:k=5:=by omega
      subst e
      rw [show l7 ld (mN.drop 5)=none from rfl] at hkt
      rw [hkt] at hi4
      dsimp only [Except.map] at hi4
      rw [hi4]
      refine aH 228 8 ?_
      repeat' (first|refine sT ?_|refine sS ?_|refine sT2 ?_|refine sN ?_|refine sM fun _=> ?_|(refine sC ?_ ?_<;>intro hb<;>try omega)|fail)
      all_goals try (exfalso;omega)
      exact oD (.inl rfl) rfl rfl rfl rfl (H' := [.own none 228 8 0 0 []]) mS ⟨none,0,rfl,rfl⟩
   ·
    have e:i=a.size:=by omega
    subst e
    rw [show a.size - a.size=0 by omega] at hi4
    simp only [bk,Except.map,QW] at hi4
    rw [hi4]
    repeat' (first|refine sT ?_|refine sS ?_|refine sT2 ?_|refine sN ?_|refine sM fun _=> ?_|(refine sC ?_ ?_<;>intro hb<;>try omega)|fail)
    all_goals try (exfalso;omega)
    exact oD (.inl rfl) rfl rfl rfl rfl (H' := [.own A 228 8 toks.length cap (toks.flatMap bg)]) mS ⟨A,cap,rfl,rfl⟩
end Go.SL
namespace Go.SL
open Go Go.Proofs
attribute [local irreducible] W WL WQ WG WA WX WLI WR WT VOp RW thn blk bE scp aV bo bI aK FnIn FnP
theorem FX (p2 p3 p4:Value) (w0:World) (H:List Blk):FnD Tryz.prog 175 [p2,p3,p4] .returning w0 H H:=by
 refine Qq Tryz.func175 rfl rfl Tryz.ntmps175 rfl rfl (.inl ⟨rfl,rfl⟩) ?_
 repeat' (first|(apply ak;exact rfl;apply MD;exact rfl)|refine sT ?_|refine sM fun _=> ?_|(refine sC ?_ ?_<;>intro hb<;>try omega)|fail)
 all_goals exact ⟨by first|exact .inl rfl|exact .inr rfl,.refl _⟩
theorem FY (g2 g3 g4:Nat) (x2 x3 x4:Value) (e:Int × Int) (w0:World) (R:List Blk):
  FnD Tryz.prog 175 [.pointer (some ⟨g2,0,none⟩),.pointer (some ⟨g3,0,none⟩),.pointer (some ⟨g4,0,none⟩)] (.panicking (jf (zq e))) w0
   (.box g2 128 [x2]:: .box g3 3 [x3]:: .box g4 39 [x4]::R)
   (.box g2 128 [.slice none 0 0]:: .box g3 3 [.int .i64 e.1]:: .box g4 39 [.int .i64 e.2]::R):=by
 refine Qq Tryz.func175 rfl rfl Tryz.ntmps175 rfl rfl (.inr rfl) ?_
 repeat' (first|(apply ak;exact rfl;apply MC;exact rfl)|(apply ak;exact rfl;apply yK;exact rfl;exact rfl)|(rename_i g;refine um (id:=7) [⟨4,g2,128,x2,.slice none 0 0⟩,⟨5,g3,3,x3,.int .i64 e.1⟩,⟨6,g4,39,x4,.int .i64 e.2⟩] (.box g 223 [.int .i64 e.1,.int .i64 e.2]::R) (by kernel_rfl) (by kernel_rfl) rfl mS ?_)|(apply Fy;exact rfl;exact rfl;(exact vC))|(refine jX [] [⟨5,g3,3,x3,.int .i64 e.1⟩,⟨6,g4,39,x4,.int .i64 e.2⟩] ⟨4,g2,128,x2,.slice none 0 0⟩ rfl rfl rfl rfl rfl rfl ?_)|(refine jX [⟨4,g2,128,x2,.slice none 0 0⟩] [⟨6,g4,39,x4,.int .i64 e.2⟩] ⟨5,g3,3,x3,.int .i64 e.1⟩ rfl rfl rfl rfl rfl rfl ?_)|(refine jX [⟨4,g2,128,x2,.slice none 0 0⟩,⟨5,g3,3,x3,.int .i64 e.1⟩] [] ⟨6,g4,39,x4,.int .i64 e.2⟩ rfl rfl rfl rfl rfl rfl ?_)|apply yG|refine sT ?_|refine sG ?_|refine sM fun _=> ?_|(refine sC ?_ ?_<;>intro hb<;>try omega)|fail)
 refine ⟨.inr rfl,?_⟩
 simp only [Rz,Sl,BoxT.post,QR,QU]
 exact mS
def bT (x:List Tk × Int × Int) (fin:Int):List Nd × Int × Int:=
 if x.2.2≠0 then ([],x.2.1,x.2.2)
 else match bq fin (20*x.1.length+40) (.level 1) ⟨x.1,[]⟩ with
  |none=>([],0,0)
  |some (.error (a,e))=>([],a,e)
  |some (.ok (_,p))=>
   if (hdT fin p.l).kind≠0 then ([],(hdT fin p.l).at_,4)
   else if eJ p.out≠0 then ([],0,eJ p.out)
   else (p.out,0,0)
theorem Ay {tk:List Int→Option (Tk × Nat)} {l:List Int} (f:Nat): ∀ (i:Nat) (r:List Tk),bk tk l f i= .ok r→r.length≤f:=by
 induction f with
 |zero=>intro i r h;simp only [bk,Except.ok.injEq] at h;subst h;exact QV _
 |succ f ih=>
  intro i r h
  simp only [bk] at h
  split at h
  ·
   cases h;exact QX _
  ·
   split at h
   ·
    exact TN (ih _ _ h)
   ·
    split at h
    ·
     cases h
    ·
     rename_i t n _
     cases hr:bk tk l f (i+n) with
     |error e=>rw [hr] at h;cases h
     |ok r' =>
      rw [hr] at h
      cases h
      exact Nat.succ_le_succ (ih _ _ hr)
theorem mI (tk:List Int→Option (Tk × Nat)) (l:List Int):(bC tk l).1.length≤256:=by
 unfold bC
 split
 ·
  exact QX _
 ·
  split
  ·
   exact QX _
  ·
   split
   ·
    rename_i h
    have:=Ay _ _ _ h
    dsimp only
    omega
   ·
    exact QX _
theorem At.start (toks:List Tk) (A:Option Nat) (cap:Nat):At toks A cap ⟨toks,[]⟩ (sl A toks.length cap):=
 ⟨0,QX _,rfl,QV _,A.map fun g=>⟨g,0,none⟩,by simp [sl],fun _=>by simp⟩
def FN (A:Option Nat) (cap:Nat) (r:List Nd × Int × Int):Value:= .tuple #[sl A r.1.length cap,.int .i64 r.2.1,.int .i64 r.2.2]
set_option maxHeartbeats 4000000 in
theorem Fb (a:ByteArray) (w:World) (hW:Words w) (r:List Nd × Int × Int) (hr:r=bT (bC db (ap a)) (a.size:Int)):
  aK Tryz.prog 139 [.string a] w fun v H=> ∃ A cap,v=FN A cap r∧H= [.own A 293 11 r.1.length cap (r.1.flatMap bX)]:=by
 refine NA Tryz.func139 rfl Tryz.ntmps139 rfl ?_
 have htl:=mI db (ap a)
 have hT:=fun w' (hm:Σ' H,Mem w w' H)=>I7 a w' (hW.next hm.2)
 obtain ⟨⟨toks,at0,e0⟩,hx⟩: ∃ x,bC db (ap a)=x:=⟨_,rfl⟩
 rw [hx] at hr htl
 simp only [hx,FO] at hT
 dsimp only at htl
 refine xx 293 11 ?_
 refine xx 293 11 ?_
 refine JY (fun e a w _ h=>LC h) ?_
 obtain ⟨r1,hr1,_⟩:=rr (a.size:Int) (20*toks.length+40) (.level 1) ⟨toks,[]⟩ ⟨by omega,by omega⟩ (by simp [Job.c])
 have hP: ∀ (A:Option Nat) (cap g:Nat) (R:List Blk),toks.length≤cap→FnP Tryz.prog 176 [.pointer (some ⟨g,0,none⟩)] w (pB g (sl A toks.length cap) A cap (a.size:Int) toks none 0 []++R) (PR toks A cap (a.size:Int) g R r1) (PD R r1):=fun A cap g R hc=>
  (HR (20*toks.length+40)).2.2.2.2 toks A cap (a.size:Int) g ⟨toks,[]⟩ (sl A toks.length cap) none 0 r1 R w hc (by omega) (At.start toks A cap) hr1
 obtain ⟨ff,hff⟩: ∃ ff,20*toks.length+40=ff:=⟨_,rfl⟩
 rw [hff] at hr1
 repeat' (first|(apply aA (f:=174);exact rfl;exact rfl;exact fun w' hm=>hT w' ⟨_,hm⟩;rintro _ _ ⟨A,cap,rfl,rfl⟩)|(rename_i g2 g3 g4;refine JZ (cs:= [_,_,_]) rfl rfl ?_)|(refine JY (fun e a w _ h=>LC h) ?_)|(refine O6 (fun e a w h=>PG h) ?_)|(rename_i g2 g3 g4;refine um (id:=3) [⟨2,g2,128,.slice none 0 0,.slice none 0 0⟩,⟨3,g3,3,.int .i64 at0,.int .i64 at0⟩,⟨4,g4,39,.int .i64 e0,.int .i64 e0⟩] [.own none 293 11 0 0 []] (by kernel_rfl) (by kernel_rfl) rfl mS ?_)|(refine jX [] [⟨3,g3,3,.int .i64 at0,.int .i64 at0⟩,⟨4,g4,39,.int .i64 e0,.int .i64 e0⟩] ⟨2,g2,128,.slice none 0 0,.slice none 0 0⟩ rfl rfl rfl rfl rfl rfl ?_)|(refine jX [⟨2,g2,128,.slice none 0 0,.slice none 0 0⟩] [⟨4,g4,39,.int .i64 e0,.int .i64 e0⟩] ⟨3,g3,3,.int .i64 at0,.int .i64 at0⟩ rfl rfl rfl rfl rfl rfl ?_)|(refine jX [⟨2,g2,128,.slice none 0 0,.slice none 0 0⟩,⟨3,g3,3,.int .i64 at0,.int .i64 at0⟩] [] ⟨4,g4,39,.int .i64 e0,.int .i64 e0⟩ rfl rfl rfl rfl rfl rfl ?_)|(refine tN ⟨3,g3,3,.int .i64 at0,.int .i64 at0⟩ (.tail _ (.head _)) (f:=60) (j:=3) rfl (by decide+kernel) rfl rfl rfl ?_)|(refine tN ⟨4,g4,39,.int .i64 e0,.int .i64 e0⟩ (.tail _ (.tail _ (.head _))) (f:=60) (j:=4) rfl (by decide+kernel) rfl rfl rfl ?_)|apply yG|(apply ak;exact rfl;apply lK;exact rfl)|(apply ak;exact rfl;apply ib;exact rfl)|(apply GJ (f:=176);exact rfl;exact rfl;infer_instance;exact rfl;rename_i gp;exact FnP.own (A:=A) pK (fun hcap=>FnP.msub (hP A cap _ _ hcap) (MSub.pick pK (MSub.pick pK (MSub.pick pK (MSub.refl _))))))|(rintro _ _ ⟨rfl,n,p',lv',B',cb',rfl,h2,rfl⟩;obtain ⟨u,hu⟩: ∃ u,hdT (a.size:Int) p'.l=u:=⟨_,rfl⟩)|(rintro _ _ ⟨e,rfl,rfl,h3⟩)|(apply aa (f:=177);exact rfl;exact rfl;(intro w' hm';exact At.head' (B:=B') (cb:=cb') (out:=p'.out) (fin:=(a.size:Int)) h2 hu (MSub.pick pK (MSub.pick pK (MSub.pick pK (MSub.nil _)))) w' hm'))|(apply aa (f:=179);exact rfl;exact rfl;(intro w' hm';exact CY p'.out _ w' (Reads.of_own (A:=B') hm' pK)))|(refine bF (f:=178) rfl rfl (iW _ _ _ _ _ (fun _ _=>False)) ?_ ?_)|(exact fun _ _ h=>h.elim)|(rintro _ _ ⟨rfl,rfl⟩)|refine sT ?_|refine sP ?_|refine sG ?_|refine sM fun _=> ?_|(refine sC ?_ ?_<;>intro hb<;>try omega)|fail)
 ·
  have hr' :r=([],at0,e0):=by rw [hr];simp [bT,hb]
  subst hr'
  simp only [Rz,Sl,BoxT.post,QR,QU]
  exact qf (.inl rfl) rfl rfl pK rfl pK rfl pK (H' := [.own none 293 11 0 0 []]) mS ⟨none,0,rfl,rfl⟩
 ·
  rename_i he0 gp _ u0 hu0 g1
  have hr' :r=([],u0.at_,4):=by rw [hr];simp [bT,hff,hr1,hu0,hb,Classical.not_not.1 he0]
  subst hr'
  refine ⟨_,.box g2 128 [.slice none 0 0]:: .box g3 3 [.int .i64 at0]:: .box g4 39 [.int .i64 e0]:: [.own none 293 11 0 0 []],_,rfl,?_,FY g2 g3 g4 _ _ _ (u0.at_,4) w _,qf (.inl rfl) rfl rfl pK rfl pK rfl pK (H' := [.own none 293 11 0 0 []]) mS ⟨none,0,rfl,rfl⟩⟩
  simp only [Re,QR,QU,pB]
  exact mS
 ·
  rename_i he0 gp _ g1 hb1
  have hr' :r=([],0,eJ p'.out):=by rw [hr];simp [bT,hff,hr1,hu,Classical.not_not.1 hb1,hb,Classical.not_not.1 he0]
  subst hr'
  exact ⟨.returning,_,_,rfl,.refl _,FX _ _ _ _ _,qf (.inl rfl) rfl rfl pK rfl pK rfl pK (H' := [.own none 293 11 0 0 []]) mS ⟨none,0,rfl,rfl⟩⟩
 ·
  rename_i he0 gp _ g1 hb1
  have hr' :r=(p'.out,0,0):=by rw [hr];simp [bT,hff,hr1,hu,Classical.not_not.1 hb1,Classical.not_not.1 hb,Classical.not_not.1 he0]
  subst hr'
  exact ⟨.returning,_,_,rfl,.refl _,FX _ _ _ _ _,qf (.inl rfl) rfl rfl pK rfl pK rfl pK (H' := [.own B' 293 11 p'.out.length cb' (p'.out.flatMap bX)]) mS ⟨B',cb',rfl,rfl⟩⟩
 ·
  have hr' :r=([],e.1,e.2):=by rw [hr];simp [bT,hff,hr1,Classical.not_not.1 hb]
  subst hr'
  refine ⟨_,.box g2 128 [.slice none 0 0]:: .box g3 3 [.int .i64 at0]:: .box g4 39 [.int .i64 e0]:: [.own none 293 11 0 0 []],_,rfl,MSub.trans ?_ h3,FY g2 g3 g4 _ _ _ e w _,qf (.inl rfl) rfl rfl pK rfl pK rfl pK (H' := [.own none 293 11 0 0 []]) mS ⟨none,0,rfl,rfl⟩⟩
  exact mS
end Go.SL
namespace Go.SL
open Go
theorem eD (c:Int):aF c=true↔48≤c∧c≤57:=by simp [aF]
theorem gO (c:Int):bV c=true↔(65≤c∧c≤90)∨(97≤c∧c≤122):=by simp [bV]
theorem Nn (c:Int):bV c=false↔ ¬ ((65≤c∧c≤90)∨(97≤c∧c≤122)):=by rw [← gO];simp
theorem BQ (c:Int):bV (upC c)=bV c:=by
 rw [RP,gO,gO,upC]
 by_cases h:97≤c∧c≤122
 ·
  rw [if_pos h];omega
 ·
  rw [if_neg h]
theorem LA (c:Int):aF (upC c)=aF c:=by
 rw [RP,eD,eD,upC]
 by_cases h:97≤c∧c≤122
 ·
  rw [if_pos h];omega
 ·
  rw [if_neg h]
theorem MH (c:Int):upC (upC c)=upC c:=by
 simp only [upC]
 split
 ·
  rw [if_neg (by omega)]
 ·
  rfl
theorem MI {c:Int} (h:aF c=true):upC c=c:=by
 simp only [aF,QZ,decide_eq_true_eq] at h
 rw [upC,if_neg (by omega)]
theorem p8: ∀ l:List Int,(l.map upC).takeWhile bV=(l.takeWhile bV).map upC
 | []=>rfl
 |c::r=>by
  simp only [Rz,Tc,BQ]
  split
  ·
   rw [p8 r];rfl
  ·
   rfl
theorem qE: ∀ l:List Int,(l.map upC).dropWhile bV=(l.dropWhile bV).map upC
 | []=>rfl
 |c::r=>by
  simp only [Rz,Ua,BQ]
  split
  ·
   rw [qE r]
  ·
   rfl
theorem sL: ∀ (l:List Int) (v:Int),bp (l.map upC) v=bp l v
 | [],_=>rfl
 |c::r,v=>by simp only [Rz,bp,MH,sL r]
theorem LX: ∀ l:List Int,(l.map upC).all aF=l.all aF
 | []=>rfl
 |c::r=>by simp only [Rz,Tu,LA,LX r]
theorem vD: ∀ {l:List Int},l.all aF=true→l.map upC=l
 | [],_=>rfl
 |c::r,h=>by
  simp only [Tu,QZ] at h
  simp only [Rz,MI h.1,vD h.2]
theorem Nu (l:List Int):((l.map upC).head? =some 48)↔(l.head? =some 48):=by
 cases l with
 |nil=>simp
 |cons c r=>
  simp only [Rz,List.head?_cons,Option.some.injEq,upC]
  split<;>omega
theorem LZ (l:List Int):cv (l.map upC)=cv l:=by
 unfold cv
 simp only [p8,qE,List.map_eq_nil_iff,Nu,LX,sL]
 split
 ·
  rfl
 ·
  rename_i h
  have hd:(l.dropWhile bV).all aF=true:=by
   cases hh:(l.dropWhile bV).all aF with
   |true=>rfl
   |false=>exact absurd (.inr (.inr (.inr hh))) h
  rw [vD hd]
theorem ru {p:Int→Bool}: ∀ {l:List Int} {n:Nat},n≤aC p l→aC p (l.take n)=n
 | [],n,h=>by simp [aC] at h;subst h;rfl
 |c::r,0,_=>rfl
 |c::r,n+1,h=>by
  simp only [aC] at h
  split at h
  ·
   rename_i hc
   simp only [Sg,aC,hc,if_true]
   rw [ru (by omega)]
  ·
   omega
theorem qc {p:Int→Bool}: ∀ {l:List Int} {n:Nat},aC p l≤n→aC p (l.take n)=aC p l
 | [],n,_=>by simp
 |c::r,0,h=>by
  simp only [aC] at h
  split at h
  ·
   omega
  ·
   rename_i hc;simp [aC,hc]
 |c::r,n+1,h=>by
  simp only [aC] at h ⊢
  simp only [Sg,aC]
  split at h
  ·
   rename_i hc;simp only [hc,if_true];rw [qc (by omega)]
  ·
   rename_i hc;simp [hc]
theorem mX {l:List Int} (h:bZ l≠0): ∃ r,l=46::r∧bZ l=aC aF r:=by
 cases l with
 |nil=>exact absurd rfl h
 |cons c r=>
  by_cases hc:c=46
  ·
   subst hc;exact ⟨r,rfl,rfl⟩
  ·
   exact absurd (lU hc) h
theorem Cz {l:List Int} {w p:Nat} (hw:aC aF l=w) (hp:bZ (l.drop w)=p) (h0:w≠0) (h4:p≤4):
  f4 (l.take (if p=0 then w else w+1+p))=if cI<bw (l.take w++(l.drop (w+1)).take p++List.replicate (4 - p) 48) 0 then (0,3) else (bw (l.take w++(l.drop (w+1)).take p++List.replicate (4 - p) 48) 0,0):=by
 have hwl:w≤l.length:=hw ▸ bY aF l
 obtain ⟨c,r,rfl⟩: ∃ c r,l=c::r:=by
  cases l with
  |nil=>simp [aC] at hw;omega
  |cons c r=>exact ⟨c,r,rfl⟩
 have hc:aF c=true:=jM (c::r) 0 c (by omega) rfl
 have hc45:c≠45:=by simp only [aF,QZ,decide_eq_true_eq] at hc;omega
 have hneg: ∀ n,0<n→decide (((c::r).take n).head? =some 45)=false:=by
  intro n hn
  cases n with
  |zero=>omega
  |succ n=>simp [hc45]
 by_cases hp0:p=0
 ·
  subst hp0
  rw [if_pos rfl]
  unfold f4
  have hrun:aC aF ((c::r).take w)=w:=ru (by omega)
  have hdrop:((c::r).take w).drop w= []:=by rw [List.drop_eq_nil_iff,Rq];omega
  have htt:((c::r).take w).take w=(c::r).take w:=by rw [List.take_take,Nat.min_self]
  simp only [hneg w (by omega),RT,if_false,hrun,hdrop,htt]
  simp [h0]
 ·
  rw [if_neg hp0]
  obtain ⟨q,hq,hq2⟩:=mX (l:=(c::r).drop w) (by omega)
  have hpq:aC aF q=p:=by omega
  have hpl:p≤q.length:=hpq ▸ bY aF q
  have hlen:(c::r).length=w+1+q.length:=by
   have:=congrArg List.length hq
   rw [Rk] at this
   simp only [Rp] at this ⊢
   omega
  have hd1:(c::r).drop (w+1)=q:=by
   rw [← Sw,hq];rfl
  have hrun:aC aF ((c::r).take (w+1+p))=w:=by rw [qc (by omega)];exact hw
  have hdrop:((c::r).take (w+1+p)).drop w=46::q.take p:=by
   rw [List.drop_take,hq,show w+1+p - w=p+1 by omega];rfl
  have htt:((c::r).take (w+1+p)).take w=(c::r).take w:=by rw [List.take_take,SW (by omega)]
  have hrp:aC aF (q.take p)=p:=ru (by omega)
  have hlp:(q.take p).length=p:=by rw [Rq];omega
  unfold f4
  simp only [hneg (w+1+p) (by omega),RT,if_false,hrun,hdrop,htt,List.tail_cons,hrp,hd1]
  have hfrac:(decide (1<(46::q.take p).length) && (decide ((46::q.take p).head? =some 46) && decide (p+1=(46::q.take p).length)))=true:=by
   simp only [Rp,hlp,List.head?_cons,decide_true,Sy,TZ]
   simp;omega
  simp only [hfrac,if_true]
  have h5:(q.take p++ [48,48,48,48,48]).getD 4 0=48:=by
   rw [Ru,RZ (by omega),hlp]
   rcases (by omega:p=1∨p=2∨p=3∨p=4) with rfl|rfl|rfl|rfl<;>rfl
  have h6:(q.take p++ [48,48,48,48,48]).take 4=q.take p++List.replicate (4 - p) 48:=by
   rw [List.take_append,hlp,RS (by omega)]
   rcases (by omega:p=1∨p=2∨p=3∨p=4) with rfl|rfl|rfl|rfl<;>rfl
  rw [if_neg (by simp [h0])]
  simp only [h5,h6]
  rw [if_neg (show ¬ (53:Int)≤48 by decide),Int.add_zero,Rx]
theorem vp (l:List Int):fB l=(ku l).map fun x=>(⟨1,x.1,av,aL,0⟩,x.2):=by
 unfold fB ku
 dsimp only
 split
 ·
  rfl
 ·
  rename_i h
  have h0:aC aF l≠0:=fun e=>h (.inl e)
  have h4:bZ (l.drop (aC aF l))≤4:=by
   rcases SR 4 (bZ (l.drop (aC aF l))) with h4|h4
   ·
    exact absurd (.inr h4) h
   ·
    exact h4
  rw [Cz rfl rfl h0 h4]
  split
  ·
   rfl
  ·
   rfl
theorem Ai (m:List Int):kD (34::34::m)=(kD m).map (34:: ·):=by
 rw [kD.eq_def]
 simp
theorem AE: ∀ (n:Nat) (l:List Int),l.length≤n→j0 l=(cF l).bind fun k=>(kD (l.take k)).map fun t=>(t,k+1):=by
 intro n
 induction n with
 |zero=>intro l h;have:l= []:=RK (by omega);subst this;rfl
 |succ n ih=>
  intro l h
  cases l with
  |nil=>rfl
  |cons c r=>
   simp only [Rp] at h
   by_cases hc:c=34
   ·
    subst hc
    cases r with
    |nil=>rfl
    |cons d r' =>
     simp only [Rp] at h
     by_cases hd:d=34
     ·
      subst hd
      rw [j0.eq_def,cF.eq_def]
      simp only [ne_eq,not_true,if_false,if_true]
      rw [ih r' (by omega)]
      cases hk:cF r' with
      |none=>rfl
      |some k=>
       simp only [Se,Option.bind_some]
       rw [Sg,Sg,Ai]
       cases kD (r'.take k)<;>rfl
     ·
      rw [j0.eq_def,cF.eq_def]
      simp [hd,kD]
   ·
    rw [j0.eq_def,ky hc]
    simp only [ne_eq,hc,not_false_eq_true,if_true]
    rw [ih r (by omega)]
    cases hk:cF r with
    |none=>rfl
    |some k=>
     simp only [Se,Option.bind_some]
     rw [Sg,rk hc]
     cases kD (r.take k)<;>rfl
theorem IV: ∀ (n:Nat) (l:List Int) (k:Nat),l.length≤n→cF l=some k→l[k]? =some 34∧ ∃ t,kD (l.take k)=some t∧t.length≤k:=by
 intro n
 induction n with
 |zero=>intro l k h hk;have:l= []:=RK (by omega);subst this;cases hk
 |succ n ih=>
  intro l k h hk
  cases l with
  |nil=>cases hk
  |cons c r=>
   simp only [Rp] at h
   by_cases hc:c=34
   ·
    subst hc
    cases r with
    |nil=>cases hk;exact ⟨rfl,[],rfl,QV _⟩
    |cons d r' =>
     simp only [Rp] at h
     by_cases hd:d=34
     ·
      subst hd
      rw [cF.eq_def] at hk
      simp only [ne_eq,not_true,if_false,if_true] at hk
      cases hk' :cF r' with
      |none=>rw [hk'] at hk;cases hk
      |some j=>
       rw [hk'] at hk
       cases hk
       obtain ⟨h1,t,h2,h3⟩:=ih r' j (by omega) hk'
       refine ⟨h1,34::t,?_,by simp only [Rp];omega⟩
       rw [Sg,Sg,Ai,h2];rfl
     ·
      rw [cF.eq_def] at hk
      simp [hd] at hk
      subst hk
      exact ⟨rfl,[],rfl,QV _⟩
   ·
    rw [ky hc] at hk
    cases hk' :cF r with
    |none=>rw [hk'] at hk;cases hk
    |some j=>
     rw [hk'] at hk
     cases hk
     obtain ⟨h1,t,h2,h3⟩:=ih r j (by omega) hk'
     refine ⟨h1,c::t,?_,by simp only [Rp];omega⟩
     rw [Sg,rk hc,h2];rfl
theorem JU {r:List Int} (hp:(34::r).all (fun c=>bA c)=true) (hl:r.length≤256):mK (34::r)=(j0 r).map fun x=>(⟨2,0,mkB x.1,aL,0⟩,x.2+1):=by
 unfold mK
 rw [AE r.length r (QV _)]
 simp only [Sz,ne_eq,not_true,if_false,TK,SA]
 cases hk:cF r with
 |none=>rfl
 |some k=>
  obtain ⟨h1,t,h2,h3⟩:=IV r.length r k (QV _) hk
  obtain ⟨hkl,h1⟩:=Rn.1 h1
  have e1:(34::r).take (k+2)=34::r.take (k+1):=rfl
  have e2:r.take (k+1)=r.take k++ [34]:=by rw [Rg hkl,h1]
  have hall:(34::r.take (k+1)).all (fun c=>bA c)=true:=by
   rw [← e1]
   rw [Sr] at hp ⊢
   exact fun x hx=>hp x (Sj hx)
  have e3:fN (34::r.take (k+1))=(t,0):=by
   unfold fN
   rw [hall]
   rw [if_neg (by rw [e2];simp [List.getLast?_cons])]
   have:((34::r.take (k+1)).drop 1).dropLast=r.take k:=by rw [TK,SA,e2,TY]
   rw [this,h2]
   simp only
   rw [if_neg (by omega)]
  simp only [e1,e3,Option.bind_some,h2,Se]
  simp
theorem JO (l:List Int):upW l=(l.take (aC cN l)).map upC:=rfl
theorem QB (l:List Int):cv (upW l)=cv (l.take (aC cN l)):=by rw [JO,LZ]
def ji (l:List Int):Option (Tk × Nat):=match kw l with
 |some x=>some x
 |none=>gU l
theorem v8 {l:List Int} (h:l.headD 0≠35): ∀ (ns:List (List Int)) (k:Int),(∀ s∈ns,s.head? =some 35)→jU l ns k=none
 | [],_,_=>rfl
 |s::r,k,hs=>by
  have h1:=hs s QT
  rw [jU,if_neg,v8 h r _ fun s hs' =>hs s (Rc _ hs')]
  intro e
  cases s with
  |nil=>cases h1
  |cons a s=>
   cases h1
   cases l with
   |nil=>cases e
   |cons c l=>
    simp only [Rp,Sg,Rz,List.cons.injEq] at e
    simp only [Sz] at h
    have:=e.1
    simp only [upC] at this
    split at this<;>omega
theorem l8 {l:List Int} (h:l.headD 0≠35):kw l=none:=by
 unfold kw
 rw [v8 h dI 1 (by decide)]
 rfl
def qm:List Int:= [60,62,43,45,42,47,94,38,61,37]
theorem vn {l:List Int} (h:l.headD 0∉qm): ∀ ns:List (List Int × Int),(∀ s∈ns,∃ c,s.1.head? =some c∧c∈qm)→opL l ns=none
 | [],_=>rfl
 |(s,k)::r,hs=>by
  obtain ⟨a,h1,h2⟩:=hs (s,k) QT
  rw [opL,if_neg,vn h r fun s hs' =>hs s (Rc _ hs')]
  intro e
  cases s with
  |nil=>cases h1
  |cons b s=>
   cases h1
   cases l with
   |nil=>cases e
   |cons c l=>
    simp only [Rp,Sg,List.cons.injEq] at e
    simp only [Sz] at h
    exact h (e.1 ▸ h2)
theorem pd {l:List Int} (h:l.headD 0∉qm) (h1:l.headD 0≠40) (h2:l.headD 0≠41) (h3:l.headD 0≠44):gU l=none:=by
 unfold gU
 rw [vn h eO (by decide)]
 simp only [h1,h2,h3,if_false]
theorem zb {l:List Int} (h:aF (l.headD 0)=false):fB l=none:=by
 unfold fB
 have:aC aF l=0:=by
  cases l with
  |nil=>rfl
  |cons c r=>simp only [Sz] at h;simp [aC,h]
 simp [this]
theorem uL {l:List Int} (h:l.headD 0≠34):mK l=none:=by
 unfold mK
 rw [if_pos h]
theorem o3 {l:List Int} (h:bV (l.headD 0)=false):gD l=none:=by
 unfold gD
 rw [if_pos h]
def bG (l:List Int):Option (Tk × Nat):=
 if aF (l.headD 0) then (ku l).map fun x=>(⟨1,x.1,av,aL,0⟩,x.2)
 else if l.headD 0=34 then (j0 l.tail).map fun x=>(⟨2,0,mkB x.1,aL,0⟩,x.2+1)
 else if bV (l.headD 0) then gD l
 else ji l
theorem sA (c:Int):c∈qm↔c=60∨c=62∨c=43∨c=45∨c=42∨c=47∨c=94∨c=38∨c=61∨c=37:=by simp [qm]
theorem G7 {l:List Int} (hp:l.all (fun c=>bA c)=true) (hl:l.length≤256):db l=bG l:=by
 have hF:db l=match fB l with
  |some x=>some x
  |none=>match mK l with
   |some x=>some x
   |none=>match gD l with
    |some x=>some x
    |none=>ji l:=by
  unfold db mN l7 ji
  cases fB l<;>simp only [l7]
  cases mK l<;>simp only
  cases gD l<;>simp only
  cases kw l<;>simp only
  cases gU l<;>rfl
 rw [hF]
 unfold bG
 by_cases h1:aF (l.headD 0)=true
 ·
  have h1' :=(eD _).1 h1
  rw [if_pos h1,← vp,uL (by omega),o3 ((Nn _).2 (by omega)),ji,l8 (by omega),pd (by rw [sA];omega) (by omega) (by omega) (by omega)]
  cases fB l<;>rfl
 ·
  rw [if_neg h1]
  have h1' :aF (l.headD 0)=false:=by simpa using h1
  rw [zb h1']
  by_cases h2:l.headD 0=34
  ·
   rw [if_pos h2]
   cases l with
   |nil=>cases h2
   |cons c r=>
    simp only [Sz] at h2
    subst h2
    rw [JU hp (by simp only [Rp] at hl;omega),List.tail_cons,o3 (by rw [Sz];decide),ji,l8 (by rw [Sz];decide),pd (by rw [Sz];decide) (by rw [Sz];decide) (by rw [Sz];decide) (by rw [Sz];decide)]
    cases j0 r<;>rfl
  ·
   rw [if_neg h2,uL h2]
   by_cases h3:bV (l.headD 0)=true
   ·
    have h3' :=(gO _).1 h3
    rw [if_pos h3,ji,l8 (by omega),pd (by rw [sA];omega) (by omega) (by omega) (by omega)]
    cases gD l<;>rfl
   ·
    rw [if_neg h3,o3 (by simpa using h3)]
theorem Dz {l:List Int} (hp:l.all (fun c=>bA c)=true) (hl:l.length≤256): ∀ f i,bk db l f i=bk bG l f i:=by
 intro f
 induction f with
 |zero=>intro i;rfl
 |succ f ih=>
  intro i
  simp only [bk]
  have h1:(l.drop i).all (fun c=>bA c)=true:=by
   rw [Sr] at hp ⊢
   exact fun x hx=>hp x (S5 hx)
  rw [G7 h1 (by rw [Rk];omega)]
  simp only [ih]
theorem Dy (l:List Int):bC db l=bC bG l:=by
 unfold bC
 split
 ·
  rfl
 ·
  rename_i hl
  cases h:l.findIdx? (fun c=> !bA c) with
  |some i=>rfl
  |none=>
   simp only
   rw [Dz _ (by omega)]
   rw [SG] at h
   rw [Sr]
   intro x hx
   have:=h x hx
   simpa using this
end Go.SL
namespace Go.SL
open Go Go.Proofs
attribute [local irreducible] W WL WQ WG WA WX WLI WR WT VOp RW thn blk bE scp aV bo bI aK FnIn FnP
theorem PF {a:ByteArray} {i:Nat} (h:i<a.size):gP (sub a i (i+1))=if bA (bat a i) then 0 else 4:=by
 have h1:ap (sub a i (i+1))= [bat a i]:=by
  rw [dV,bi h,Nat.add_sub_cancel_left]
  rfl
 have h2:(sub a i (i+1)).size=1:=by rw [ck a (by omega)];omega
 simp only [gP,h2,mU,h1]
 cases h:bA (bat a i)<;>simp [h]
structure Mn where
 formula:Bool
 v:Vl
 tree:List Nd
def eqB:ByteArray:=⟨#[61]⟩
def qP:Mn:=⟨false,bD,[]⟩
def ofP (b:ByteArray):Mn × Int × Int:=
 if 256<b.size then (qP,0,5)
 else match (ap b).findIdx? (fun c=> !bA c) with
  |some i=>(qP,(i:Int),4)
  |none=>
   if (jV b eqB).2=false then (⟨false,rS b,[]⟩,0,0)
   else match bT (bC db (ap (jV b eqB).1)) ((jV b eqB).1.size:Int) with
    |(t,at_,e)=>if e≠0 then (qP,IntKind.i64.wrap (at_+1),e) else (⟨true,bD,t⟩,0,0)
def zw (m:Mn) (tv:Value):List Value:= [.bool m.formula,.int .u8 m.v.kind,.int .i64 m.v.num,.string m.v.text,tv]
def ofV (A:Option Nat) (cap:Nat) (r:Mn × Int × Int):Value:= .tuple #[.agg (zw r.1 (sl A r.1.tree.length cap)).toArray,.int .i64 r.2.1,.int .i64 r.2.2]
set_option maxHeartbeats 2000000 in
theorem L8 (b:ByteArray) (w:World) (hW:Words w):aK Tryz.prog 99 [.string b] w fun v H=> ∃ A cap,v=ofV A cap (ofP b)∧H= [.own A 293 11 (ofP b).1.tree.length cap ((ofP b).1.tree.flatMap bX)]:=by
 refine aq Tryz.func99 rfl Tryz.ntmps99 rfl ?_
 refine aH 293 11 ?_
 unfold ofP
 by_cases hlen:256<b.size
 ·
  rw [if_pos hlen]
  repeat' (first|refine sT ?_|refine sS ?_|refine sT2 ?_|refine sM fun _=> ?_|(refine sC ?_ ?_<;>intro hb<;>try omega)|fail)
  all_goals first
   |(exfalso;omega)
   |exact fI (.inl rfl) rfl rfl pK rfl rfl rfl (H' := [.own none 293 11 0 0 []]) mS ⟨none,0,rfl,rfl⟩
 rw [if_neg hlen]
 repeat' (first|refine sT ?_|refine sS ?_|refine sT2 ?_|refine sM fun _=> ?_|(refine sC ?_ ?_<;>intro hb<;>try omega)|fail)
 all_goals try (exfalso;omega)
 rename_i g2
 refine ax [0,2,14] rfl (fun i:Nat=> [(15,.int .i64 (i:Int))]) (fun _=> [.box g2 130 [.bool false,.int .u8 0,.int .i64 0,.string av,.slice none 0 0],.own none 293 11 0 0 []]) (fun i=>i≤b.size∧ ∀ j,j<i→bA (bat b j)=true) (fun i=>b.size - i) 0 ⟨by omega,fun j h=>by omega⟩ sB mS ?_
 rintro i ⟨hi,hpl⟩
 by_cases hlt:i<b.size
 ·
  have hg:=PF hlt
  have hG:=fun w=>vV (sub b i (i+1)) w
  rw [hg] at hG
  by_cases hc:bA (bat b i)=true
  ·
   rw [if_pos hc] at hG
   repeat' (first|(apply ak;exact rfl;apply fF;(iterate 3 exact rfl);exact ⟨by omega,by omega⟩)|(apply aa;exact rfl;exact rfl;(intro w hm;exact hG w))|refine sT ?_|refine sS ?_|refine sT2 ?_|refine sN ?_|refine sM fun _=> ?_|(refine sC ?_ ?_<;>intro hb<;>try omega)|fail)
   all_goals try (exfalso;omega)
   refine ⟨i+1,?_,(by first|omega|(dsimp only;omega)),sB,sB,mS⟩
   refine ⟨hlt,fun j hj=> ?_⟩
   rcases (by omega:j<i∨j=i) with h|rfl
   ·
    exact hpl j h
   ·
    exact hc
  ·
   rw [if_neg hc] at hG
   repeat' (first|(apply ak;exact rfl;apply fF;(iterate 3 exact rfl);exact ⟨by omega,by omega⟩)|(apply aa;exact rfl;exact rfl;(intro w hm;exact hG w))|refine sT ?_|refine sS ?_|refine sT2 ?_|refine sN ?_|refine sM fun _=> ?_|(refine sC ?_ ?_<;>intro hb<;>try omega)|fail)
   all_goals try (exfalso;omega)
   have hf:(ap b).findIdx? (fun c=> !bA c)=some i:=nF hlt (by simp [hc]) fun j hj=>by rw [hpl j hj];rfl
   rw [hf]
   exact fI (.inl rfl) rfl rfl pK rfl rfl rfl (H' := [.own none 293 11 0 0 []]) mS ⟨none,0,rfl,rfl⟩
 ·
  have e:i=b.size:=by omega
  subst e
  have hf:(ap b).findIdx? (fun c=> !bA c)=none:=lX fun j hj=>by rw [hpl j hj];rfl
  rw [hf]
  dsimp only
  have hcut:=fun w=>LD b eqB (by omega) w
  obtain ⟨⟨rest,is⟩,hx⟩: ∃ x,jV b eqB=x:=⟨_,rfl⟩
  rw [hx] at hcut ⊢
  cases is with
  |false=>
   rw [if_pos rfl]
   repeat' (first|(apply aa;exact rfl;exact rfl;(intro w hm;exact hcut w))|(apply aa (f:=138);exact rfl;exact rfl;(intro w' hm';exact CC b (by omega) w' (hW.next hm')))|refine sT ?_|refine sS ?_|refine sT2 ?_|refine sN ?_|refine sM fun _=> ?_|(refine sC ?_ ?_<;>intro hb<;>try omega)|fail)
   all_goals try (exfalso;omega)
   exact fI (.inl rfl) rfl rfl pK rfl rfl rfl (H' := [.own none 293 11 0 0 []]) mS ⟨none,0,rfl,rfl⟩
  |true=>
   rw [if_neg (by simp)]
   dsimp only
   have hF:=fun (w' :World) (h:Words w')=>Fb rest w' h _ rfl
   obtain ⟨⟨t,at0,e0⟩,hr⟩: ∃ x,bT (bC db (ap rest)) (rest.size:Int)=x:=⟨_,rfl⟩
   simp only [hr,FN] at hF
   rw [hr]
   dsimp only
   by_cases he:e0≠0
   ·
    rw [if_pos he]
    repeat' (first|(apply aa;exact rfl;exact rfl;(intro w hm;exact hcut w))|(apply aA (f:=139);exact rfl;exact rfl;(intro w' hm';exact hF w' (hW.next hm'));rintro _ _ ⟨A,cap,rfl,rfl⟩)|(apply ak;exact rfl;apply uC;exact rfl;exact rfl)|refine sT ?_|refine sS ?_|refine sT2 ?_|refine sN ?_|refine sM fun _=> ?_|(refine sC ?_ ?_<;>intro hb<;>try omega)|fail)
    all_goals try (exfalso;omega)
    exact fI (.inl rfl) rfl rfl pK rfl rfl rfl (H' := [.own none 293 11 0 0 []]) mS ⟨none,0,rfl,rfl⟩
   ·
    rw [if_neg he]
    repeat' (first|(apply aa;exact rfl;exact rfl;(intro w hm;exact hcut w))|(apply aA (f:=139);exact rfl;exact rfl;(intro w' hm';exact hF w' (hW.next hm'));rintro _ _ ⟨A,cap,rfl,rfl⟩)|(apply ak;exact rfl;apply uC;exact rfl;exact rfl)|refine sT ?_|refine sS ?_|refine sT2 ?_|refine sN ?_|refine sM fun _=> ?_|(refine sC ?_ ?_<;>intro hb<;>try omega)|fail)
    all_goals try (exfalso;omega)
    exact fI (.inl rfl) rfl rfl pK rfl rfl rfl (H' := [.own A 293 11 t.length cap (t.flatMap bX)]) mS ⟨A,cap,rfl,rfl⟩
end Go.SL
namespace Go.SL
open Go
def ofR (b:ByteArray):Mn × Int × Int:=
 if 256<b.size then (qP,0,5)
 else match (ap b).findIdx? (fun c=> !bA c) with
  |some i=>(qP,(i:Int),4)
  |none=>
   if (ap b).headD 0≠61 then (⟨false,ww b,[]⟩,0,0)
   else match bT (bC bG (ap (sub b 1 b.size))) ((sub b 1 b.size).size:Int) with
    |(t,at_,e)=>if e≠0 then (qP,IntKind.i64.wrap (at_+1),e) else (⟨true,bD,t⟩,0,0)
theorem zn {b:ByteArray} (h: ¬ 256<b.size) (hp:(ap b).findIdx? (fun c=> !bA c)=none):gP b=0:=by
 rw [SG] at hp
 unfold gP
 rw [mU]
 have:(ap b).all bA=true:=by
  rw [Sr]
  intro c hc
  simpa using hp c hc
 simp [h,this]
theorem Pp (b:ByteArray):ofP b=ofR b:=by
 unfold ofP ofR
 by_cases h1:256<b.size
 ·
  rw [if_pos h1,if_pos h1]
 rw [if_neg h1,if_neg h1]
 cases hf:(ap b).findIdx? (fun c=> !bA c) with
 |some i=>rfl
 |none=>
  dsimp only
  have hq:ap eqB= [61]:=rfl
  have hs:eqB.size=1:=rfl
  have h61:(ap b).take 1= [61]↔(ap b).headD 0=61:=by cases ap b<;>simp
  have hcut:jV b eqB=if (ap b).headD 0=61 then (sub b 1 b.size,true) else (b,false):=by
   unfold jV
   rw [hq,hs]
   by_cases h:(ap b).headD 0=61
   ·
    rw [if_pos (h61.2 h),if_pos h]
   ·
    rw [if_neg (fun h' =>h (h61.1 h')),if_neg h]
  rw [hcut]
  by_cases h2:(ap b).headD 0=61
  ·
   rw [if_pos h2,if_neg (by simp),if_neg (show ¬ ((ap b).headD 0≠61) from fun h=>h h2),Dy]
  ·
   rw [if_neg h2,if_pos rfl,if_pos h2,IQ (zn h1 hf)]
abbrev Gr:=List (Rf × List Nd × List Us)
def bS (G:Gr):List Rf:=G.map fun e=>e.1
def SortG (G:Gr):Prop:=G.Pairwise fun x y=>aU x.1 y.1=true
def sK (G:Gr) (a:Rf):Option (List Nd × List Us):=(G.find? fun e=>decide (e.1=a)).map fun e=>e.2
def LB (G:Gr) (a:Rf):Gr:=G.filter fun e=>decide (e.1≠a)
def Ez (G:Gr) (a:Rf) (x:List Nd × List Us):Gr:=G.filter (fun e=>aU e.1 a)++(a,x)::G.filter fun e=>aU a e.1
def eK (G:Gr) (a:Rf):List Us:=((sK G a).map fun x=>x.2).getD []
def lN (G:Gr) (a:Rf) (b:ByteArray):Gr × Int:=
 if a.valid=false then (G,3)
 else if (ofP b).2.2≠0 then (G,(ofP b).2.2)
 else if (ofP b).1.formula=false then (LB G a,0)
 else (Ez G a ((ofP b).1.tree,eL (ofP b).1.tree),0)
theorem lu {a b:Rf}:aU a b=true↔a.row<b.row∨(a.row=b.row∧a.col<b.col):=by simp [aU]
theorem H8 (a:Rf):aU a a=false:=by simp [aU]
theorem nr {a b c:Rf} (h:aU a b=true) (k:aU b c=true):aU a c=true:=by
 rw [lu] at*
 omega
theorem sU {a b:Rf} (h:aU a b=true):aU b a=false:=by
 rw [← TW,lu]
 rw [lu] at h
 omega
theorem BR {a b:Rf} (h:a≠b):aU a b=true∨aU b a=true:=by
 rw [lu,lu]
 rcases Int.lt_trichotomy a.row b.row with h1|h1|h1
 ·
  exact .inl (.inl h1)
 ·
  rcases Int.lt_trichotomy a.col b.col with h2|h2|h2
  ·
   exact .inl (.inr ⟨h1,h2⟩)
  ·
   refine absurd ?_ h
   obtain ⟨a1,a2⟩:=a
   obtain ⟨b1,b2⟩:=b
   simp only at h1 h2
   subst h1 h2;rfl
  ·
   exact .inr (.inr ⟨h1.symm,h2⟩)
 ·
  exact .inr (.inl h1)
theorem vJ {a b:Rf} (h:aU a b=true):a≠b:=by
 rintro rfl
 rw [H8] at h
 cases h
theorem SortG.nodup {G:Gr} (h:SortG G):(bS G).Nodup:=by
 rw [bS,List.Nodup,List.pairwise_map]
 exact h.imp fun h=>vJ h
theorem xq:SortG []:=List.Pairwise.nil
theorem rm {G:Gr} (h:SortG G) (a:Rf):SortG (LB G a):=h.filter _
theorem rl {G:Gr} (h:SortG G) (a:Rf) (x:List Nd × List Us):SortG (Ez G a x):=by
 refine Sq.2 ⟨h.filter _,RH.2 ⟨fun e he=> ?_,h.filter _⟩,fun e he f hf=> ?_⟩
 ·
  exact (Tl.1 he).2
 ·
  have h1:=(Tl.1 he).2
  rcases Rd.1 hf with rfl|hf
  ·
   exact h1
  ·
   exact nr h1 (Tl.1 hf).2
theorem Hp {G:Gr} (h:SortG G) (a:Rf) (b:ByteArray):SortG (lN G a b).1:=by
 unfold lN
 split
 ·
  exact h
 ·
  split
  ·
   exact h
  ·
   split
   ·
    exact rm h a
   ·
    exact rl h a _
theorem vz {G:Gr} {a:Rf} {x:List Nd × List Us} {e:Rf × List Nd × List Us}:e∈Ez G a x↔e=(a,x)∨(e∈G∧e.1≠a):=by
 simp only [Ez,Rs,Rd,Tl]
 constructor
 ·
  rintro (⟨h1,h2⟩|rfl|⟨h1,h2⟩)
  ·
   exact .inr ⟨h1,vJ h2⟩
  ·
   exact .inl rfl
  ·
   exact .inr ⟨h1,(vJ h2).symm⟩
 ·
  rintro (rfl|⟨h1,h2⟩)
  ·
   exact .inr (.inl rfl)
  ·
   rcases BR h2 with h|h
   ·
    exact .inl ⟨h1,h⟩
   ·
    exact .inr (.inr ⟨h1,h⟩)
theorem vB {G:Gr} {a:Rf} {e:Rf × List Nd × List Us}:e∈LB G a↔e∈G∧e.1≠a:=by simp [LB]
theorem vF {G:Gr} (h:SortG G) {a:Rf} {x:List Nd × List Us}:sK G a=some x↔(a,x)∈G:=by
 constructor
 ·
  intro hl
  obtain ⟨e,he,rfl⟩:=Sa.1 hl
  have h1:=Un he
  have h2:=Ti he
  simp only [decide_eq_true_eq] at h1
  subst h1
  exact h2
 ·
  intro hm
  have hn:=h.nodup
  cases hf:G.find? fun e=>decide (e.1=a) with
  |none=>
   rw [List.find?_eq_none] at hf
   exact absurd (hf _ hm) (by simp)
  |some e=>
   have h1:=Un hf
   have h2:=Ti hf
   simp only [decide_eq_true_eq] at h1
   have:=pF (fun e:Rf × List Nd × List Us=>e.1) hn h2 hm h1
   rw [sK,hf,this];rfl
theorem Ep {G:Gr} {a:Rf}:sK G a=none↔ ∀ e∈G,e.1≠a:=by
 rw [sK,Option.map_eq_none_iff,List.find?_eq_none]
 simp
theorem BU {G:Gr} (h:SortG G):(bS G).Pairwise fun x y=>aU x y=true:=by
 rw [bS,List.pairwise_map];exact h
theorem wP {L:List Rf} (h:L.Pairwise fun x y=>aU x y=true):sortRf L=L:=by
 refine List.mergeSort_of_pairwise ?_
 exact h.imp fun h=>by rw [sU h];rfl
end Go.SL
namespace Go.SL
open Go Go.Proofs
attribute [local irreducible] W WL WQ WG WA WX WLI WR WT WC VOp RW thn blk bE scp aV bo bI aK FnP ceP
structure Gs where
 gg:Nat
 gm:Nat
 E:List En
 clock:Nat
 R1:List Blk
 gr:Nat
 A:Option Nat
 cap:Nat
 Q:List En
 R2:List Blk
end Go.SL
namespace Go.SL
open Go
def inB:ByteArray:=⟨#[61,65,49,43,66,49]⟩
def inC:ByteArray:=⟨#[61,68,83,85,77,40,66,49,58,66,51,41]⟩
def inD:ByteArray:=⟨#[61,73,70,69,82,82,79,82,40,65,51,44,48,41,43,49]⟩
def O8 (c r:Int):Nd:=⟨2,bD,BF c r,0,0,0⟩
def exG:Gr:= [
 (⟨1,2⟩,[O8 1 1,O8 2 1,dz 6 1],[⟨BF 1 1, -1,0⟩,⟨BF 2 1, -1,0⟩]),
 (⟨1,3⟩,[⟨3,bD,⟨2,1,2,3⟩,0,0,0⟩,⟨7,bD,aL,0,46,1⟩],[⟨⟨2,1,2,3⟩,1,46⟩]),
 (⟨1,4⟩,[O8 1 3,⟨1,⟨1,0,av⟩,aL,0,0,0⟩,⟨7,bD,aL,0,25,2⟩,⟨1,⟨1,10000,av⟩,aL,0,0,0⟩,dz 6 1],[⟨BF 1 3, -1,0⟩])]
def Chain:List Tk→Prop
 | []=>True
 |t::r=>(1≤t.kind∧t.kind≤11)∧(t.kind=7→(r.headD cY).kind=9)∧Chain r
theorem EG {l:List Int} {t:Tk} {n:Nat} (h:kw l=some (t,n)):t.kind=4:=by
 unfold kw at h
 obtain ⟨x,_,hx⟩:=Sa.1 h
 cases hx;rfl
theorem DI {l:List Int} {t:Tk} {n:Nat} (h:gU l=some (t,n)):8≤t.kind∧t.kind≤11:=by
 unfold gU at h
 split at h
 ·
  cases h;simp
 ·
  split at h
  ·
   cases h;simp
  ·
   split at h
   ·
    cases h;simp
   ·
    split at h
    ·
     cases h;simp
    ·
     cases h
theorem DH {l:List Int} {t:Tk} {n:Nat} (h:ji l=some (t,n)):(1≤t.kind∧t.kind≤11)∧t.kind≠7:=by
 unfold ji at h
 split at h
 ·
  rename_i x hx
  cases h
  have:=EG hx
  omega
 ·
  have:=DI h
  omega
theorem C9 {l:List Int} {t:Tk} {n:Nat} (h:gD l=some (t,n)):(1≤t.kind∧t.kind≤11)∧(t.kind=7→(l.drop n).headD 0=40):=by
 unfold gD at h
 split at h
 ·
  cases h
 ·
  split at h
  ·
   rename_i h1
   cases h
   exact ⟨by simp,fun _=>h1⟩
  ·
   split at h
   ·
    cases h;simp
   ·
    split at h
    ·
     cases h;simp
    ·
     split at h
     ·
      cases h
     ·
      split at h
      ·
       cases h
       simp only
       split<;>simp
      ·
       cases h;simp
theorem AB {l:List Int} {t:Tk} {n:Nat} (h:bG l=some (t,n)):(1≤t.kind∧t.kind≤11)∧(t.kind=7→(l.drop n).headD 0=40):=by
 unfold bG at h
 split at h
 ·
  obtain ⟨x,_,hx⟩:=Sa.1 h
  cases hx;simp
 ·
  split at h
  ·
   obtain ⟨x,_,hx⟩:=Sa.1 h
   cases hx;simp
  ·
   split at h
   ·
    exact C9 h
   ·
    have:=DH h
    exact ⟨this.1,fun e=>absurd e this.2⟩
theorem mJ (l:List Int):Fits l (bG l):=by
 intro t n h
 by_cases hd:aF (l.headD 0)=true
 ·
  unfold bG at h
  rw [if_pos hd,← vp] at h
  exact sF l t n h
 ·
  unfold bG at h
  rw [if_neg hd] at h
  split at h
  ·
   rename_i hq
   cases l with
   |nil=>cases hq
   |cons c r=>
    obtain ⟨⟨x,m⟩,hx,he⟩:=Sa.1 h
    cases he
    rw [List.tail_cons,AE r.length r (QV _)] at hx
    obtain ⟨k,hk,hk2⟩:=Option.bind_eq_some_iff.1 hx
    obtain ⟨y,_,hy⟩:=Sa.1 hk2
    cases hy
    have:=oz r.length r k (QV _) hk
    simp only [Rp]
    omega
  ·
   split at h
   ·
    exact wZ l t n h
   ·
    unfold ji at h
    split at h
    ·
     rename_i x hx
     cases h
     exact xY l t n hx
    ·
     exact xw l t n h
theorem AA {l:List Int} (h:l.headD 0=40): ∃ n,bG l=some (⟨9,0,av,aL,0⟩,n):=by
 unfold bG
 rw [h,if_neg (by decide),if_neg (by decide),if_neg (by decide),ji,l8 (by omega)]
 simp only
 unfold gU
 rw [vn (by rw [h];decide) eO (by decide)]
 simp only [h,if_true]
 exact ⟨1,rfl⟩
theorem yQ {l:List Int} {f i:Nat} {r:List Tk} (h:bk bG l (f+1) i= .ok r) (h1:(l.drop i).headD 0=40):(r.headD cY).kind=9:=by
 simp only [bk] at h
 cases hd:l.drop i with
 |nil=>rw [hd] at h1;cases h1
 |cons c q=>
  rw [hd] at h1 h
  simp only [Sz] at h1
  subst h1
  obtain ⟨n,hn⟩:=AA (l:=40::q) rfl
  simp only [hn] at h
  rw [if_neg (by decide)] at h
  cases hr:bk bG l f (i+n) with
  |error e=>rw [hr] at h;cases h
  |ok r' =>rw [hr] at h;cases h;rfl
theorem wN {l:List Int}: ∀ (f i:Nat) (r:List Tk),l.length - i≤f→bk bG l f i= .ok r→Chain r:=by
 intro f
 induction f with
 |zero=>intro i r _ h;cases h;trivial
 |succ f ih=>
  intro i r hf h
  simp only [bk] at h
  cases hd:l.drop i with
  |nil=>rw [hd] at h;cases h;trivial
  |cons c q=>
   rw [hd] at h
   have hlen:(l.drop i).length=q.length+1:=by rw [hd];rfl
   rw [Rk] at hlen
   simp only at h
   split at h
   ·
    exact ih (i+1) r (by omega) h
   ·
    cases ht:bG (c::q) with
    |none=>rw [ht] at h;cases h
    |some x=>
     obtain ⟨t,n⟩:=x
     rw [ht] at h
     simp only at h
     have hfit:=mJ _ t n ht
     cases hr:bk bG l f (i+n) with
     |error e=>rw [hr] at h;cases h
     |ok r' =>
      rw [hr] at h
      cases h
      have hk:=AB ht
      refine ⟨hk.1,fun h7=> ?_,ih (i+n) r' (by omega) hr⟩
      have h40:=hk.2 h7
      rw [← hd,Sw] at h40
      cases f with
      |zero=>
       have:l.drop (i+n)= []:=by rw [List.drop_eq_nil_iff];omega
       rw [this] at h40;cases h40
      |succ f=>exact yQ hr h40
theorem wM (l:List Int):Chain (bC bG l).1:=by
 unfold bC
 split
 ·
  trivial
 ·
  split
  ·
   trivial
  ·
   split
   ·
    rename_i r hr
    exact wN _ _ _ (by omega) hr
   ·
    trivial
theorem Chain.drop: ∀ {l:List Tk} (k:Nat),Chain l→Chain (l.drop k)
 |l,0,h=>h
 | [],k+1,h=>h
 |_::_,k+1,h=>Chain.drop k h.2.2
theorem Chain.name {l:List Tk} {fin:Int} (h:Chain l) (h7:(hdT fin l).kind=7):(hdT fin l.tail).kind=9:=by
 cases l with
 |nil=>cases h7
 |cons t r=>
  have h9:=h.2.1 h7
  cases r with
  |nil=>cases h9
  |cons u r=>exact h9
theorem Chain.kind {l:List Tk} {fin:Int} (h:Chain l):(hdT fin l).kind=0↔l= []:=by
 cases l with
 |nil=>exact ⟨fun _=>rfl,fun _=>rfl⟩
 |cons t r=>
  have:=h.1
  constructor
  ·
   intro e
   simp only [hdT,Sz] at e
   omega
  ·
   intro e;cases e
end Go.SL
namespace Go.SL
open Go Go.Proofs
attribute [local irreducible] W WL WQ WG WA WX WLI WR WT WC VOp RW thn blk bE scp aV bo bI aK FnIn FnP ceP
section
variable {w0:World} {s:az} {H:List Blk} {ty t' :TypeId} {x y:Operand}
theorem GS {a b:Vl} {c:Bool} (h:decide (a=b)=c) (hx:ev s x=some (.agg (dA a).toArray)) (hy:ev s y=some (.agg (dA b).toArray)):VOp Tryz.prog w0 s H (.binOp .eql 127 x y t') ty (.bool c):=by
 have h1:=Dp (w0:=w0) (H:=H) (ty:=ty) (t' :=t') hx hy
 rwa [Gg,h] at h1
theorem rj {a b:Rct} {c:Bool} (h:decide (a=b)=c) (hx:ev s x=some (.agg (bK a).toArray)) (hy:ev s y=some (.agg (bK b).toArray)):VOp Tryz.prog w0 s H (.binOp .eql 32 x y t') ty (.bool c):=by
 have h1:=OX (w0:=w0) (H:=H) (ty:=ty) (t' :=t') hx hy
 rwa [Gi,h] at h1
theorem nX {a b:Rct} {c:Bool} (h:decide (a=b)=c) (hx:ev s x=some (.agg (bK a).toArray)) (hy:ev s y=some (.agg (bK b).toArray)):VOp Tryz.prog w0 s H (.binOp .neq 32 x y t') ty (.bool (!c)):=by
 have h1:=OP (w0:=w0) (H:=H) (ty:=ty) (t' :=t') hx hy
 rwa [Gi,h] at h1
end
theorem DW (a b:Rf) (w:World):ay Tryz.prog 114 [.agg (bh a).toArray,.agg (bh b).toArray] w (.bool (aU a b)):=by
 refine aq Tryz.func114 rfl Tryz.ntmps114 rfl ?_
 repeat' (first|refine sT ?_|refine sM fun _=> ?_|(refine sC ?_ ?_<;>intro hb<;>try omega)|fail)
 all_goals ((refine rT1 ?_);((try simp only [← Int.not_lt] at*);simp_all [aU, -Int.not_lt, -Int.not_le,← Int.not_lt]))
theorem iq (a:Rf) (w:World):ay Tryz.prog 320 [.agg (bh a).toArray] w (.agg (bK (BF a.col a.row)).toArray):=by
 refine aq Tryz.func320 rfl Tryz.ntmps320 rfl ?_
 repeat' (first|refine sT ?_|refine sM fun _=> ?_|(refine sC ?_ ?_<;>intro hb<;>try omega)|fail)
 all_goals ((refine eRC ?_);rfl)
theorem iS {a:ByteArray} {i:Nat} (h:a.size≤i):bat a i=0:=by
 rw [bat,Ru,Sn (by rw [au];exact h)];rfl
theorem mR (a:ByteArray) (ha:a.size≤1000000) (i:Nat) (w:World):ay Tryz.prog 281 [.string a,.int .i64 (i:Int)] w (.bool (aF (bat a i))):=by
 refine aq Tryz.func281 rfl Tryz.ntmps281 rfl ?_
 have h0:=fun h:a.size≤i=>iS h
 generalize hc:bat a i=c at h0
 repeat' (first|(apply ak;exact rfl;apply aZ (j:=i);exact rfl;exact rfl;omega)|(rw [hc])|refine sT ?_|refine sT2 ?_|refine sM fun _=> ?_|(refine sC ?_ ?_<;>intro hb<;>try omega)|fail)
 all_goals ((refine rT1 ?_);(try rw [h0 (by omega)]);simp_all [aF];try omega)
theorem lS (a:ByteArray) (ha:a.size≤1000000) (i:Nat) (w:World):ay Tryz.prog 284 [.string a,.int .i64 (i:Int)] w (.bool (bV (bat a i))):=by
 refine aq Tryz.func284 rfl Tryz.ntmps284 rfl ?_
 have h0:=fun h:a.size≤i=>iS h
 generalize hc:bat a i=c at h0
 repeat' (first|(apply ak;exact rfl;apply aZ (j:=i);exact rfl;exact rfl;omega)|(rw [hc])|refine sT ?_|refine sT2 ?_|refine sM fun _=> ?_|(refine sC ?_ ?_<;>intro hb<;>try omega)|fail)
 all_goals ((refine rT1 ?_);(try rw [h0 (by omega)]);simp_all [bV];try omega)
def BP (c:Int):Int:=if bV c then upC c - 64 else 0
theorem pu (c:Int) (h0:0≤c) (h1:c<256) (w:World):ay Tryz.prog 359 [.int .u8 c] w (.int .i64 (BP c)):=by
 refine aq Tryz.func359 rfl Tryz.ntmps359 rfl ?_
 repeat' (first|(apply ak (d:=10);exact rfl;apply dF (c:=c - 65);exact rfl;exact rfl;exact wrap_u8 (by omega) (by omega))|(apply ak (d:=20);exact rfl;apply dF (c:=c - 97);exact rfl;exact rfl;exact wrap_u8 (by omega) (by omega))|(apply ak (d:=11);exact rfl;apply bW (c:=c - 65);exact rfl;exact I64.wrap ⟨by omega,by omega⟩)|(apply ak (d:=21);exact rfl;apply bW (c:=c - 97);exact rfl;exact I64.wrap ⟨by omega,by omega⟩)|(apply ak (d:=12);exact rfl;apply eV;exact rfl;exact rfl;exact ⟨by omega,by omega⟩)|(apply ak (d:=22);exact rfl;apply eV;exact rfl;exact rfl;exact ⟨by omega,by omega⟩)|refine sT ?_|refine sM fun _=> ?_|(refine sC ?_ ?_<;>intro hb<;>try omega)|fail)
 all_goals
  (refine rT1 ?_)
  unfold BP upC
  first
   |(rw [if_pos ((gO c).2 (by omega)),if_pos (by omega)];congr 1;omega)
   |(rw [if_pos ((gO c).2 (by omega)),if_neg (by omega)];congr 1;omega)
   |(rw [if_neg (by rw [gO];omega)])
set_option maxHeartbeats 1000000 in
theorem j8 (a:ByteArray) (ha:a.size≤1000000) (w:World):ay Tryz.prog 188 [.string a] w (.string (upB a)):=by
 refine aq Tryz.func188 rfl Tryz.ntmps188 rfl ?_
 repeat' (first|(apply lH;exact rfl;exact rfl;intro gb cap)|refine sT ?_|refine sM fun _=> ?_|(refine sC ?_ ?_<;>intro hb<;>try omega)|fail)
 refine ax [3] rfl (fun i:Nat=> [(4,.int .i64 (i:Int))]) (fun i=> [.byt gb 5 a.size cap ((((ap a).take i).map upC++(ap a).drop i).map (Value.int .u8))]) (fun i=>i≤a.size) (fun i=>a.size - i) 0 (by omega) sB ?_ ?_
 ·
  rw [oC];simp only [Su,Sl,QU,SA];exact mS
 intro i hi
 have hl:=au a
 by_cases hlt:i<a.size
 ·
  have hil:i<(ap a).length:=by omega
  have hok:=l5 a (ap a)[i] (RQ hil)
  have hget:((((ap a).take i).map upC++(ap a).drop i).map (Value.int .u8))[0+i*1]? =some (.int .u8 (ap a)[i]):=by
   rw [RM,show 0+i*1=i by omega,RZ (by simp;omega)]
   simp [SW (Nat.le_of_lt hil),SB]
  have hstep:97≤(ap a)[i]∧(ap a)[i]≤122→upC (ap a)[i]=(ap a)[i] - 32:=fun h=>by rw [upC,if_pos h]
  have hsame: ¬ (97≤(ap a)[i]∧(ap a)[i]≤122)→upC (ap a)[i]=(ap a)[i]:=fun h=>by rw [upC,if_neg h]
  have hupd:=uG upC (Value.int .u8) (ap a) i hil
  have hkeep: ∀ v,(((ap a).take i).map upC++(ap a).drop i).map (Value.int .u8)=v→upC (ap a)[i]=(ap a)[i]→v=(((ap a).take (i+1)).map upC++(ap a).drop (i+1)).map (Value.int .u8):=fun v hv hs=>by
   rw [← hupd,hs,← hv]
   rw [show 0+i*1=i by omega] at hget
   obtain ⟨h1,h2⟩:=Rn.1 hget
   rw [← h2,List.set_getElem_self]
  generalize (ap a)[i]=c at hget hok hstep hsame hupd hkeep
  repeat' (first|(apply ak;exact rfl;apply aj;exact rfl;exact rfl;exact hlt)|(apply ak;exact rfl;apply jH;exact rfl;exact pK;exact hget)|(apply ak (d:=31);exact rfl;apply dF (c:=c - 32);exact rfl;exact rfl;exact wrap_u8 (by omega) (by omega))|(apply lI;exact rfl;exact rfl;exact pK;exact rfl;(simp;omega))|refine sT ?_|refine sS ?_|refine sW ?_|refine sN ?_|refine sWN ?_|refine sM fun _=> ?_|(refine sC ?_ ?_<;>intro hb<;>try omega)|(refine sCW ?_ ?_<;>intro hb<;>try omega)|fail)
  ·
   rw [show 0+i*1=i by omega,← hstep ⟨by assumption,by assumption⟩,hupd]
   exact ⟨i+1,hlt,by omega,sB,sB,mS⟩
  ·
   exact ⟨i+1,hlt,by omega,sB,sB,(by rw [← hkeep _ rfl (hsame (by omega))];exact mS)⟩
  ·
   exact ⟨i+1,hlt,by omega,sB,sB,(by rw [← hkeep _ rfl (hsame (by omega))];exact mS)⟩
 ·
  have e2:i=a.size:=by omega
  subst e2
  rw [RS (by omega),Ry (by omega),QW]
  repeat' (first|(apply ak (d:=34);exact rfl;apply q9;exact rfl;exact pK;(rw [RN];omega))|refine sT ?_|refine sS ?_|refine sM fun _=> ?_|(refine sC ?_ ?_<;>intro hb<;>try omega)|fail)
  (refine rT1 ?_)
  rfl
structure DecP (l:List Int) (neg:Bool) (fr n:Nat) (D:List Int) (r:Int):Prop where
 negE:neg=decide (l.head? =some 45)
 frE:fr=if neg then 1 else 0
 nE:n=aC aF (l.drop fr)
 pos:n≠0
 len:D.length=n+4
 at1: ∀ k,k<n→D[k]? =l[fr+k]?
 at2: ∀ k,n≤k→k<n+4→D[k]? =some (l.getD (fr+k+1) 48)
 rnd:r=l.getD (fr+n+5) 48
 end_: ∀ k,fr+n<k→k<l.length→aF (l.getD k 0)=true
 res:f4 l=if cI<bw D 0+(if 53≤r then 1 else 0) then (0,3) else (if neg then -(bw D 0+(if 53≤r then 1 else 0)) else bw D 0+(if 53≤r then 1 else 0),0)
theorem EB (l:List Int) (i k:Nat) (d:Int):(l.drop i).getD k d=l.getD (i+k) d:=by
 rw [Ru,Ru,SB]
theorem DecP.dig {l:List Int} {neg:Bool} {fr n:Nat} {D:List Int} {r:Int} (h:DecP l neg fr n D r) {k:Nat} {c:Int} (hk:D[k]? =some c):48≤c∧c≤57:=by
 have hlt:k<n+4:=by
  have:=(Rn.1 hk).1
  rw [h.len] at this;exact this
 rcases SR k n with h1|h1
 ·
  rw [h.at1 k h1] at hk
  refine (eD c).1 (jM (l.drop fr) k c (by rw [← h.nE];exact h1) ?_)
  rw [SB];exact hk
 ·
  rw [h.at2 k h1 hlt] at hk
  injection hk with hk
  rcases SR (fr+k+1) l.length with h2|h2
  ·
   have:=h.end_ (fr+k+1) (by omega) h2
   rw [Ru,QQ h2] at this hk
   simp only [Te] at this hk
   rw [hk] at this
   exact (eD c).1 this
  ·
   rw [Ru,Sn h2] at hk
   simp only [Option.getD_none] at hk
   omega
theorem IM (l:List Int) (neg:Bool) (hneg:neg=decide (l.head? =some 45)) (fr:Nat) (hfr:fr=if neg then 1 else 0) (n:Nat) (hn:n=aC aF (l.drop fr)) (e:Nat) (he:e=if l[fr+n]? =some 46 then fr+n+1+aC aF (l.drop (fr+n+1)) else fr+n):
  ((n=0∨e≠l.length∨e=fr+n+1)∧f4 l=(0,4))∨(n≠0∧e=l.length∧e≠fr+n+1∧ ∃ D r,DecP l neg fr n D r):=by
 have hls:(if neg then l.tail else l)=l.drop fr:=by
  subst hfr
  cases neg<;>simp
 have hnl:n≤(l.drop fr).length:=hn ▸ bY aF _
 rw [Rk] at hnl
 have hfl:fr≤l.length:=by
  subst hfr
  cases neg with
  |false=>simp
  |true=>
   have:l.head? =some 45:=of_decide_eq_true hneg.symm
   cases l with
   |nil=>cases this
   |cons=>simp
 obtain ⟨rest,hrest⟩: ∃ rest,(l.drop fr).drop n=rest:=⟨_,rfl⟩
 have hr2:l.drop (fr+n)=rest:=by rw [← Sw];exact hrest
 have hrl:rest.length=l.length - (fr+n):=by rw [← hr2,Rk]
 have hhead:rest.head? =l[fr+n]? :=by rw [← hr2,List.head?_drop]
 have htail:rest.tail=l.drop (fr+n+1):=by rw [← hr2,TF]
 have hrt:aC aF rest.tail≤rest.tail.length:=bY _ _
 rw [TV] at hrt
 rw [← hhead,← htail] at he
 obtain ⟨q,hq⟩: ∃ q,aC aF rest.tail=q:=⟨_,rfl⟩
 rw [hq] at he hrt
 have hdec: ∀ fc,(decide (1<rest.length) && (decide (rest.head? =some 46) && decide (q+1=rest.length)))=fc→f4 l=if n=0∨(fc=false∧rest≠ []) then (0,4)
   else if cI<bw ((l.drop fr).take n++((if fc then rest.tail else [])++ [48,48,48,48,48]).take 4) 0+(if 53≤((if fc then rest.tail else [])++ [48,48,48,48,48]).getD 4 0 then 1 else 0) then (0,3)
   else (if neg then -(bw ((l.drop fr).take n++((if fc then rest.tail else [])++ [48,48,48,48,48]).take 4) 0+(if 53≤((if fc then rest.tail else [])++ [48,48,48,48,48]).getD 4 0 then 1 else 0)) else bw ((l.drop fr).take n++((if fc then rest.tail else [])++ [48,48,48,48,48]).take 4) 0+(if 53≤((if fc then rest.tail else [])++ [48,48,48,48,48]).getD 4 0 then 1 else 0),0):=by
  intro fc hfc
  unfold f4
  rw [← hneg]
  simp only [hls,← hn,hrest,hq,hfc]
 by_cases h0:n=0
 ·
  left
  refine ⟨.inl h0,?_⟩
  rw [hdec _ rfl,if_pos (.inl h0)]
 by_cases h46:rest.head? =some 46
 ·
  rw [if_pos h46] at he
  have hpos:0<rest.length:=by
   cases rest with
   |nil=>cases h46
   |cons=>simp
  by_cases hfin:1<rest.length∧q+1=rest.length
  ·
   right
   refine ⟨h0,by omega,by omega,?_⟩
   have hfrac:(decide (1<rest.length) && (decide (rest.head? =some 46) && decide (q+1=rest.length)))=true:=by simp [h46,hfin.1,hfin.2]
   have hd:=hdec _ hfrac
   simp only [if_true] at hd
   rw [if_neg (by simp [h0])] at hd
   have hall: ∀ k,fr+n<k→k<l.length→aF (l.getD k 0)=true:=fun k h1 h2=>by
    obtain ⟨j,rfl⟩: ∃ j,k=fr+n+1+j:=⟨k - (fr+n+1),by omega⟩
    have hj:j<aC aF rest.tail:=by omega
    refine jM rest.tail j _ hj ?_
    rw [htail,SB,Ru,QQ h2];rfl
   have hp5: ∀ k,k<5→(rest.tail++ [48,48,48,48,48])[k]? =some (l.getD (fr+n+k+1) 48):=fun k hk=>by
    rw [show fr+n+k+1=fr+n+1+k by omega,← EB,← htail]
    rw [Ru]
    rcases SR k rest.tail.length with h|h
    ·
     rw [Sh h,QQ h];rfl
    ·
     rw [RZ h,Sn h]
     have:k - rest.tail.length<5:=by omega
     rcases (by omega:k - rest.tail.length=0∨k - rest.tail.length=1∨k - rest.tail.length=2∨k - rest.tail.length=3∨k - rest.tail.length=4) with h|h|h|h|h<;>rw [h]<;>rfl
   refine ⟨(l.drop fr).take n++(rest.tail++ [48,48,48,48,48]).take 4,(rest.tail++ [48,48,48,48,48]).getD 4 0,hneg,hfr,hn,h0,?_,?_,?_,?_,hall,hd⟩
   ·
    simp only [QP,Rq,Rk,Rp,Tp]
    omega
   ·
    intro k hk
    rw [Sh (by simp;omega),SY hk,SB]
   ·
    intro k h1 h2
    rw [RZ (by simp;omega)]
    rw [Rq,Rk,SW (by omega),SY (by omega),hp5 _ (by omega)]
    congr 2;omega
   ·
    rw [Ru,hp5 4 (by omega)];rfl
  ·
   left
   have hfrac:(decide (1<rest.length) && (decide (rest.head? =some 46) && decide (q+1=rest.length)))=false:=by
    simp only [h46,decide_true,Sy,Sk,decide_eq_false_iff_not]
    omega
   refine ⟨by omega,?_⟩
   rw [hdec _ hfrac,if_pos (.inr ⟨rfl,fun h=>by rw [h] at hpos;exact Nat.lt_irrefl _ hpos⟩)]
 ·
  rw [if_neg h46] at he
  have hfrac:(decide (1<rest.length) && (decide (rest.head? =some 46) && decide (q+1=rest.length)))=false:=by simp [h46]
  have hd:=hdec _ hfrac
  simp only [RT,if_false] at hd
  by_cases hnil:rest= []
  ·
   right
   have hlen:fr+n=l.length:=by rw [hnil] at hrl;simp at hrl;omega
   refine ⟨h0,by omega,by omega,?_⟩
   rw [if_neg (by simp [h0,hnil])] at hd
   have hp5: ∀ k,k<5→(([]:List Int)++ [48,48,48,48,48])[k]? =some (l.getD (fr+n+k+1) 48):=fun k hk=>by
    have e0:l.getD (fr+n+k+1) 48=48:=by rw [Ru,Sn (by omega)];rfl
    rw [e0]
    rcases (by omega:k=0∨k=1∨k=2∨k=3∨k=4) with h|h|h|h|h<;>rw [h]<;>rfl
   refine ⟨(l.drop fr).take n++(([]:List Int)++ [48,48,48,48,48]).take 4,(([]:List Int)++ [48,48,48,48,48]).getD 4 0,hneg,hfr,hn,h0,?_,?_,?_,?_,fun k h1 h2=>by omega,hd⟩
   ·
    simp;omega
   ·
    intro k hk
    rw [Sh (by simp;omega),SY hk,SB]
   ·
    intro k h1 h2
    rw [RZ (by simp;omega)]
    rw [Rq,Rk,SW (by omega),SY (by omega),hp5 _ (by omega)]
    congr 2;omega
   ·
    rw [Ru,hp5 4 (by omega)];rfl
  ·
   left
   have:0<rest.length:=Sx.2 hnil
   refine ⟨by omega,?_⟩
   rw [hd,if_pos (.inr ⟨trivial,hnil⟩)]
end Go.SL
