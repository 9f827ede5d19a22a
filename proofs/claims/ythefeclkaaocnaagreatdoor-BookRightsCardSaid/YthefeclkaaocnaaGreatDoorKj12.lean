/-
  Lemmas and walks, put together: B5 W11 W12 W13 Px Px2.
-/
import Derived.Test.YthefeclkaaocnaaGreatDoorKj11
set_option linter.unusedSimpArgs false
set_option linter.unusedVariables false
set_option maxRecDepth 20000
namespace Go.SL
open Go Go.Proofs
attribute [local irreducible] W WL WQ WG WA WX WLI WR WT VOp thn blk bG scp bg bT aQ FnIn
def mV:List (List Int→Option (Tk × Nat)):= [fu,mQ,gK,ku,gX]
def mg (l:List Int):List (List Int→Option (Tk × Nat))→Option (Tk × Nat)
 | []=>none
 |r::rs=>match r l with
  |some x=>some x
  |none=>mg l rs
def dZ (l:List Int):Option (Tk × Nat):=mg l mV
def ba (tk:List Int→Option (Tk × Nat)) (l:List Int):Nat→Nat→Except Nat (List Tk)
 |0,_=> .ok []
 |f+1,i=>
  match l.drop i with
  | []=> .ok []
  |c::_=>
   if c=32 then ba tk l f (i+1)
   else match tk (l.drop i) with
    |none=> .error i
    |some (t,n)=>(ba tk l f (i+n)).map fun r=>{ t with at_:=(i:Int) }::r
def Fits (l:List Int) (o:Option (Tk × Nat)):Prop:= ∀ t n,o=some (t,n)→0<n∧n≤l.length
theorem Fits.none {l:List Int}:Fits l none:=fun _ _ h=>by cases h
theorem Fits.some {l:List Int} {t:Tk} {n:Nat} (h1:0<n) (h2:n≤l.length):Fits l (some (t,n)):=fun _ _ h=>by cases h;exact ⟨h1,h2⟩
theorem lF {l:List Int} {c:Int} (h:l.headD 0=c) (hc:c≠0):0<l.length:=by
 cases l with
 |nil=>exact absurd h.symm hc
 |cons=>simp
theorem CM (l:List Int):bS l=0∨bS l+1≤l.length:=by
 unfold bS
 split
 ·
  right
  rename_i r
  have:=bR aC r
  simp;omega
 ·
  left;rfl
theorem rA (l:List Int):Fits l (fu l):=by
 unfold fu
 dsimp only
 have h1:=bR aC l
 have h2:=CM (l.drop (aB aC l))
 rw [NP] at h2
 have h3:(if bS (l.drop (aB aC l))=0 then aB aC l else aB aC l+1+bS (l.drop (aB aC l)))≤l.length∧aB aC l≤(if bS (l.drop (aB aC l))=0 then aB aC l else aB aC l+1+bS (l.drop (aB aC l))):=by
  split<;>omega
 generalize (if bS (l.drop (aB aC l))=0 then aB aC l else aB aC l+1+bS (l.drop (aB aC l)))=m at h3 ⊢
 split
 ·
  exact .none
 ·
  rename_i h
  split
  ·
   exact .none
  ·
   exact .some (by omega) (by omega)
theorem oh: ∀ (n:Nat) (l:List Int) (k:Nat),l.length≤n→cD l=some k→k<l.length
 |_,[],_,_,h=>by simp [cD] at h
 |0,c::r,_,hn,_=>by simp at hn
 |n+1,c::r,k,hn,h=>by
  by_cases hc:c=34
  ·
   subst hc
   cases r with
   |nil=>simp [cD] at h;subst h;simp
   |cons d r' =>
    by_cases hd:d=34
    ·
     subst hd
     simp only [cD,ne_eq,not_true_eq_false,if_false,if_true,OK] at h
     obtain ⟨j,hj,rfl⟩:=h
     have:=oh n r' j (by simp at hn;omega) hj
     simp;omega
    ·
     simp [cD,hd] at h
     subst h;simp
  ·
   rw [kv hc,OK] at h
   obtain ⟨j,hj,rfl⟩:=h
   have:=oh n r j (by simp at hn;omega) hj
   simp;omega
theorem Fv (l:List Int):Fits l (mQ l):=by
 unfold mQ
 split
 ·
  exact .none
 ·
  rename_i h
  have h0:=lF (c:=34) (Decidable.not_not.1 h) (by decide)
  split
  ·
   exact .none
  ·
   rename_i k hk
   have:=oh _ _ k (NJ _) hk
   rw [NP] at this
   split
   ·
    exact .none
   ·
    exact .some (by omega) (by omega)
theorem vX (l:List Int):Fits l (gK l):=by
 have h1:=bR cL l
 have h2:=bR cL (l.drop (aB cL l+1))
 rw [NP] at h2
 have hpos:bN (l.headD 0)≠false→0<aB cL l:=fun h=>by
  cases l with
  |nil=>exact absurd rfl h
  |cons c r=>
   have:bN c=true:=by simpa using h
   simp [aB,cL,this]
 unfold gK
 split
 ·
  exact .none
 ·
  rename_i h
  have hp:=hpos h
  split
  ·
   exact .some hp h1
  ·
   split
   ·
    exact .some hp h1
   ·
    split
    ·
     exact .some hp h1
    ·
     split
     ·
      exact .none
     ·
      split
      ·
       rename_i hq
       have:=lF hq.1 (by decide)
       rw [NP] at this
       exact .some (by omega) (by omega)
      ·
       exact .some hp h1
theorem uS (l:List Int): ∀ (ns:List (List Int)) (c k:Int) (n:Nat),(∀ s∈ns,s≠ [])→jV l ns c=some (k,n)→0<n∧n≤l.length
 | [],_,_,_,_,h=>by cases h
 |s::r,c,k,n,hs,h=>by
  rw [jV] at h
  split at h
  ·
   rename_i he
   cases h
   have:=congrArg List.length he
   rw [OV,NZ] at this
   have:=O2.2 (hs s NI)
   omega
  ·
   exact uS l r _ k n (fun s hs' =>hs s (NQ _ hs')) h
theorem wW (l:List Int):Fits l (ku l):=by
 intro t n h
 unfold ku at h
 rw [OK] at h
 obtain ⟨⟨c,m⟩,h1,h2⟩:=h
 cases h2
 exact uS l dI 1 c _ (by decide) h1
theorem z1 (l:List Int): ∀ (ns:List (List Int × Int)) (k:Int) (n:Nat),(∀ s∈ns,s.1≠ [])→opL l ns=some (k,n)→0<n∧n≤l.length
 | [],_,_,_,h=>by cases h
 |(s,c)::r,k,n,hs,h=>by
  rw [opL] at h
  split at h
  ·
   rename_i he
   cases h
   have:=congrArg List.length he
   rw [NZ] at this
   have:=O2.2 (hs _ NI)
   dsimp only at this
   omega
  ·
   exact z1 l r k n (fun s hs' =>hs s (NQ _ hs')) h
theorem ww (l:List Int):Fits l (gX l):=by
 unfold gX
 split
 ·
  rename_i k n h
  have:=z1 l eP k n (by decide) h
  exact .some this.1 this.2
 ·
  split
  ·
   exact .some (by omega) (lF (by assumption) (by decide))
  ·
   split
   ·
    exact .some (by omega) (lF (by assumption) (by decide))
   ·
    split
    ·
     exact .some (by omega) (lF (by assumption) (by decide))
    ·
     exact .none
theorem uP (l:List Int): ∀ rs:List (List Int→Option (Tk × Nat)),(∀ r∈rs,Fits l (r l))→Fits l (mg l rs)
 | [],_=> .none
 |r::rs,h=>by
  unfold mg
  split
  ·
   rename_i x hx
   exact hx ▸ h r NI
  ·
   exact uP l rs fun r hr=>h r (NQ _ hr)
theorem FA (l:List Int): ∀ r∈mV,Fits l (r l):=by
 intro r hr
 simp only [mV,NS,PI,or_false] at hr
 rcases hr with rfl|rfl|rfl|rfl|rfl
 ·
  exact rA l
 ·
  exact Fv l
 ·
  exact vX l
 ·
  exact wW l
 ·
  exact ww l
theorem tP (l:List Int):Fits l (dZ l):=uP l _ (FA l)
theorem pM {tk:List Int→Option (Tk × Nat)} {l:List Int} (ht: ∀ m,Fits m (tk m)): ∀ (b d f i:Nat),d≤b→l.length - i=d→d≤f→ba tk l f i=ba tk l d i:=by
 intro b
 induction b with
 |zero=>
  intro d f i hb hd hf
  have:d=0:=by omega
  subst this
  cases f with
  |zero=>rfl
  |succ f=>
   simp only [ba]
   rw [N0 (by omega)]
 |succ b ih=>
  intro d f i hb hd hf
  cases d with
  |zero=>
   cases f with
   |zero=>rfl
   |succ f=>
    simp only [ba]
    rw [N0 (by omega)]
  |succ m=>
   obtain ⟨g,rfl⟩: ∃ g,f=g+1:=⟨f - 1,by omega⟩
   simp only [ba]
   have hi:i<l.length:=by omega
   rw [NL hi]
   dsimp only
   split
   ·
    exact ih m g (i+1) (by omega) (by omega) (by omega)
   ·
    split
    ·
     rfl
    ·
     rename_i t n hn
     have:=ht _ t n hn
     rw [ih (l.length - (i+n)) g (i+n) (by omega) rfl (by omega),ih (l.length - (i+n)) m (i+n) (by omega) rfl (by omega)]
def bL (tk:List Int→Option (Tk × Nat)) (l:List Int):List Tk × Int × Int:=
 if 256<l.length then ([],0,5)
 else match l.findIdx? (fun c=> !bq c) with
  |some i=>([],(i:Int),4)
  |none=>match ba tk l l.length 0 with
   | .ok r=>(r,0,0)
   | .error i=>([],(i:Int),4)
def Ep (A:Option Nat) (cap:Nat) (r:List Tk × Int × Int):Value:= .tuple #[sl A r.1.length cap,.int .i64 r.2.1,.int .i64 r.2.2]
def Ct:List Nat:= [243,244,245,246,247]
theorem Ks (a:ByteArray) (ha:a.size≤10000) (i:Nat) (hi:i<a.size) (g:Nat) (k:Nat) (hk:k<5):
  ∃ f r,mV.drop k=r::mV.drop (k+1)∧(Ct.map fun f=>Value.func (.func f) #[.pointer (some ⟨g,0,none⟩)] #[])[k]? =some (.func (.func f) #[.pointer (some ⟨g,0,none⟩)] #[])∧Callable Tryz.prog f∧
   ∀ w,Ro w g 0 [.string a]→Words w→ax Tryz.prog f [.pointer (some ⟨g,0,none⟩),.int .i64 (i:Int)] w (Ck (atT i (r ((ap a).drop i)))):=by
 rcases (by omega:k=0∨k=1∨k=2∨k=3∨k=4) with rfl|rfl|rfl|rfl|rfl
 ·
  exact ⟨_,_,rfl,rfl,inferInstance,fun w hr _=>FR a (by omega) i (by omega) g w hr⟩
 ·
  exact ⟨_,_,rfl,rfl,inferInstance,fun w hr _=>Km a (by omega) i hi g w hr⟩
 ·
  exact ⟨_,_,rfl,rfl,inferInstance,fun w hr _=>J2 a ha i hi g w hr⟩
 ·
  exact ⟨_,_,rfl,rfl,inferInstance,fun w hr hW=>KY a (by omega) i (by omega) g w hr hW⟩
 ·
  exact ⟨_,_,rfl,rfl,inferInstance,fun w hr _=>Ko a (by omega) i hi g w hr⟩
theorem nF {a:ByteArray} {q:Int→Bool} {i:Nat} (h:i<a.size) (hq:q (bat a i)=true) (hno: ∀ j,j<i→q (bat a j)=false):(ap a).findIdx? q=some i:=by
 rw [Pm]
 have hl:=av a
 have hg: ∀ j (hj:j<(ap a).length),(ap a)[j]=bat a j:=fun j hj=>by
  have:=gj (a:=a) (i:=j) (by omega)
  rw [NE hj] at this
  exact Option.some.inj this
 refine ⟨by omega,by rw [hg];exact hq,fun j hj=> ?_⟩
 rw [hg,hno j hj];simp
theorem l5 {a:ByteArray} {q:Int→Bool} (hno: ∀ j,j<a.size→q (bat a j)=false):(ap a).findIdx? q=none:=by
 rw [Pd]
 intro x hx
 obtain ⟨j,hj,rfl⟩:=PG hx
 have hl:=av a
 have:=gj (a:=a) (i:=j) (by omega)
 rw [NE hj] at this
 rw [Option.some.inj this]
 exact hno j (by omega)
set_option maxHeartbeats 2000000 in
theorem Gz (a:ByteArray) (w:World) (hW:Words w):
  aQ Tryz.prog 203 [.string a] w fun v H=> ∃ A cap,v=Ep A cap (bL dZ (ap a))∧H= [.own A 295 8 (bL dZ (ap a)).1.length cap ((bL dZ (ap a)).1.flatMap aY)]:=by
 refine aq Tryz.func203 rfl Tryz.ntmps203 rfl ?_
 have hl:=av a
 unfold bL
 refine aP 295 8 ?_
 by_cases hlen:256<(ap a).length
 ·
  rw [if_pos hlen]
  repeat' (first|refine sT ?_|refine sS ?_|refine sT2 ?_|refine sM fun _=> ?_|(refine sC ?_ ?_<;>intro hb<;>try omega)|fail)
  all_goals try (exfalso;omega)
  exact ou (.inl rfl) rfl rfl rfl rfl (.refl _) ⟨none,0,rfl,rfl⟩
 ·
  rw [if_neg hlen]
  repeat' (first|refine sT ?_|refine sS ?_|refine sT2 ?_|refine sM fun _=> ?_|(refine sC ?_ ?_<;>intro hb<;>try omega)|fail)
  all_goals try (exfalso;omega)
  refine ay [0,2,17] rfl (fun i:Nat=> [(18,.int .i64 (i:Int))]) (fun _=> [.own none 295 8 0 0 []]) (fun i=>i≤a.size∧ ∀ j,j<i→bq (bat a j)=true) (fun i=>a.size - i) 0 ⟨by omega,fun j h=>by omega⟩ sB mS ?_
  rintro i ⟨hi,hpl⟩
  by_cases hlt:i<a.size
  ·
   repeat' (first|refine sT ?_|refine sS ?_|refine sT2 ?_|refine sN ?_|refine sM fun _=> ?_|(refine sC ?_ ?_<;>intro hb<;>try omega)|fail)
   ·
    have hf:(ap a).findIdx? (fun c=> !bq c)=some i:=by
     refine nF hlt ?_ fun j hj=>by rw [hpl j hj];rfl
     simp only [bq,Bool.not_eq_true',OQ,decide_eq_false_iff_not]
     omega
    rw [hf]
    exact ou (.inl rfl) rfl rfl rfl rfl (.refl _) ⟨none,0,rfl,rfl⟩
   ·
    have hf:(ap a).findIdx? (fun c=> !bq c)=some i:=by
     refine nF hlt ?_ fun j hj=>by rw [hpl j hj];rfl
     simp only [bq,Bool.not_eq_true',OQ,decide_eq_false_iff_not]
     omega
    rw [hf]
    exact ou (.inl rfl) rfl rfl rfl rfl (.refl _) ⟨none,0,rfl,rfl⟩
   ·
    refine ⟨i+1,?_,(by first|omega|(dsimp only;omega)),sB,sB,mS⟩
    refine ⟨hlt,fun j hj=> ?_⟩
    rcases (by omega:j<i∨j=i) with h|rfl
    ·
     exact hpl j h
    ·
     rename_i h1
     simp only [bq,NK,decide_eq_true_eq]
     omega
  ·
   have e:i=a.size:=by omega
   subst e
   have hf:(ap a).findIdx? (fun c=> !bq c)=none:=l5 fun j hj=>by rw [hpl j hj];rfl
   rw [hf]
   dsimp only
   repeat' (first|(apply ak;exact rfl;apply lQ;exact rfl)|(apply BP;(iterate 6 exact rfl))|refine sT ?_|refine sS ?_|refine sT2 ?_|refine sN ?_|refine sM fun _=> ?_|(refine sC ?_ ?_<;>intro hb<;>try omega)|fail)
   all_goals try (exfalso;omega)
   rename_i g6 g7
   generalize hT:ba dZ (ap a) (ap a).length 0=T
   refine ay [0,6,7] rfl (fun x:Nat × List Tk × Option Nat × Nat=> [(2,sl x.2.2.1 x.2.1.length x.2.2.2),(8,.int .i64 (x.1:Int))]) (fun x=> [.own x.2.2.1 295 8 x.2.1.length x.2.2.2 (x.2.1.flatMap aY),.box g7 336 (Ct.map fun f=>Value.func (.func f) #[.pointer (some ⟨g6,0,none⟩)] #[]),.box g6 334 [.string a]])
    (fun x=>x.1≤a.size∧x.2.1.length≤x.1∧T=(ba dZ (ap a) (a.size - x.1) x.1).map (x.2.1++ ·)) (fun x=>a.size - x.1) (0,[],none,0) ⟨by omega,by simp,by rw [← hT,hl];cases ba dZ (ap a) a.size 0<;>rfl⟩ sB mS ?_
   rintro ⟨i,toks,A,cap⟩ ⟨hi2,hi3,hi4⟩
   dsimp only at hi2 hi3 hi4 ⊢
   by_cases hlt2:i<a.size
   ·
    obtain ⟨f,hf1⟩: ∃ f,a.size - i=f+1:=⟨a.size - i - 1,by omega⟩
    rw [hf1] at hi4
    simp only [ba] at hi4
    have hdr:=aZ hlt2
    generalize hld:(ap a).drop i=ld at hi4 hdr
    rw [hdr] at hi4
    dsimp only at hi4
    by_cases h32:bat a i=32
    ·
     rw [if_pos h32] at hi4
     repeat' (first|refine sT ?_|refine sS ?_|refine sT2 ?_|refine sN ?_|refine sM fun _=> ?_|(refine sC ?_ ?_<;>intro hb<;>try omega)|fail)
     all_goals try (exfalso;omega)
     refine ⟨(i+1,toks,A,cap),?_,(by first|omega|(dsimp only;omega)),sB,sB,mS⟩
     exact ⟨hlt2,by dsimp only;omega,by dsimp only;rw [show a.size - (i+1)=f by omega];exact hi4⟩
    ·
     rw [if_neg h32,← hdr] at hi4
     repeat' (first|refine sT ?_|refine sS ?_|refine sT2 ?_|refine sN ?_|refine sM fun _=> ?_|(refine sC ?_ ?_<;>intro hb<;>try omega)|fail)
     all_goals try (exfalso;omega)
     have hldl:ld.length=a.size - i:=by rw [← hld,NP,hl]
     refine ay [0,2,6,7,8,57] rfl (fun k:Nat=> [(58,.int .i64 (k:Int))]) (fun _=> [.own A 295 8 toks.length cap (toks.flatMap aY),.box g7 336 (Ct.map fun f=>Value.func (.func f) #[.pointer (some ⟨g6,0,none⟩)] #[]),.box g6 334 [.string a]]) (fun k=>k≤5∧dZ ld=mg ld (mV.drop k)) (fun k=>5 - k) 0 ⟨by omega,rfl⟩ sB mS ?_
     rintro k ⟨hk,hkt⟩
     by_cases hk5:k<5
     ·
      obtain ⟨f2,r,r1,r2,r3,r4⟩:=Ks a (by omega) i hlt2 g6 k hk5
      rw [hld] at r4
      rw [r1,mg] at hkt
      cases ho:r ld with
      |none=>
       rw [ho] at hkt r4
       dsimp only at hkt
       repeat' (first|(apply ak;exact rfl;apply mK;exact rfl;exact rfl;exact hk5;exact r2)|(apply qB;exact rfl;exact rfl;exact r3;exact rfl;(intro w' hm;exact r4 w' (Ro.of_box hm pK) (hW.next hm)))|refine sT ?_|refine sS ?_|refine sT2 ?_|refine sN ?_|refine sM fun _=> ?_|(refine sC ?_ ?_<;>intro hb<;>try omega)|fail)
       all_goals try (exfalso;omega)
       refine ⟨k+1,?_,(by first|omega|(dsimp only;omega)),sB,sB,mS⟩
       exact ⟨hk5,hkt⟩
      |some x=>
       obtain ⟨t,m⟩:=x
       rw [ho] at hkt r4
       dsimp only at hkt
       have hfit:=tP ld t m hkt
       rw [hkt] at hi4
       dsimp only at hi4
       have hm0:0<m:=hfit.1
       repeat' (first|(apply ak;exact rfl;apply mK;exact rfl;exact rfl;exact hk5;exact r2)|(apply qB;exact rfl;exact rfl;exact r3;exact rfl;(intro w' hm;exact r4 w' (Ro.of_box hm pK) (hW.next hm)))|(apply aN;(iterate 3 exact rfl);exact pK;exact pK;exact rfl;(simp [aY,Value.oneCell']);omega;(simp only [maxLen];omega);intro g8 c8)|refine sT ?_|refine sS ?_|refine sT2 ?_|refine sN ?_|refine sM fun _=> ?_|(refine sC ?_ ?_<;>intro hb<;>try omega)|fail)
       all_goals try (exfalso;omega)
       refine ⟨(i+m,toks++ [{ t with at_:=(i:Int) }],some g8,c8),⟨by dsimp only;omega,by simp;omega,?_⟩,(by dsimp only;omega),?_,sB,?_⟩
       ·
        dsimp only
        rw [hi4,pM tP f (a.size - (i+m)) f (i+m) (by omega) (by omega) (by omega)]
        cases ba dZ (ap a) (a.size - (i+m)) (i+m)<;>simp [Except.map]
       ·
        simp only [ND,NG]
        exact sB
       ·
        simp only [ND,NG,NR,NU,Oy,NM]
        exact mS
     ·
      have e:k=5:=by omega
      subst e
      rw [show mg ld (mV.drop 5)=none from rfl] at hkt
      rw [hkt] at hi4
      dsimp only [Except.map] at hi4
      rw [hi4]
      refine aP 295 8 ?_
      repeat' (first|refine sT ?_|refine sS ?_|refine sT2 ?_|refine sN ?_|refine sM fun _=> ?_|(refine sC ?_ ?_<;>intro hb<;>try omega)|fail)
      all_goals try (exfalso;omega)
      exact ou (.inl rfl) rfl rfl rfl rfl (H' := [.own none 295 8 0 0 []]) mS ⟨none,0,rfl,rfl⟩
   ·
    have e:i=a.size:=by omega
    subst e
    rw [show a.size - a.size=0 by omega] at hi4
    simp only [ba,Except.map,NM] at hi4
    rw [hi4]
    repeat' (first|refine sT ?_|refine sS ?_|refine sT2 ?_|refine sN ?_|refine sM fun _=> ?_|(refine sC ?_ ?_<;>intro hb<;>try omega)|fail)
    all_goals try (exfalso;omega)
    exact ou (.inl rfl) rfl rfl rfl rfl (H' := [.own A 295 8 toks.length cap (toks.flatMap aY)]) mS ⟨A,cap,rfl,rfl⟩
end Go.SL
namespace Go.SL
open Go Go.Proofs
attribute [local irreducible] W WL WQ WG WA VOp thn blk bg aQ FnIn
def cZ:List ByteArray:= [
 ⟨#[65,66,83]⟩,⟨#[83,73,71,78]⟩,⟨#[73,78,84]⟩,⟨#[84,82,85,78,67]⟩,⟨#[82,79,85,78,68]⟩,
 ⟨#[77,79,68]⟩,⟨#[80,79,87,69,82]⟩,⟨#[83,81,82,84]⟩,⟨#[83,85,77]⟩,⟨#[80,82,79,68,85,67,84]⟩,
 ⟨#[67,79,85,78,84]⟩,⟨#[67,79,85,78,84,65]⟩,⟨#[67,79,85,78,84,66,76,65,78,75]⟩,⟨#[65,86,69,82,65,71,69]⟩,⟨#[77,73,78]⟩,
 ⟨#[77,65,88]⟩,⟨#[77,69,68,73,65,78]⟩,⟨#[76,65,82,71,69]⟩,⟨#[83,77,65,76,76]⟩,⟨#[73,70]⟩,
 ⟨#[65,78,68]⟩,⟨#[79,82]⟩,⟨#[88,79,82]⟩,⟨#[78,79,84]⟩,⟨#[73,70,69,82,82,79,82]⟩,
 ⟨#[73,83,69,82,82,79,82]⟩,⟨#[73,83,66,76,65,78,75]⟩,⟨#[73,83,78,85,77,66,69,82]⟩,⟨#[73,83,84,69,88,84]⟩,⟨#[67,72,79,79,83,69]⟩,
 ⟨#[76,69,78]⟩,⟨#[76,69,70,84]⟩,⟨#[82,73,71,72,84]⟩,⟨#[77,73,68]⟩,⟨#[85,80,80,69,82]⟩,
 ⟨#[76,79,87,69,82]⟩,⟨#[84,82,73,77]⟩,⟨#[67,79,78,67,65,84]⟩,⟨#[82,69,80,84]⟩,⟨#[69,88,65,67,84]⟩,
 ⟨#[70,73,78,68]⟩,⟨#[86,65,76,85,69]⟩,⟨#[73,78,68,69,88]⟩,⟨#[77,65,84,67,72]⟩,⟨#[67,79,85,78,84,73,70]⟩,
 ⟨#[68,83,85,77]⟩,⟨#[68,67,79,85,78,84]⟩,⟨#[68,65,86,71]⟩,⟨#[68,77,73,78]⟩,⟨#[68,77,65,88]⟩]
theorem IG (w:World):ax Tryz.prog 374 [] w (.agg (cZ.map Value.string).toArray):=by
 refine aq Tryz.func374 rfl Tryz.ntmps374 rfl ?_
 repeat' (first|(apply yX;(iterate 5 exact rfl))|refine sT ?_|refine sM fun _=> ?_|(refine sC ?_ ?_<;>intro hb<;>try omega)|fail)
 exact zz (.inl rfl) Tryz.results374 rfl .hd rfl (MSub.nil _) rfl
theorem Ro.str1 {w:World} {g o:Nat} {L:List ByteArray} (h:Ro w g o (L.map Value.string)) (i:Nat) (hi:i<L.length):Ro w g (o+i*1) [Value.string L[i]]:=by
 have h1:=(h.drop (k:=i)).take (k:=1)
 rw [← List.map_drop,← List.map_take,NL hi] at h1
 rw [Pw]
 exact h1
def dN:List ByteArray→ByteArray→Int→Int
 | [],_,_=> -1
 |a::r,s,i=>if s=a then i else dN r s (i+1)
theorem JU (L:List ByteArray) (b:ByteArray) (tv:Value) (w:World) (ht:Reads w tv L.length (L.map Value.string)):ax Tryz.prog 375 [tv,.string b] w (.int .i64 (dN L b 0)):=by
 obtain ⟨Al,cl,rfl,hl1,hl2,hl3⟩:=ht
 refine aq Tryz.func375 rfl Tryz.ntmps375 rfl ?_
 repeat' (first|refine sT ?_|refine sM fun _=> ?_|(refine sC ?_ ?_<;>intro hb<;>try omega)|fail)
 refine fC (fun i:Nat=> [(0,.slice Al L.length cl),(1,.string b),(7,.int .i64 (L.length:Int)),(8,.int .i64 (i:Int))]) (fun _=> []) (fun i=>i≤L.length∧dN L b 0=dN (L.drop i) b (i:Int)) (fun i=>L.length - i) 0 ⟨by omega,rfl⟩ ?_ ?_ ?_
 ·
  exact sB
 ·
  exact mS
 ·
  rintro i ⟨hi,hrec⟩
  by_cases hlt:i<L.length
  ·
   obtain ⟨gl,ol,rfl,hrl⟩:=hl3 (by omega)
   have he:=hrl.str1 i hlt
   rw [NL hlt,dN] at hrec
   repeat' (first|(apply ak;exact rfl;apply aj;exact rfl;exact rfl;exact hlt)|(apply ak;exact rfl;apply gy;exact rfl;exact he)|(apply ak;exact rfl;apply dg;exact rfl;exact rfl;(simp only [maxLen] at*;omega))|refine sT ?_|refine sM fun _=> ?_|(refine sC ?_ ?_<;>intro hb<;>try omega)|fail)
   ·
    (refine rT1 ?_)
    rw [hrec,if_pos hb]
   ·
    refine ⟨i+1,⟨by omega,?_⟩,by omega,?_,?_⟩
    ·
     rw [hrec,if_neg hb]
     rfl
    ·
     exact sB
    ·
     exact mS
  ·
   have e:i=L.length:=by omega
   subst e
   repeat' (first|refine sT ?_|refine sM fun _=> ?_|(refine sC ?_ ?_<;>intro hb<;>try omega)|fail)
   (refine rT1 ?_)
   rw [hrec,NW,dN]
theorem iQ:cZ.length=50:=rfl
theorem iS (L:List ByteArray) (b:ByteArray) (i:Int) (h:0≤i):dN L b i= -1∨(i≤dN L b i∧dN L b i<i+L.length):=by
 induction L generalizing i with
 |nil=>exact .inl rfl
 |cons a r ih=>
  unfold dN
  rw [N8]
  split
  ·
   right;omega
  ·
   rcases ih (i+1) (by omega) with h1|h1
   ·
    exact .inl h1
   ·
    right;omega
def aX (b:ByteArray):Int × Int:=if dN cZ b 0<0 then (0,6) else (dN cZ b 0+1,0)
theorem BH (b:ByteArray) (w:World):ax Tryz.prog 363 [.string b] w (.tuple #[.int .u8 (aX b).1,.int .i64 (aX b).2]):=by
 refine aq Tryz.func363 rfl Tryz.ntmps363 rfl ?_
 have hb1:=iS cZ b 0 (by omega)
 rw [iQ] at hb1
 have hix:=fun w tv (h:Reads w tv (cZ.map Value.string).length (cZ.map Value.string))=>JU cZ b tv w h
 unfold aX
 generalize dN cZ b 0=r at hb1 hix
 repeat' (first|(apply aa;exact rfl;exact rfl;(intro w hm;exact IG w))|(apply ak;exact rfl;apply y7;exact rfl)|(apply aa;exact rfl;exact rfl;(intro w' hm;exact hix w' _ (Reads.of_box hm pK rfl)))|(apply ak;exact rfl;apply dR;exact rfl;exact rfl;exact I64.wrap ⟨by omega,by omega⟩)|(apply ak;exact rfl;apply wo;exact rfl;exact eM (by omega) (by omega))|refine sT ?_|refine sM fun _=> ?_|(refine sC ?_ ?_<;>intro hb<;>try omega)|fail)
 ·
  refine jh (.inl rfl) Tryz.results363 rfl rfl (.nil _) ?_
  rw [if_pos hb]
 ·
  refine jh (.inl rfl) Tryz.results363 rfl rfl (.nil _) ?_
  rw [if_neg (by omega)]
def fS (fn:Int):ByteArray:=if 51≤fn then au else (au::cZ).getD fn.toNat au
theorem wrap_i64 {a:Int} (h1:0≤a) (h2:a≤255):IntKind.i64.wrap a=a:=I64.wrap ⟨by omega,by omega⟩
theorem lW (fn:Int) (h0:0≤fn) (h1:fn≤255) (w:World):ax Tryz.prog 344 [.int .u8 fn] w (.string (fS fn)):=by
 obtain ⟨j,rfl⟩:=Qb h0
 refine aq Tryz.func344 rfl Tryz.ntmps344 rfl ?_
 have hg: ∀ h:j<51,((au::cZ).map Value.string)[0+j*1]? =some (.string ((au::cZ).getD j au)):=by
  intro h
  have:j<(au::cZ).length:=h
  rw [show 0+j*1=j by omega]
  simp only [OU,NX,NE this]
  rfl
 repeat' (first|(apply ak;exact rfl;apply wo;exact rfl;exact wrap_i64 h0 h1)|(apply ak;exact rfl;apply aj (j:=j);exact rfl;exact rfl;omega)|(apply ak;exact rfl;apply bF;exact rfl;exact pK;exact hg (by omega))|refine sT ?_|refine sM fun _=> ?_|(refine sC ?_ ?_<;>intro hb<;>try omega)|fail)
 ·
  (refine rT1 ?_)
  rw [fS,if_pos (by omega)]
  rfl
 ·
  (refine rT1 ?_)
  rw [fS,if_neg (by omega)]
  rfl
theorem zD {i:Nat} (h:i<50):fS ((i:Int)+1)=cZ[i]'h:=by
 have h2:i<cZ.length:=h
 rw [fS,if_neg (by omega),show ((i:Int)+1).toNat=i+1 by omega]
 simp [h2]
 rfl
theorem ud (b:ByteArray) (w:World):ax Tryz.prog 370 [.string b] w (.tuple #[.int .u8 (aX b).1,.int .i64 (aX b).2]):=by
 refine aq Tryz.func370 rfl Tryz.ntmps370 rfl ?_
 repeat' (first|refine sT ?_|refine sM fun _=> ?_|(refine sC ?_ ?_<;>intro hb<;>try omega)|fail)
 refine fC (fun i:Nat=> [(0,.string b),(4,.int .u8 ((i:Int)+1))]) (fun _=> []) (fun i=>i≤50∧dN cZ b 0=dN (cZ.drop i) b (i:Int)) (fun i=>50 - i) 0 ⟨by omega,rfl⟩ ?_ ?_ ?_
 ·
  exact sB
 ·
  exact mS
 ·
  rintro i ⟨hi,hrec⟩
  by_cases hlt:i<50
  ·
   have hl:i<cZ.length:=hlt
   have hr: ∀ w,ax Tryz.prog 344 [.int .u8 ((i:Int)+1)] w (.string (cZ[i]'hl)):=fun w=>zD hlt ▸ lW _ (by omega) (by omega) w
   rw [NL hl,dN] at hrec
   repeat' (first|(apply aa;exact rfl;exact rfl;(intro w hm;exact hr w))|(apply ak;exact rfl;apply dR (c:=((i+1:Nat):Int)+1);exact rfl;exact rfl;exact eM (by omega) (by omega))|refine sT ?_|refine sM fun _=> ?_|(refine sC ?_ ?_<;>intro hb<;>try omega)|fail)
   ·
    refine jh (.inl rfl) Tryz.results370 rfl rfl (.nil _) ?_
    rw [aX,hrec,if_pos hb.symm,if_neg (by omega)]
   ·
    refine ⟨i+1,⟨by omega,?_⟩,by omega,?_,?_⟩
    ·
     rw [hrec,if_neg (fun h=>hb h.symm)]
     rfl
    ·
     exact sB
    ·
     exact mS
  ·
   have e:i=50:=by omega
   subst e
   repeat' (first|refine sT ?_|refine sM fun _=> ?_|(refine sC ?_ ?_<;>intro hb<;>try omega)|fail)
   refine jh (.inl rfl) Tryz.results370 rfl rfl (.nil _) ?_
   rw [aX,hrec]
   rfl
def bJ (fn:Int):Int × Int:=
 if fn=5∨fn=6∨fn=7∨fn=25∨fn=39∨fn=40∨fn=18∨fn=19∨fn=45∨fn=44 then (2,2)
 else if fn=20∨fn=41∨fn=43 then (2,3)
 else if fn=32∨fn=33 then (1,2)
 else if fn=34 then (3,3)
 else if fn=21∨fn=22∨fn=23∨fn=38∨fn=9∨fn=10∨fn=11∨fn=12∨fn=14∨fn=15∨fn=16∨fn=17 then (1,16)
 else if fn=30 then (2,16)
 else (1,1)
set_option maxRecDepth 10000 in
theorem kf (fn:Int) (w:World):ax Tryz.prog 345 [.int .u8 fn] w (.tuple #[.int .i64 (bJ fn).1,.int .i64 (bJ fn).2]):=by
 refine aq Tryz.func345 rfl Tryz.ntmps345 rfl ?_
 repeat' (first|refine sT ?_|refine sM fun _=> ?_|(refine sC ?_ ?_<;>intro hb<;>try omega)|fail)
 all_goals ((refine rT2 ?_);simp_all [bJ])
def fa (fn i:Int):Bool:=
 if i<0∨(bJ fn).2≤i then false
 else if fn=9∨fn=10∨fn=11∨fn=12∨fn=14∨fn=15∨fn=16∨fn=17 then true
 else if fn=13∨fn=18∨fn=19∨fn=45∨fn=43 then decide (i=0)
 else if fn=44 then decide (i=1)
 else decide (46≤fn) && decide (fn≤50)
set_option maxRecDepth 10000 in
theorem tZ (fn i:Int) (w:World):ax Tryz.prog 360 [.int .u8 fn,.int .i64 i] w (.bool (fa fn i)):=by
 refine aq Tryz.func360 rfl Tryz.ntmps360 rfl ?_
 repeat' (first|(apply aa;exact rfl;exact rfl;(intro w hm;exact kf fn w))|refine sT ?_|refine sM fun _=> ?_|(refine sC ?_ ?_<;>intro hb<;>try omega)|fail)
 all_goals ((refine rT1 ?_);((try simp only [← Int.not_lt] at*);simp_all [fa, -Int.not_lt, -Int.not_le,← Int.not_lt]))
theorem IE: ∀ j,j<50→cZ.getD j au≠au∧aX (cZ.getD j au)=((j:Int)+1,0):=by decide+kernel
theorem kw {fn:Int} (h:da fn=true):eQ fn=((bJ fn).1,(bJ fn).2,0):=by
 unfold eQ bJ
 (repeat' split)<;>simp_all
theorem oX {fn:Int} (h:da fn=false):eQ fn=(0,0,10):=by
 simp only [da,OQ,decide_eq_false_iff_not] at h
 have hk:da fn=false:=by simp only [da,OQ,decide_eq_false_iff_not];exact h
 unfold eQ
 (repeat' split)<;>first|(exfalso;omega)|(simp_all;done)|rfl
theorem tq {fn:Int} (h:da fn=true) (i:Int):jK fn i=(fa fn i,if i<0∨(bJ fn).2≤i then 3 else 0):=by
 unfold jK fa
 rw [kw h]
 simp only [ne_eq,not_true_eq_false,if_false]
 by_cases h1:i<0∨(bJ fn).2≤i
 ·
  simp only [if_pos h1]
 ·
  simp only [if_neg h1]
  by_cases h2:fn=9∨fn=10∨fn=11∨fn=12∨fn=14∨fn=15∨fn=16∨fn=17
  ·
   simp only [if_pos h2]
  ·
   simp only [if_neg h2]
   by_cases h3:fn=44
   ·
    subst h3
    simp
   ·
    simp only [if_neg h3]
    by_cases h4:fn=18∨fn=19∨fn=45∨fn=43∨fn=13
    ·
     rw [if_pos h4,if_pos (by omega)]
    ·
     rw [if_neg h4,if_neg (by omega)]
     rfl
end Go.SL
namespace Go.SL
open Go
def gD (op:Int):Int:=
 if 7≤op∧op≤12 then 1 else if op=6 then 2 else if op=1∨op=2 then 3 else if op=3∨op=4 then 4 else if op=5 then 6 else if op=13 then 7 else 0
structure PS where
 l:List Tk
 out:List Nd
def hdT (fin:Int) (l:List Tk):Tk:=l.headD { cY with at_:=fin }
def PS.skip (p:PS):PS:=⟨p.l.tail,p.out⟩
def PS.put (p:PS) (n:Nd):PS:=⟨p.l,p.out++ [n]⟩
inductive Job where
 |level (k:Int)
 |loop (k:Int)
 |sign
 |pct
 |pctl
 |prim
 |args (fn:Int) (n:Nat)
abbrev Out:=Except (Int × Int) (Nat × PS)
def dL (kind op:Int):Nd:=⟨kind,bK,aM,op,0,0⟩
def fR (r:Option Out) (k:Nat→PS→Option Out):Option Out:=
 match r with
 |some (.ok (n,p))=>k n p
 |r=>r
def l6 (t:Tk):Nd:=
 ⟨1,if t.kind=1 then ⟨1,t.num,au⟩ else if t.kind=2 then ⟨3,0,t.text⟩ else if t.kind=3 then ⟨2,t.num,au⟩ else ⟨4,t.num,au⟩,aM,0,0,0⟩
def dC (fin:Int) (name:Tk) (fn:Int) (n:Nat) (p:PS):Option Out:=
 let t:=hdT fin p.l
 if t.kind≠10 then some (.error (t.at_,4))
 else if (n:Int)<(eQ fn).1∨(eQ fn).2.1<(n:Int) then some (.error (name.at_,11))
 else if 46≤fn∧(p.out.getLast?.map fun x=>decide (x.kind=2∨x.kind=3))≠some true then some (.error (name.at_,4))
 else some (.ok (0,p.skip.put ⟨7,bK,aM,0,fn,n⟩))
def bE (fin:Int):Nat→Job→PS→Option Out
 |0,_,_=>none
 |f+1,.level k,p=>if k=5 then bE fin f .sign p else fR (bE fin f (.level (k+1)) p) fun _ p=>bE fin f (.loop k) p
 |f+1,.loop k,p=>
  let t:=hdT fin p.l
  if t.kind=8∧gD t.num=k then fR (bE fin f (.level (k+1)) p.skip) fun _ p=>bE fin f (.loop k) (p.put (dL 6 t.num))
  else some (.ok (0,p))
 |f+1,.sign,p=>
  let t:=hdT fin p.l
  if t.kind=8∧t.num=2 then fR (bE fin f .sign p.skip) fun _ p=>some (.ok (0,p.put (dL 4 0)))
  else fR (bE fin f .pct p) fun _ p=>
   let u:=hdT fin p.l
   if u.kind=8∧u.num=5 then fR (bE fin f .sign p.skip) fun _ p=>some (.ok (0,p.put (dL 6 5)))
   else some (.ok (0,p))
 |f+1,.pct,p=>fR (bE fin f .prim p) fun _ p=>bE fin f .pctl p
 |f+1,.pctl,p=>
  let t:=hdT fin p.l
  if t.kind=8∧t.num=13 then bE fin f .pctl (p.skip.put (dL 5 0)) else some (.ok (0,p))
 |f+1,.prim,p=>
  let t:=hdT fin p.l
  if 1≤t.kind∧t.kind≤4 then some (.ok (0,p.skip.put (l6 t)))
  else if t.kind=5 then some (.ok (0,p.skip.put ⟨2,bK,t.rect,0,0,0⟩))
  else if t.kind=9 then fR (bE fin f (.level 1) p.skip) fun _ p=>
   let u:=hdT fin p.l
   if u.kind≠10 then some (.error (u.at_,4)) else some (.ok (0,p.skip))
  else if t.kind=7 then
   if (aX t.text).2≠0 then some (.error (t.at_,10))
   else
    let u:=hdT fin p.skip.l
    if u.kind≠9 then some (.error (u.at_,4))
    else if (hdT fin p.skip.skip.l).kind=10 then dC fin t (aX t.text).1 0 p.skip.skip
    else fR (bE fin f (.args (aX t.text).1 0) p.skip.skip) fun n p=>dC fin t (aX t.text).1 n p
  else some (.error (t.at_,4))
 |f+1,.args fn n,p=>
  let t:=hdT fin p.l
  let go:=fun (p:PS)=>if (hdT fin p.l).kind=11 then bE fin f (.args fn (n+1)) p.skip else some (.ok (n+1,p))
  if t.kind≠6 then fR (bE fin f (.level 1) p) fun _ p=>go p
  else if (jK fn n).1=false∨(jK fn n).2≠0 then some (.error (t.at_,4))
  else go (p.skip.put ⟨3,bK,t.rect,0,0,0⟩)
def Job.c:Job→Nat
 | .level k=>(9 - k).toNat
 | .loop _=>1
 | .sign=>3
 | .pct=>2
 | .pctl=>1
 | .prim=>1
 | .args _ _=>9
def Job.fit:Job→Prop
 | .level k=>1≤k∧k≤5
 | .loop k=>1≤k∧k≤4
 |_=>True
def Job.eats:Job→Prop
 | .loop _=>False
 | .pctl=>False
 |_=>True
def GF (p:PS) (strict:Prop) (r:Out):Prop:= ∀ n p',r= .ok (n,p')→p'.l.length≤p.l.length∧(strict→p'.l.length<p.l.length)
def DN (o:Option Out) (B:Out→Prop):Prop:= ∃ r,o=some r∧B r
theorem dB {B:Out→Prop} {r:Out} (h:B r):DN (some r) B:=⟨r,rfl,h⟩
theorem cQ {p:PS} {q:Prop} {e:Int × Int}:GF p q (.error e):=fun _ _ h=>by cases h
theorem iR {p p' :PS} {q:Prop} {n:Nat} (h:p'.l.length≤p.l.length) (hq:q→p'.l.length<p.l.length):GF p q (.ok (n,p')):=fun m p2 h2=>by
 cases h2
 exact ⟨h,hq⟩
theorem fp {o:Option Out} {k:Nat→PS→Option Out} {p:PS} {q:Prop} {B:Out→Prop} (h:DN o (GF p q)) (he: ∀ e,B (.error e)) (hk: ∀ n p',p'.l.length≤p.l.length→(q→p'.l.length<p.l.length)→DN (k n p') B):DN (fR o k) B:=by
 obtain ⟨r,rfl,hr⟩:=h
 cases r with
 |error e=>exact ⟨_,rfl,he e⟩
 |ok x=>
  obtain ⟨n,p'⟩:=x
  obtain ⟨h1,h2⟩:=hr n p' rfl
  exact hk n p' h1 h2
theorem iC {fin:Int} {l:List Tk} (h:(hdT fin l).kind≠0):0<l.length:=by
 cases l with
 |nil=>exact absurd rfl h
 |cons=>simp
theorem eY (p:PS):p.skip.l.length=p.l.length - 1:=by simp [PS.skip]
theorem ed (p:PS) (n:Nd):(p.put n).l=p.l:=rfl
theorem qg {fin:Int} {name:Tk} {fn:Int} {n:Nat} {p p0:PS} {q:Prop} (h:p.l.length≤p0.l.length) (hq:0<p.l.length→q→p.l.length - 1<p0.l.length):DN (dC fin name fn n p) (GF p0 q):=by
 unfold dC
 dsimp only
 split
 ·
  exact dB cQ
 ·
  rename_i hk
  have hpos:=iC (fin:=fin) (l:=p.l) (by omega)
  split
  ·
   exact dB cQ
  ·
   split
   ·
    exact dB cQ
   ·
    refine dB (iR ?_ fun hh=> ?_)
    ·
     rw [ed,eY];omega
    ·
     rw [ed,eY];exact hq hpos hh
theorem wA (fin:Int): ∀ (f:Nat) (j:Job) (p:PS),j.fit→20*p.l.length+j.c≤f→DN (bE fin f j p) (GF p j.eats):=by
 intro f
 induction f with
 |zero=>
  intro j p hj hf
  cases j with
  |level k=>obtain ⟨h1,h2⟩:=hj;simp only [Job.c] at hf;omega
  |_=>simp only [Job.c] at hf;omega
 |succ f ih=>
  intro j p hj hf
  cases j with
  |level k=>
   obtain ⟨h1,h2⟩:=hj
   simp only [Job.c] at hf
   rw [bE]
   split
   ·
    obtain ⟨r,hr,hl⟩:=ih .sign p trivial (by simp only [Job.c];omega)
    exact ⟨r,hr,hl⟩
   ·
    refine fp (ih (.level (k+1)) p ⟨by omega,by omega⟩ (by simp only [Job.c];omega)) (fun e=>cQ) fun n p' h3 h4=> ?_
    have h5:=h4 trivial
    obtain ⟨r,hr,hl⟩:=ih (.loop k) p' ⟨h1,by omega⟩ (by simp only [Job.c];omega)
    exact ⟨r,hr,fun m q hq=>⟨by have:=(hl m q hq).1;omega,fun _=>by have:=(hl m q hq).1;omega⟩⟩
  |loop k=>
   obtain ⟨h1,h2⟩:=hj
   simp only [Job.c] at hf
   rw [bE]
   split
   ·
    rename_i hk
    have hpos:=iC (fin:=fin) (l:=p.l) (by omega)
    have hs:=eY p
    refine fp (ih (.level (k+1)) p.skip ⟨by omega,by omega⟩ (by simp only [Job.c];omega)) (fun e=>cQ) fun n p' h3 h4=> ?_
    have h5:=h4 trivial
    obtain ⟨r,hr,hl⟩:=ih (.loop k) (p'.put (dL 6 (hdT fin p.l).num)) ⟨h1,h2⟩ (by rw [ed];simp only [Job.c];omega)
    exact ⟨r,hr,fun m q hq=>⟨by have:=(hl m q hq).1;rw [ed] at this;omega,fun h=>h.elim⟩⟩
   ·
    exact dB (iR (NJ _) fun h=>h.elim)
  |sign=>
   simp only [Job.c] at hf
   rw [bE]
   dsimp only
   split
   ·
    rename_i hk
    have hpos:=iC (fin:=fin) (l:=p.l) (by omega)
    have hs:=eY p
    refine fp (ih .sign p.skip trivial (by simp only [Job.c];omega)) (fun e=>cQ) fun n p' h3 h4=> ?_
    have h5:=h4 trivial
    exact dB (iR (by rw [ed];omega) fun _=>by rw [ed];omega)
   ·
    refine fp (ih .pct p trivial (by simp only [Job.c];omega)) (fun e=>cQ) fun n p' h3 h4=> ?_
    have h5:=h4 trivial
    split
    ·
     have hs:=eY p'
     refine fp (ih .sign p'.skip trivial (by simp only [Job.c];omega)) (fun e=>cQ) fun n p2 h6 h7=> ?_
     exact dB (iR (by rw [ed];omega) fun _=>by rw [ed];omega)
    ·
     exact dB (iR h3 fun _=>h5)
  |pct=>
   simp only [Job.c] at hf
   rw [bE]
   refine fp (ih .prim p trivial (by simp only [Job.c];omega)) (fun e=>cQ) fun n p' h3 h4=> ?_
   have h5:=h4 trivial
   obtain ⟨r,hr,hl⟩:=ih .pctl p' trivial (by simp only [Job.c];omega)
   exact ⟨r,hr,fun m q hq=>⟨by have:=(hl m q hq).1;omega,fun _=>by have:=(hl m q hq).1;omega⟩⟩
  |pctl=>
   simp only [Job.c] at hf
   rw [bE]
   split
   ·
    rename_i hk
    have hpos:=iC (fin:=fin) (l:=p.l) (by omega)
    have hs:=eY p
    obtain ⟨r,hr,hl⟩:=ih .pctl (p.skip.put (dL 5 0)) trivial (by rw [ed];simp only [Job.c];omega)
    exact ⟨r,hr,fun m q hq=>⟨by have:=(hl m q hq).1;rw [ed] at this;omega,fun h=>h.elim⟩⟩
   ·
    exact dB (iR (NJ _) fun h=>h.elim)
  |prim=>
   simp only [Job.c] at hf
   rw [bE]
   dsimp only
   have hs:=eY p
   have hs2:=eY p.skip
   split
   ·
    rename_i hk
    have hpos:=iC (fin:=fin) (l:=p.l) (by omega)
    exact dB (iR (by rw [ed];omega) fun _=>by rw [ed];omega)
   ·
    split
    ·
     rename_i hk
     have hpos:=iC (fin:=fin) (l:=p.l) (by omega)
     exact dB (iR (by rw [ed];omega) fun _=>by rw [ed];omega)
    ·
     split
     ·
      rename_i hk
      have hpos:=iC (fin:=fin) (l:=p.l) (by omega)
      refine fp (ih (.level 1) p.skip ⟨by omega,by omega⟩ (by simp only [Job.c];omega)) (fun e=>cQ) fun n p' h3 h4=> ?_
      have h5:=h4 trivial
      have hs3:=eY p'
      split
      ·
       exact dB cQ
      ·
       exact dB (iR (by omega) fun _=>by omega)
     ·
      split
      ·
       rename_i hk
       have hpos:=iC (fin:=fin) (l:=p.l) (by omega)
       split
       ·
        exact dB cQ
       ·
        split
        ·
         exact dB cQ
        ·
         rename_i hk2
         have hpos2:=iC (fin:=fin) (l:=p.skip.l) (by omega)
         split
         ·
          exact qg (by omega) fun _ _=>by omega
         ·
          refine fp (ih (.args (aX (hdT fin p.l).text).1 0) p.skip.skip trivial (by simp only [Job.c];omega)) (fun e=>cQ) fun n p' h3 h4=> ?_
          exact qg (by omega) fun _ _=>by omega
      ·
       exact dB cQ
  |args fn n=>
   simp only [Job.c] at hf
   rw [bE]
   dsimp only
   have hgo: ∀ p' :PS,p'.l.length<p.l.length→DN (if (hdT fin p'.l).kind=11 then bE fin f (.args fn (n+1)) p'.skip else some (.ok (n+1,p'))) (GF p (Job.args fn n).eats):=by
    intro p' hp
    have hs:=eY p'
    split
    ·
     obtain ⟨r,hr,hl⟩:=ih (.args fn (n+1)) p'.skip trivial (by simp only [Job.c];omega)
     exact ⟨r,hr,fun m q hq=>⟨by have:=(hl m q hq).1;omega,fun _=>by have:=(hl m q hq).1;omega⟩⟩
    ·
     exact dB (iR (by omega) fun _=>hp)
   split
   ·
    refine fp (ih (.level 1) p ⟨by omega,by omega⟩ (by simp only [Job.c];omega)) (fun e=>cQ) fun m p' h3 h4=> ?_
    exact hgo p' (h4 trivial)
   ·
    rename_i hk
    have hpos:=iC (fin:=fin) (l:=p.l) (by omega)
    have hs:=eY p
    split
    ·
     exact dB cQ
    ·
     exact hgo _ (by rw [ed];omega)
end Go.SL
