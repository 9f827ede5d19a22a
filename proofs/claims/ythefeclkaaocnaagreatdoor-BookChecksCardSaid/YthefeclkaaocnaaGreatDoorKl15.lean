/-
  Lemmas and walks, put together: B5 C1 C2 C3.
-/
import Derived.Test.YthefeclkaaocnaaGreatDoorKl13
import Derived.Test.YthefeclkaaocnaaGreatDoorKl14
set_option linter.unusedSimpArgs false
set_option linter.unusedVariables false
set_option maxRecDepth 20000
namespace Go.SL
open Go Go.Proofs
attribute [local irreducible] W WL WQ WG WA WX WLI WR WT VOp thn blk bS scp bq cj aS FnIn
def kW:List (List Int→Option (Tk × Nat)):= [eH,kU,fK,jl,fZ]
def kE (l:List Int):List (List Int→Option (Tk × Nat))→Option (Tk × Nat)
 | []=>none
 |r::rs=>match r l with
  |some x=>some x
  |none=>kE l rs
def dF (l:List Int):Option (Tk × Nat):=kE l kW
def bf (tk:List Int→Option (Tk × Nat)) (l:List Int):Nat→Nat→Except Nat (List Tk)
 |0,_=> .ok []
 |f+1,i=>
  match l.drop i with
  | []=> .ok []
  |c::_=>
   if c=32 then bf tk l f (i+1)
   else match tk (l.drop i) with
    |none=> .error i
    |some (t,n)=>(bf tk l f (i+n)).map fun r=>{ t with at_:=(i:Int) }::r
def Fits (l:List Int) (o:Option (Tk × Nat)):Prop:= ∀ t n,o=some (t,n)→0<n∧n≤l.length
theorem Fits.none {l:List Int}:Fits l none:=fun _ _ h=>by cases h
theorem Fits.some {l:List Int} {t:Tk} {n:Nat} (h1:0<n) (h2:n≤l.length):Fits l (some (t,n)):=fun _ _ h=>by cases h;exact ⟨h1,h2⟩
theorem jU {l:List Int} {c:Int} (h:l.headD 0=c) (hc:c≠0):0<l.length:=by
 cases l with
 |nil=>exact absurd h.symm hc
 |cons=>simp
theorem AU (l:List Int):bN l=0∨bN l+1≤l.length:=by
 unfold bN
 split
 ·
  right
  rename_i r
  have:=bM aC r
  simp;omega
 ·
  left;rfl
theorem pH (l:List Int):Fits l (eH l):=by
 unfold eH
 dsimp only
 have h1:=bM aC l
 have h2:=AU (l.drop (aB aC l))
 rw [LL] at h2
 have h3:(if bN (l.drop (aB aC l))=0 then aB aC l else aB aC l+1+bN (l.drop (aB aC l)))≤l.length∧aB aC l≤(if bN (l.drop (aB aC l))=0 then aB aC l else aB aC l+1+bN (l.drop (aB aC l))):=by
  split<;>omega
 generalize (if bN (l.drop (aB aC l))=0 then aB aC l else aB aC l+1+bN (l.drop (aB aC l)))=m at h3 ⊢
 split
 ·
  exact .none
 ·
  rename_i h
  split
  ·
   exact .none
  ·
   exact .some (by omega) (by omega)
theorem lU: ∀ (n:Nat) (l:List Int) (k:Nat),l.length≤n→cd l=some k→k<l.length
 |_,[],_,_,h=>by simp [cd] at h
 |0,c::r,_,hn,_=>by simp at hn
 |n+1,c::r,k,hn,h=>by
  by_cases hc:c=34
  ·
   subst hc
   cases r with
   |nil=>simp [cd] at h;subst h;simp
   |cons d r' =>
    by_cases hd:d=34
    ·
     subst hd
     simp only [cd,ne_eq,not_true_eq_false,if_false,if_true,My] at h
     obtain ⟨j,hj,rfl⟩:=h
     have:=lU n r' j (by simp at hn;omega) hj
     simp;omega
    ·
     simp [cd,hd] at h
     subst h;simp
  ·
   rw [jm hc,My] at h
   obtain ⟨j,hj,rfl⟩:=h
   have:=lU n r j (by simp at hn;omega) hj
   simp;omega
theorem Dy (l:List Int):Fits l (kU l):=by
 unfold kU
 split
 ·
  exact .none
 ·
  rename_i h
  have h0:=jU (c:=34) (Decidable.not_not.1 h) (by decide)
  split
  ·
   exact .none
  ·
   rename_i k hk
   have:=lU _ _ k (LK _) hk
   rw [LL] at this
   split
   ·
    exact .none
   ·
    exact .some (by omega) (by omega)
theorem tU (l:List Int):Fits l (fK l):=by
 have h1:=bM cC l
 have h2:=bM cC (l.drop (aB cC l+1))
 rw [LL] at h2
 have hpos:bH (l.headD 0)≠false→0<aB cC l:=fun h=>by
  cases l with
  |nil=>exact absurd rfl h
  |cons c r=>
   have:bH c=true:=by simpa using h
   simp [aB,cC,this]
 unfold fK
 split
 ·
  exact .none
 ·
  rename_i h
  have hp:=hpos h
  split
  ·
   exact .some hp h1
  ·
   split
   ·
    exact .some hp h1
   ·
    split
    ·
     exact .some hp h1
    ·
     split
     ·
      exact .none
     ·
      split
      ·
       rename_i hq
       have:=jU hq.1 (by decide)
       rw [LL] at this
       exact .some (by omega) (by omega)
      ·
       exact .some hp h1
theorem rZ (l:List Int): ∀ (ns:List (List Int)) (c k:Int) (n:Nat),(∀ s∈ns,s≠ [])→iW l ns c=some (k,n)→0<n∧n≤l.length
 | [],_,_,_,_,h=>by cases h
 |s::r,c,k,n,hs,h=>by
  rw [iW] at h
  split at h
  ·
   rename_i he
   cases h
   have:=congrArg List.length he
   rw [MF,LP] at this
   have:=Nc.2 (hs s LI)
   omega
  ·
   exact rZ l r _ k n (fun s hs' =>hs s (LX _ hs')) h
theorem uO (l:List Int):Fits l (jl l):=by
 intro t n h
 unfold jl at h
 rw [My] at h
 obtain ⟨⟨c,m⟩,h1,h2⟩:=h
 cases h2
 exact rZ l dg 1 c _ (by decide) h1
theorem yp (l:List Int): ∀ (ns:List (List Int × Int)) (k:Int) (n:Nat),(∀ s∈ns,s.1≠ [])→opL l ns=some (k,n)→0<n∧n≤l.length
 | [],_,_,_,h=>by cases h
 |(s,c)::r,k,n,hs,h=>by
  rw [opL] at h
  split at h
  ·
   rename_i he
   cases h
   have:=congrArg List.length he
   rw [LP] at this
   have:=Nc.2 (hs _ LI)
   dsimp only at this
   omega
  ·
   exact yp l r k n (fun s hs' =>hs s (LX _ hs')) h
theorem uk (l:List Int):Fits l (fZ l):=by
 unfold fZ
 split
 ·
  rename_i k n h
  have:=yp l dU k n (by decide) h
  exact .some this.1 this.2
 ·
  split
  ·
   exact .some (by omega) (jU (by assumption) (by decide))
  ·
   split
   ·
    exact .some (by omega) (jU (by assumption) (by decide))
   ·
    split
    ·
     exact .some (by omega) (jU (by assumption) (by decide))
    ·
     exact .none
theorem rW (l:List Int): ∀ rs:List (List Int→Option (Tk × Nat)),(∀ r∈rs,Fits l (r l))→Fits l (kE l rs)
 | [],_=> .none
 |r::rs,h=>by
  unfold kE
  split
  ·
   rename_i x hx
   exact hx ▸ h r LI
  ·
   exact rW l rs fun r hr=>h r (LX _ hr)
theorem DE (l:List Int): ∀ r∈kW,Fits l (r l):=by
 intro r hr
 simp only [kW,L7,Nn,or_false] at hr
 rcases hr with rfl|rfl|rfl|rfl|rfl
 ·
  exact pH l
 ·
  exact Dy l
 ·
  exact tU l
 ·
  exact uO l
 ·
  exact uk l
theorem qW (l:List Int):Fits l (dF l):=rW l _ (DE l)
theorem m8 {tk:List Int→Option (Tk × Nat)} {l:List Int} (ht: ∀ m,Fits m (tk m)): ∀ (b d f i:Nat),d≤b→l.length - i=d→d≤f→bf tk l f i=bf tk l d i:=by
 intro b
 induction b with
 |zero=>
  intro d f i hb hd hf
  have:d=0:=by omega
  subst this
  cases f with
  |zero=>rfl
  |succ f=>
   simp only [bf]
   rw [L6 (by omega)]
 |succ b ih=>
  intro d f i hb hd hf
  cases d with
  |zero=>
   cases f with
   |zero=>rfl
   |succ f=>
    simp only [bf]
    rw [L6 (by omega)]
  |succ m=>
   obtain ⟨g,rfl⟩: ∃ g,f=g+1:=⟨f - 1,by omega⟩
   simp only [bf]
   have hi:i<l.length:=by omega
   rw [LJ hi]
   dsimp only
   split
   ·
    exact ih m g (i+1) (by omega) (by omega) (by omega)
   ·
    split
    ·
     rfl
    ·
     rename_i t n hn
     have:=ht _ t n hn
     rw [ih (l.length - (i+n)) g (i+n) (by omega) rfl (by omega),ih (l.length - (i+n)) m (i+n) (by omega) rfl (by omega)]
def bG (tk:List Int→Option (Tk × Nat)) (l:List Int):List Tk × Int × Int:=
 if 256<l.length then ([],0,5)
 else match l.findIdx? (fun c=> !bp c) with
  |some i=>([],(i:Int),4)
  |none=>match bf tk l l.length 0 with
   | .ok r=>(r,0,0)
   | .error i=>([],(i:Int),4)
def Cv (A:Option Nat) (cap:Nat) (r:List Tk × Int × Int):Value:= .tuple #[sl A r.1.length cap,.int .i64 r.2.1,.int .i64 r.2.2]
def Au:List Nat:= [243,244,245,246,247]
theorem Ir (a:ByteArray) (ha:a.size≤10000) (i:Nat) (hi:i<a.size) (g:Nat) (k:Nat) (hk:k<5):
  ∃ f r,kW.drop k=r::kW.drop (k+1)∧(Au.map fun f=>Value.func (.func f) #[.pointer (some ⟨g,0,none⟩)] #[])[k]? =some (.func (.func f) #[.pointer (some ⟨g,0,none⟩)] #[])∧Callable Tryz.prog f∧
   ∀ w,Ro w g 0 [.string a]→Words w→ay Tryz.prog f [.pointer (some ⟨g,0,none⟩),.int .i64 (i:Int)] w (Ad (atT i (r ((ap a).drop i)))):=by
 rcases (by omega:k=0∨k=1∨k=2∨k=3∨k=4) with rfl|rfl|rfl|rfl|rfl
 ·
  exact ⟨_,_,rfl,rfl,inferInstance,fun w hr _=>DX a (by omega) i (by omega) g w hr⟩
 ·
  exact ⟨_,_,rfl,rfl,inferInstance,fun w hr _=>H7 a (by omega) i hi g w hr⟩
 ·
  exact ⟨_,_,rfl,rfl,inferInstance,fun w hr _=>Hy a ha i hi g w hr⟩
 ·
  exact ⟨_,_,rfl,rfl,inferInstance,fun w hr hW=>IY a (by omega) i (by omega) g w hr hW⟩
 ·
  exact ⟨_,_,rfl,rfl,inferInstance,fun w hr _=>H9 a (by omega) i hi g w hr⟩
theorem lz {a:ByteArray} {q:Int→Bool} {i:Nat} (h:i<a.size) (hq:q (bat a i)=true) (hno: ∀ j,j<i→q (bat a j)=false):(ap a).findIdx? q=some i:=by
 rw [M6]
 have hl:=au a
 have hg: ∀ j (hj:j<(ap a).length),(ap a)[j]=bat a j:=fun j hj=>by
  have:=fu (a:=a) (i:=j) (by omega)
  rw [LF hj] at this
  exact Option.some.inj this
 refine ⟨by omega,by rw [hg];exact hq,fun j hj=> ?_⟩
 rw [hg,hno j hj];simp
theorem kz {a:ByteArray} {q:Int→Bool} (hno: ∀ j,j<a.size→q (bat a j)=false):(ap a).findIdx? q=none:=by
 rw [MU]
 intro x hx
 obtain ⟨j,hj,rfl⟩:=Nl hx
 have hl:=au a
 have:=fu (a:=a) (i:=j) (by omega)
 rw [LF hj] at this
 rw [Option.some.inj this]
 exact hno j (by omega)
set_option maxHeartbeats 2000000 in
theorem EC (a:ByteArray) (w:World) (hW:Words w):
  aS Tryz.prog 203 [.string a] w fun v H=> ∃ A cap,v=Cv A cap (bG dF (ap a))∧H= [.own A 295 8 (bG dF (ap a)).1.length cap ((bG dF (ap a)).1.flatMap aZ)]:=by
 refine aq Tryz.func203 rfl Tryz.ntmps203 rfl ?_
 have hl:=au a
 unfold bG
 refine aJ 295 8 ?_
 by_cases hlen:256<(ap a).length
 ·
  rw [if_pos hlen]
  repeat' (first|refine sT ?_|refine sS ?_|refine sT2 ?_|refine sM fun _=> ?_|(refine sC ?_ ?_<;>intro hb<;>try omega)|fail)
  all_goals try (exfalso;omega)
  exact lX (.inl rfl) rfl rfl rfl rfl (.refl _) ⟨none,0,rfl,rfl⟩
 ·
  rw [if_neg hlen]
  repeat' (first|refine sT ?_|refine sS ?_|refine sT2 ?_|refine sM fun _=> ?_|(refine sC ?_ ?_<;>intro hb<;>try omega)|fail)
  all_goals try (exfalso;omega)
  refine ax [0,2,17] rfl (fun i:Nat=> [(18,.int .i64 (i:Int))]) (fun _=> [.own none 295 8 0 0 []]) (fun i=>i≤a.size∧ ∀ j,j<i→bp (bat a j)=true) (fun i=>a.size - i) 0 ⟨by omega,fun j h=>by omega⟩ sB mS ?_
  rintro i ⟨hi,hpl⟩
  by_cases hlt:i<a.size
  ·
   repeat' (first|refine sT ?_|refine sS ?_|refine sT2 ?_|refine sN ?_|refine sM fun _=> ?_|(refine sC ?_ ?_<;>intro hb<;>try omega)|fail)
   ·
    have hf:(ap a).findIdx? (fun c=> !bp c)=some i:=by
     refine lz hlt ?_ fun j hj=>by rw [hpl j hj];rfl
     simp only [bp,Bool.not_eq_true',MB,decide_eq_false_iff_not]
     omega
    rw [hf]
    exact lX (.inl rfl) rfl rfl rfl rfl (.refl _) ⟨none,0,rfl,rfl⟩
   ·
    have hf:(ap a).findIdx? (fun c=> !bp c)=some i:=by
     refine lz hlt ?_ fun j hj=>by rw [hpl j hj];rfl
     simp only [bp,Bool.not_eq_true',MB,decide_eq_false_iff_not]
     omega
    rw [hf]
    exact lX (.inl rfl) rfl rfl rfl rfl (.refl _) ⟨none,0,rfl,rfl⟩
   ·
    refine ⟨i+1,?_,(by first|omega|(dsimp only;omega)),sB,sB,mS⟩
    refine ⟨hlt,fun j hj=> ?_⟩
    rcases (by omega:j<i∨j=i) with h|rfl
    ·
     exact hpl j h
    ·
     rename_i h1
     simp only [bp,LM,decide_eq_true_eq]
     omega
  ·
   have e:i=a.size:=by omega
   subst e
   have hf:(ap a).findIdx? (fun c=> !bp c)=none:=kz fun j hj=>by rw [hpl j hj];rfl
   rw [hf]
   dsimp only
   repeat' (first|(apply ak;exact rfl;apply j9;exact rfl)|(apply zN;(iterate 6 exact rfl))|refine sT ?_|refine sS ?_|refine sT2 ?_|refine sN ?_|refine sM fun _=> ?_|(refine sC ?_ ?_<;>intro hb<;>try omega)|fail)
   all_goals try (exfalso;omega)
   rename_i g6 g7
   generalize hT:bf dF (ap a) (ap a).length 0=T
   refine ax [0,6,7] rfl (fun x:Nat × List Tk × Option Nat × Nat=> [(2,sl x.2.2.1 x.2.1.length x.2.2.2),(8,.int .i64 (x.1:Int))]) (fun x=> [.own x.2.2.1 295 8 x.2.1.length x.2.2.2 (x.2.1.flatMap aZ),.box g7 336 (Au.map fun f=>Value.func (.func f) #[.pointer (some ⟨g6,0,none⟩)] #[]),.box g6 334 [.string a]])
    (fun x=>x.1≤a.size∧x.2.1.length≤x.1∧T=(bf dF (ap a) (a.size - x.1) x.1).map (x.2.1++ ·)) (fun x=>a.size - x.1) (0,[],none,0) ⟨by omega,by simp,by rw [← hT,hl];cases bf dF (ap a) a.size 0<;>rfl⟩ sB mS ?_
   rintro ⟨i,toks,A,cap⟩ ⟨hi2,hi3,hi4⟩
   dsimp only at hi2 hi3 hi4 ⊢
   by_cases hlt2:i<a.size
   ·
    obtain ⟨f,hf1⟩: ∃ f,a.size - i=f+1:=⟨a.size - i - 1,by omega⟩
    rw [hf1] at hi4
    simp only [bf] at hi4
    have hdr:=ba hlt2
    generalize hld:(ap a).drop i=ld at hi4 hdr
    rw [hdr] at hi4
    dsimp only at hi4
    by_cases h32:bat a i=32
    ·
     rw [if_pos h32] at hi4
     repeat' (first|refine sT ?_|refine sS ?_|refine sT2 ?_|refine sN ?_|refine sM fun _=> ?_|(refine sC ?_ ?_<;>intro hb<;>try omega)|fail)
     all_goals try (exfalso;omega)
     refine ⟨(i+1,toks,A,cap),?_,(by first|omega|(dsimp only;omega)),sB,sB,mS⟩
     exact ⟨hlt2,by dsimp only;omega,by dsimp only;rw [show a.size - (i+1)=f by omega];exact hi4⟩
    ·
     rw [if_neg h32,← hdr] at hi4
     repeat' (first|refine sT ?_|refine sS ?_|refine sT2 ?_|refine sN ?_|refine sM fun _=> ?_|(refine sC ?_ ?_<;>intro hb<;>try omega)|fail)
     all_goals try (exfalso;omega)
     have hldl:ld.length=a.size - i:=by rw [← hld,LL,hl]
     refine ax [0,2,6,7,8,57] rfl (fun k:Nat=> [(58,.int .i64 (k:Int))]) (fun _=> [.own A 295 8 toks.length cap (toks.flatMap aZ),.box g7 336 (Au.map fun f=>Value.func (.func f) #[.pointer (some ⟨g6,0,none⟩)] #[]),.box g6 334 [.string a]]) (fun k=>k≤5∧dF ld=kE ld (kW.drop k)) (fun k=>5 - k) 0 ⟨by omega,rfl⟩ sB mS ?_
     rintro k ⟨hk,hkt⟩
     by_cases hk5:k<5
     ·
      obtain ⟨f2,r,r1,r2,r3,r4⟩:=Ir a (by omega) i hlt2 g6 k hk5
      rw [hld] at r4
      rw [r1,kE] at hkt
      cases ho:r ld with
      |none=>
       rw [ho] at hkt r4
       dsimp only at hkt
       repeat' (first|(apply ak;exact rfl;apply kO;exact rfl;exact rfl;exact hk5;exact r2)|(apply oI;exact rfl;exact rfl;exact r3;exact rfl;(intro w' hm;exact r4 w' (Ro.of_box hm pK) (hW.next hm)))|refine sT ?_|refine sS ?_|refine sT2 ?_|refine sN ?_|refine sM fun _=> ?_|(refine sC ?_ ?_<;>intro hb<;>try omega)|fail)
       all_goals try (exfalso;omega)
       refine ⟨k+1,?_,(by first|omega|(dsimp only;omega)),sB,sB,mS⟩
       exact ⟨hk5,hkt⟩
      |some x=>
       obtain ⟨t,m⟩:=x
       rw [ho] at hkt r4
       dsimp only at hkt
       have hfit:=qW ld t m hkt
       rw [hkt] at hi4
       dsimp only at hi4
       have hm0:0<m:=hfit.1
       repeat' (first|(apply ak;exact rfl;apply kO;exact rfl;exact rfl;exact hk5;exact r2)|(apply oI;exact rfl;exact rfl;exact r3;exact rfl;(intro w' hm;exact r4 w' (Ro.of_box hm pK) (hW.next hm)))|(apply aN;(iterate 3 exact rfl);exact pK;exact pK;exact rfl;(simp [aZ,Value.oneCell']);omega;(simp only [maxLen];omega);intro g8 c8)|refine sT ?_|refine sS ?_|refine sT2 ?_|refine sN ?_|refine sM fun _=> ?_|(refine sC ?_ ?_<;>intro hb<;>try omega)|fail)
       all_goals try (exfalso;omega)
       refine ⟨(i+m,toks++ [{ t with at_:=(i:Int) }],some g8,c8),⟨by dsimp only;omega,by simp;omega,?_⟩,(by dsimp only;omega),?_,sB,?_⟩
       ·
        dsimp only
        rw [hi4,m8 qW f (a.size - (i+m)) f (i+m) (by omega) (by omega) (by omega)]
        cases bf dF (ap a) (a.size - (i+m)) (i+m)<;>simp [Except.map]
       ·
        simp only [LC,LH]
        exact sB
       ·
        simp only [LC,LH,LY,LR,Mj,LN]
        exact mS
     ·
      have e:k=5:=by omega
      subst e
      rw [show kE ld (kW.drop 5)=none from rfl] at hkt
      rw [hkt] at hi4
      dsimp only [Except.map] at hi4
      rw [hi4]
      refine aJ 295 8 ?_
      repeat' (first|refine sT ?_|refine sS ?_|refine sT2 ?_|refine sN ?_|refine sM fun _=> ?_|(refine sC ?_ ?_<;>intro hb<;>try omega)|fail)
      all_goals try (exfalso;omega)
      exact lX (.inl rfl) rfl rfl rfl rfl (H' := [.own none 295 8 0 0 []]) mS ⟨none,0,rfl,rfl⟩
   ·
    have e:i=a.size:=by omega
    subst e
    rw [show a.size - a.size=0 by omega] at hi4
    simp only [bf,Except.map,LN] at hi4
    rw [hi4]
    repeat' (first|refine sT ?_|refine sS ?_|refine sT2 ?_|refine sN ?_|refine sM fun _=> ?_|(refine sC ?_ ?_<;>intro hb<;>try omega)|fail)
    all_goals try (exfalso;omega)
    exact lX (.inl rfl) rfl rfl rfl rfl (H' := [.own A 295 8 toks.length cap (toks.flatMap aZ)]) mS ⟨A,cap,rfl,rfl⟩
def TkV (v:Value) (A:Option Nat) (n cap k:Nat):Prop:= ∃ a:Option Addr,v= .slice a (n - k) (cap - k)∧(k<n→a=A.map fun g=>⟨g,k*8,none⟩)
def pB (g:Nat) (lv:Value) (A:Option Nat) (cap:Nat) (fin:Int) (toks:List Tk) (B:Option Nat) (cb:Nat) (out:List Nd):List Blk:=
 [.box g 293 [lv,.int .i64 fin,sl B out.length cb],.own A 295 8 toks.length cap (toks.flatMap aZ),.own B 174 11 out.length cb (out.flatMap bY)]
theorem TkV.next {P:Program} {t e:Nat} {v:Value} {A:Option Nat} {n cap k:Nat} [ht:Und P t (.slice e)] [hz:Size P e 8] (h:TkV v A n cap k) (hk:k<n) (hc:n≤cap):
  ∃ v',TkV v' A n cap (k+1)∧v'.oneCell' =true∧(∃ a m c,v' = .slice a m c)∧ ∀ {w0:World} {s:az} {H:List Blk} {ty:TypeId} {x r:Operand} {k' :IntKind},ev s x=some v→ev s r=some (.int k' 1)→VOp P w0 s H (.slice t x (some r) none none) ty v' :=by
 obtain ⟨a,rfl,ha⟩:=h
 refine ⟨.slice (if cap - k=1 then a else a.map (·.add (1*8))) (n - k - 1) (cap - k - 1),⟨if cap - k=1 then a else a.map (·.add (1*8)),?_,fun hk1=> ?_⟩,rfl,⟨_,_,_,rfl⟩,fun hx hr=>j8 (lo:=1) (hi:=n - k) hx ⟨_,hr⟩ rfl (by omega) (by omega)⟩
 ·
  congr 1
 ·
  rw [if_neg (by omega),ha hk]
  cases A with
  |none=>rfl
  |some g=>(simp [cw])<;>omega
theorem CN {fin:Int} {toks:List Tk} {k:Nat} (h:k<toks.length):hdT fin (toks.drop k)=toks[k]:=by
 rw [LJ h];rfl
theorem qq {fin:Int} {toks:List Tk} {k:Nat} (h:toks.length≤k):hdT fin (toks.drop k)={ cM with at_:=fin }:=by
 rw [L6 h];rfl
theorem yn (g:Nat) (lv:Value) (A:Option Nat) (cap:Nat) (fin:Int) (toks:List Tk) (k:Nat) (hk:TkV lv A toks.length cap k) (x:Value) (w:World) (hr:Ro w g 0 [lv,.int .i64 fin,x])
  (ht:k<toks.length→ ∃ ga,A=some ga∧Ro w ga 0 (toks.flatMap aZ)):ay Tryz.prog 206 [.pointer (some ⟨g,0,none⟩)] w (.agg (aZ (hdT fin (toks.drop k))).toArray):=by
 refine aq Tryz.func206 rfl Tryz.ntmps206 rfl ?_
 obtain ⟨a,rfl,ha⟩:=hk
 by_cases hlt:k<toks.length
 ·
  rw [CN hlt]
  obtain ⟨ga,rfl,hra⟩:=ht hlt
  have ha' :=ha hlt
  subst ha'
  have hra' :Ro w ga (k*8) (aZ toks[k]):=by
   have:=hra.elem uR k hlt
   rwa [LZ] at this
  have hlen:0<toks.length - k:=by omega
  repeat' (first|(apply ak;exact rfl;apply aI (o:=0) (off:=0);exact hr;exact rfl;exact rfl)|(apply ak;exact rfl;apply aI (o:=0) (off:=1);exact hr;exact rfl;exact rfl)|(apply ak;exact rfl;apply aj (j:=0);exact rfl;exact rfl;exact hlen)|(apply ak;exact rfl;apply dY (o:=k*8) (off:=0*8);exact hra';(iterate 3 exact rfl))|refine sT ?_|refine sM fun _=> ?_|(refine sC ?_ ?_<;>intro hb<;>try omega)|fail)
  all_goals try (exfalso;omega)
  (refine eRC ?_)
  rfl
 ·
  rw [qq (by omega)]
  repeat' (first|(apply ak;exact rfl;apply aI (o:=0) (off:=0);exact hr;exact rfl;exact rfl)|(apply ak;exact rfl;apply aI (o:=0) (off:=1);exact hr;exact rfl;exact rfl)|refine sT ?_|refine sM fun _=> ?_|(refine sC ?_ ?_<;>intro hb<;>try omega)|fail)
  all_goals try (exfalso;omega)
  (refine eRC ?_)
  rfl
theorem FQ {g:Nat} {lv:Value} {A:Option Nat} {cap:Nat} {fin:Int} {toks:List Tk} {k:Nat} (hk:TkV lv A toks.length cap k) {B:Option Nat} {cb:Nat} {out:List Nd} {H:List Blk} {w0:World} (hH:MSub (pB g lv A cap fin toks B cb out) H) (w:World) (hm:Mem w0 w H):
  ay Tryz.prog 206 [.pointer (some ⟨g,0,none⟩)] w (.agg (aZ (hdT fin (toks.drop k))).toArray):=by
 have hm' :=hH.use hm
 refine yn g lv A cap fin toks k hk (sl B out.length cb) w (Ro.of_box hm' .hd) fun hlt=> ?_
 obtain ⟨_,_,_,h4⟩:=(hm'.on _ (In.tl .hd:In (.own A 295 8 toks.length cap (toks.flatMap aZ)) _).mem).1
 cases A with
 |none=>obtain ⟨h5,_⟩:=h4;omega
 |some ga=>exact ⟨ga,rfl,Ro.of_own hm' (In.tl .hd)⟩
theorem FP (g:Nat) (lv:Value) (A:Option Nat) (cap:Nat) (fin:Int) (toks:List Tk) (k:Nat) (hv:TkV lv A toks.length cap k) (hk:k<toks.length) (hc:toks.length≤cap) (B:Option Nat) (cb:Nat) (out:List Nd) (R:List Blk) (w0:World):
  FnIn Tryz.prog 292 [.pointer (some ⟨g,0,none⟩)] w0 (pB g lv A cap fin toks B cb out++R) fun v H=>v= .tuple #[]∧ ∃ lv',TkV lv' A toks.length cap (k+1)∧H=pB g lv' A cap fin toks B cb out++R:=by
 refine dM Tryz.func292 rfl Tryz.ntmps292 rfl ?_
 obtain ⟨lv',h1,h3,⟨a',m',c',rfl⟩,h2⟩:=hv.next hk hc (P:=Tryz.prog) (t:=286) (e:=295)
 obtain ⟨a,rfl,ha⟩:=hv
 repeat' (first|(apply ak (d:=7);exact rfl;exact h2 rfl rfl)|refine sT ?_|refine sM fun _=> ?_|(refine sC ?_ ?_<;>intro hb<;>try omega)|fail)
 exact gX (.inr rfl) rfl (.refl _) ⟨rfl,_,h1,rfl⟩
theorem jg (n:Nd) (g:Nat) (lv:Value) (A:Option Nat) (cap:Nat) (fin:Int) (toks:List Tk) (B:Option Nat) (cb:Nat) (out:List Nd) (hlen:out.length≤1000000) (R:List Blk) (w0:World):
  FnIn Tryz.prog 293 [.pointer (some ⟨g,0,none⟩),.agg (bY n).toArray] w0 (pB g lv A cap fin toks B cb out++R) fun v H=>v= .tuple #[]∧ ∃ B' cb',H=pB g lv A cap fin toks B' cb' (out++ [n])++R:=by
 refine dM Tryz.func293 rfl Tryz.ntmps293 rfl ?_
 repeat' (first|refine sT ?_|refine sM fun _=> ?_|(refine sC ?_ ?_<;>intro hb<;>try omega)|fail)
 refine iw 11 rfl (by kernel_rfl) ?_
 ((with_reducible apply aO (i:=0));exact rfl;exact rfl;decide+kernel;decide+kernel;decide+kernel;exact nP;(intro _ _;exact vP))
 ((with_reducible apply aO (i:=1));exact rfl;exact rfl;decide+kernel;decide+kernel;decide+kernel;exact nP;(intro _ _;exact vP))
 ((with_reducible apply aO (i:=2));exact rfl;exact rfl;decide+kernel;decide+kernel;decide+kernel;exact nP;(intro _ _;exact vP))
 ((with_reducible apply aO (i:=3));exact rfl;exact rfl;decide+kernel;decide+kernel;decide+kernel;exact nP;(intro _ _;exact vP))
 repeat' (first|(apply cF (i:=4) (j:=5);exact rfl;exact rfl;decide+kernel)|(apply cF (i:=4) (j:=6);exact rfl;exact rfl;decide+kernel)|(apply aF (i:=4);exact rfl;decide+kernel)|(apply aF (i:=5);exact rfl;decide+kernel)|(apply aF (i:=6);exact rfl;decide+kernel)|(apply aF (i:=7);exact rfl;decide+kernel)|(apply aF (i:=8);exact rfl;decide+kernel)|(apply aF (i:=9);exact rfl;decide+kernel)|(apply aF (i:=10);exact rfl;decide+kernel)|(apply iq;decide+kernel)|(apply aN;(iterate 3 exact rfl);exact pK;exact pK;exact rfl;(simp [bY,Value.oneCell']);omega;(simp only [maxLen];omega);intro g8 c8)|refine sT ?_|refine sM fun _=> ?_|(refine sC ?_ ?_<;>intro hb<;>try omega)|fail)
 all_goals
  refine gX eIO rfl (H' :=pB g lv A cap fin toks (some g8) c8 (out++ [n])++R) ?_ ⟨rfl,_,_,rfl⟩
  simp only [pB,LC,LH,LY,LR,Mj,LN,LD,LG]
  exact mS
def wz (e:Int × Int):Value:= .iface 290 (.agg #[.int .i64 e.1,.int .i64 e.2])
theorem gY (x:Value) (at_ e:Int) (H:List Blk) (w0:World) (R:Value→List Blk→Prop):
  FnP Tryz.prog 207 [x,.int .i64 at_,.int .i64 e] w0 H R fun v H' =>v=wz (at_,e)∧H' =H:=by
 refine rU Tryz.func207 rfl Tryz.ntmps207 rfl ?_
 repeat' (first|(apply ak;exact rfl;apply xb;(intro m;exact fun h=>by cases h);exact rfl)|(apply ES;exact rfl)|refine sT ?_|refine sM fun _=> ?_|(refine sC ?_ ?_<;>intro hb<;>try omega)|fail)
 exact Jv (.refl _) ⟨rfl,rfl⟩
theorem J9 (op:Int) {g:Nat} {lv:Value} {A:Option Nat} {cap:Nat} {fin:Int} {toks:List Tk} {k:Nat} (hk:TkV lv A toks.length cap k) {B:Option Nat} {cb:Nat} {out:List Nd} {H:List Blk} {w0:World} (hH:MSub (pB g lv A cap fin toks B cb out) H) (w:World) (hm:Mem w0 w H):
  ay Tryz.prog 315 [.pointer (some ⟨g,0,none⟩),.int .i64 op] w (.bool (decide ((hdT fin (toks.drop k)).kind=8∧(hdT fin (toks.drop k)).num=op))):=by
 have hm0:=hH.use hm
 refine aq Tryz.func315 rfl Tryz.ntmps315 rfl ?_
 have hh: ∀ w' H',Mem w w' H' →ay Tryz.prog 206 [.pointer (some ⟨g,0,none⟩)] w' (.agg (aZ (hdT fin (toks.drop k))).toArray):=fun w' H' hm' =>by
  refine yn g lv A cap fin toks k hk (sl B out.length cb) w' ((Ro.of_box hm0 .hd).next hm') fun hlt=> ?_
  obtain ⟨_,_,_,h4⟩:=(hm0.on _ (In.tl .hd:In (.own A 295 8 toks.length cap (toks.flatMap aZ)) _).mem).1
  cases A with
  |none=>obtain ⟨h5,_⟩:=h4;omega
  |some ga=>exact ⟨ga,rfl,(Ro.of_own hm0 (In.tl .hd)).next hm'⟩
 generalize hdT fin (toks.drop k)=t at hh
 repeat' (first|(apply aa;exact rfl;exact rfl;(intro w' hm';exact hh w' _ hm'))|refine sT ?_|refine sM fun _=> ?_|(refine sC ?_ ?_<;>intro hb<;>try omega)|fail)
 all_goals ((refine rT1 ?_);simp_all)
theorem uC (op:Int) (w:World):ay Tryz.prog 291 [.int .i64 op] w (.tuple #[.int .i64 (fD op),.bool (decide (op=5)),.int .i64 (if fD op=0 then 2 else 0)]):=by
 refine aq Tryz.func291 rfl Tryz.ntmps291 rfl ?_
 repeat' (first|refine sT ?_|refine sM fun _=> ?_|(refine sC ?_ ?_<;>intro hb<;>try omega)|fail)
 all_goals ((refine rT3 ?_);simp_all [fD];try omega)
end Go.SL
namespace Go.SL
open Go Go.Proofs
attribute [local irreducible] W WL WQ WG WA WX WLI WR WT VOp thn blk bS scp bq bF cj aS FnIn FnP
def At (toks:List Tk) (A:Option Nat) (cap:Nat) (p:PS) (lv:Value):Prop:= ∃ k,k≤toks.length∧p.l=toks.drop k∧p.out.length≤k∧TkV lv A toks.length cap k
section
variable {toks:List Tk} {A:Option Nat} {cap:Nat} {fin:Int} {g:Nat}
def PR (toks:List Tk) (A:Option Nat) (cap:Nat) (fin:Int) (g:Nat) (R:List Blk) (r:Out) (v:Value) (H:List Blk):Prop:=v= .tuple #[]∧ ∃ n p' lv' B' cb',r= .ok (n,p')∧At toks A cap p' lv' ∧H=pB g lv' A cap fin toks B' cb' p'.out++R
def PD (R:List Blk) (r:Out) (v:Value) (H:List Blk):Prop:= ∃ e,r= .error e∧v=wz e∧MSub R H
def POK (f:Nat) (j:Job) (fid:FuncId) (args:List Value):Prop:=
 ∀ (toks:List Tk) (A:Option Nat) (cap:Nat) (fin:Int) (g:Nat) (p:PS) (lv:Value) (B:Option Nat) (cb:Nat) (r:Out) (R:List Blk) (w0:World),toks.length≤cap→toks.length≤1000→At toks A cap p lv→bB fin f j p=some r→
  FnP Tryz.prog fid (.pointer (some ⟨g,0,none⟩)::args) w0 (pB g lv A cap fin toks B cb p.out++R) (PR toks A cap fin g R r) (PD R r)
theorem bA {o:Option Out} {k:Nat→PS→Option Out} {r:Out} (h:eZ o k=some r): ∃ r1,o=some r1∧((∃ e,r1= .error e∧r= .error e)∨(∃ n p',r1= .ok (n,p')∧k n p' =some r)):=by
 unfold eZ at h
 split at h
 ·
  rename_i n p'
  exact ⟨_,rfl,.inr ⟨n,p',rfl,h⟩⟩
 ·
  rename_i h1
  cases r with
  |error e=>exact ⟨_,h,.inl ⟨e,rfl,rfl⟩⟩
  |ok x=>obtain ⟨n,p'⟩:=x;exact absurd h (h1 n p')
theorem At.head {p:PS} {lv:Value} (h:At toks A cap p lv) {B:Option Nat} {cb:Nat} {out:List Nd} {H:List Blk} {w0:World} (hH:MSub (pB g lv A cap fin toks B cb out) H) (w:World) (hm:Mem w0 w H):
  ay Tryz.prog 206 [.pointer (some ⟨g,0,none⟩)] w (.agg (aZ (hdT fin p.l)).toArray):=by
 obtain ⟨k,h1,h2,h3,h4⟩:=h
 rw [h2]
 exact FQ h4 hH w hm
theorem At.is {p:PS} {lv:Value} (h:At toks A cap p lv) (op:Int) {B:Option Nat} {cb:Nat} {out:List Nd} {H:List Blk} {w0:World} (hH:MSub (pB g lv A cap fin toks B cb out) H) (w:World) (hm:Mem w0 w H):
  ay Tryz.prog 315 [.pointer (some ⟨g,0,none⟩),.int .i64 op] w (.bool (decide ((hdT fin p.l).kind=8∧(hdT fin p.l).num=op))):=by
 obtain ⟨k,h1,h2,h3,h4⟩:=h
 rw [h2]
 exact J9 op h4 hH w hm
def At1 (toks:List Tk) (A:Option Nat) (cap:Nat) (p:PS) (lv:Value):Prop:= ∃ k,k≤toks.length∧p.l=toks.drop k∧p.out.length+1≤k∧TkV lv A toks.length cap k
theorem At.skip {p:PS} {lv:Value} (h:At toks A cap p lv) (hc:toks.length≤cap) {c:Int} (hk:(hdT fin p.l).kind=c) (h0:c≠0) {B:Option Nat} {cb:Nat} {out:List Nd} {H R:List Blk} {w0:World} (hH:MSub (pB g lv A cap fin toks B cb out++R) H):
  FnIn Tryz.prog 292 [.pointer (some ⟨g,0,none⟩)] w0 H fun v H=>v= .tuple #[]∧ ∃ lv',At1 toks A cap p.skip lv' ∧H=pB g lv' A cap fin toks B cb out++R:=by
 obtain ⟨k,h1,h2,h3,h4⟩:=h
 have hpos:=ig hk h0
 rw [h2,LL] at hpos
 refine (FP g lv A cap fin toks k h4 (by omega) hc B cb out R w0).msub hH|>.mono ?_
 rintro v H' ⟨rfl,lv',h5,rfl⟩
 exact ⟨rfl,lv',⟨k+1,by omega,by simp only [PS.skip];rw [h2,ND],by simp only [PS.skip];omega,h5⟩,rfl⟩
theorem At1.at {p:PS} {lv:Value} (h:At1 toks A cap p lv):At toks A cap p lv:=let ⟨k,h1,h2,h3,h4⟩:=h;⟨k,h1,h2,by omega,h4⟩
theorem At1.put {p:PS} {lv:Value} (h:At1 toks A cap p lv) (n:Nd):At toks A cap (p.put n) lv:=let ⟨k,h1,h2,h3,h4⟩:=h;⟨k,h1,h2,by simp only [PS.put,LC,LH];exact h3,h4⟩
theorem At.len {p:PS} {lv:Value} (h:At toks A cap p lv) (hl:toks.length≤1000):p.out.length≤1000000:=let ⟨k,h1,h2,h3,h4⟩:=h;by omega
theorem At1.grew {p p' :PS} {lv lv' :Value} {q:Prop} (h:At1 toks A cap p lv) (h' :At toks A cap p' lv') (hg:Grew p p' q):At1 toks A cap p' lv' :=by
 obtain ⟨k,h1,h2,h3,h4⟩:=h
 obtain ⟨k',g1,g2,g3,g4⟩:=h'
 obtain ⟨⟨m,e1,e2,e3⟩,_,_⟩:=hg
 rw [h2,MK] at e1
 rw [h2,LL] at e2
 have hk:k' =k+m:=by
  have:=congrArg List.length (g2.symm.trans e1)
  rw [LL,LL] at this
  omega
 exact ⟨k',g1,g2,by omega,g4⟩
theorem dK {fn:Func} {fr:Fr} {w0:World} {R H:List Blk} {r:Out} {n:Nat} {p' :PS} {lv' :Value} {B' :Option Nat} {cb' :Nat} {e:Exit} {s:az} (he:e= .ret∨e= .normal) (hf:fn.results= #[]) (hr:r= .ok (n,p')) (hat:At toks A cap p' lv') (hs:MSub (pB g lv' A cap fin toks B' cb' p'.out++R) H):
  bF Tryz.prog fn fr w0 (PR toks A cap fin g R r) (PD R r) e s H:=K3 (gX he hf hs ⟨rfl,n,p',lv',B',cb',hr,hat,rfl⟩)
theorem cE {fn:Func} {fr:Fr} {w0:World} {R H:List Blk} {r:Out} {e:Int × Int} {s:az} {Rok:Value→List Blk→Prop} (hr:r= .error e) (hs:MSub R H):
  bF Tryz.prog fn fr w0 Rok (PD R r) (.panic (ij (wz e))) s H:=Jv (.refl _) ⟨e,hr,rfl,hs⟩
set_option maxHeartbeats 1000000 in
theorem H8 (f:Nat) (ihS:POK f .sign 289 []) (ihP:POK f .pct 316 []):POK (f+1) .sign 289 []:=by
 intro toks A cap fin g p lv B cb r R w0 hc hl hat hrun
 refine rU Tryz.func289 rfl Tryz.ntmps289 rfl ?_
 rw [bB] at hrun
 dsimp only at hrun
 have hi:=fun w hm=>hat.is 2 (fin:=fin) (g:=g) (B:=B) (cb:=cb) (out:=p.out) (H:=pB g lv A cap fin toks B cb p.out++R) (w0:=w0) (MSub.pick .hd (.pick .hd (.pick .hd (.nil _)))) w hm
 by_cases hs:(hdT fin p.l).kind=8∧(hdT fin p.l).num=2
 ·
  rw [if_pos hs] at hrun
  obtain ⟨r1,hr1,hr2⟩:=bA hrun
  rw [decide_eq_true hs] at hi
  repeat' (first|(apply aa (f:=315);exact rfl;exact rfl;exact hi)|(apply aw (f:=292);exact rfl;exact rfl;exact hat.skip hc hs.1 (by decide) (MSub.pick pK (MSub.pick pK (MSub.pick pK (MSub.refl _))));rintro _ _ ⟨rfl,lv1,h1,rfl⟩)|(refine bw (f:=289) rfl rfl (FnP.msub (ihS toks A cap fin g p.skip _ B cb r1 _ w0 hc hl (At1.at h1) hr1) (MSub.pick pK (MSub.pick pK (MSub.pick pK (MSub.refl _))))) ?_ ?_)|(rintro _ _ ⟨rfl,n,p',lv',B',cb',rfl,h2,rfl⟩)|(rintro _ _ ⟨e,rfl,rfl,h3⟩)|(apply aw (f:=293);exact rfl;exact rfl;exact FnIn.msub (jg (dl 4 0) _ _ _ _ _ _ _ _ _ (At.len h2 hl) _ _) (MSub.pick pK (MSub.pick pK (MSub.pick pK (MSub.refl _))));rintro _ _ ⟨rfl,B2,cb2,rfl⟩)|refine sT ?_|refine sP ?_|refine sM fun _=> ?_|(refine sC ?_ ?_<;>intro hb<;>try omega)|fail)
  ·
   rcases hr2 with ⟨e,h,_⟩|⟨n1,p1,h,h5⟩
   ·
    cases h
   ·
    cases h
    cases h5
    exact dK (p' :=p'.put (dl 4 0)) (.inl rfl) rfl rfl ((h1.grew h2 (jK _ _ _ _ _ _ hr1)).put _) (.refl _)
  ·
   rcases hr2 with ⟨e',h,h5⟩|⟨n1,p1,h,h5⟩
   ·
    cases h
    exact cE h5 h3
   ·
    cases h
 ·
  rw [if_neg hs] at hrun
  rw [decide_eq_false hs] at hi
  obtain ⟨r1,hr1,hr2⟩:=bA hrun
  repeat' (first|(apply aa (f:=315) (d:=3);exact rfl;exact rfl;exact hi)|(refine bw (f:=316) rfl rfl (FnP.msub (ihP toks A cap fin g p _ B cb r1 _ w0 hc hl hat hr1) (MSub.pick pK (MSub.pick pK (MSub.pick pK (MSub.refl _))))) ?_ ?_)|(rintro _ _ ⟨rfl,n,p',lv',B',cb',rfl,h2,rfl⟩)|(rintro _ _ ⟨e,rfl,rfl,h3⟩)|refine sT ?_|refine sP ?_|refine sM fun _=> ?_|(refine sC ?_ ?_<;>intro hb<;>try omega)|fail)
  ·
   rcases hr2 with ⟨e,h,_⟩|⟨n1,p1,h,h5⟩
   ·
    cases h
   cases h
   have hi2:=fun w hm=>h2.is 5 (fin:=fin) (g:=g) (B:=B') (cb:=cb') (out:=p'.out) (H:=pB g lv' A cap fin toks B' cb' p'.out++R) (w0:=w0) (MSub.pick .hd (.pick .hd (.pick .hd (.nil _)))) w hm
   by_cases hs5:(hdT fin p'.l).kind=8∧(hdT fin p'.l).num=5
   ·
    rw [if_pos hs5] at h5
    rw [decide_eq_true hs5] at hi2
    obtain ⟨r2,hr3,hr4⟩:=bA h5
    repeat' (first|(apply aa (f:=315) (d:=14);exact rfl;exact rfl;exact hi2)|(apply aw (f:=292);exact rfl;exact rfl;exact h2.skip hc hs5.1 (by decide) (MSub.pick pK (MSub.pick pK (MSub.pick pK (MSub.refl _))));rintro _ _ ⟨rfl,lv1,h1,rfl⟩)|(refine bw (f:=289) rfl rfl (FnP.msub (ihS toks A cap fin g p'.skip _ B' cb' r2 _ w0 hc hl (At1.at h1) hr3) (MSub.pick pK (MSub.pick pK (MSub.pick pK (MSub.refl _))))) ?_ ?_)|(rintro _ _ ⟨rfl,n2,p2,lv2,B2,cb2,rfl,h6,rfl⟩)|(rintro _ _ ⟨e,rfl,rfl,h3⟩)|(apply aw (f:=293);exact rfl;exact rfl;exact FnIn.msub (jg (dl 6 5) _ _ _ _ _ _ _ _ _ (At.len h6 hl) _ _) (MSub.pick pK (MSub.pick pK (MSub.pick pK (MSub.refl _))));rintro _ _ ⟨rfl,B3,cb3,rfl⟩)|refine sT ?_|refine sP ?_|refine sM fun _=> ?_|(refine sC ?_ ?_<;>intro hb<;>try omega)|fail)
    ·
     rcases hr4 with ⟨e,h,_⟩|⟨n3,p3,h,h7⟩
     ·
      cases h
     ·
      cases h
      cases h7
      exact dK (p' :=p2.put (dl 6 5)) (.inr rfl) rfl rfl ((h1.grew h6 (jK _ _ _ _ _ _ hr3)).put _) (.refl _)
    ·
     rcases hr4 with ⟨e',h,h7⟩|⟨n3,p3,h,h7⟩
     ·
      cases h
      exact cE h7 h3
     ·
      cases h
   ·
    rw [if_neg hs5] at h5
    rw [decide_eq_false hs5] at hi2
    cases h5
    repeat' (first|(apply aa (f:=315) (d:=14);exact rfl;exact rfl;exact hi2)|refine sT ?_|refine sP ?_|refine sM fun _=> ?_|(refine sC ?_ ?_<;>intro hb<;>try omega)|fail)
    exact dK (.inr rfl) rfl rfl h2 (.refl _)
  ·
   rcases hr2 with ⟨e',h,h5⟩|⟨n1,p1,h,h5⟩
   ·
    cases h
    exact cE h5 h3
   ·
    cases h
set_option maxHeartbeats 1000000 in
theorem AV (f:Nat) (ihP:POK f .prim 335 []):POK (f+1) .pct 316 []:=by
 intro toks A cap fin g p lv B cb r R w0 hc hl hat hrun
 refine rU Tryz.func316 rfl Tryz.ntmps316 rfl ?_
 rw [bB] at hrun
 obtain ⟨r1,hr1,hr2⟩:=bA hrun
 repeat' (first|(refine bw (f:=335) rfl rfl (FnP.msub (ihP toks A cap fin g p _ B cb r1 _ w0 hc hl hat hr1) (MSub.pick pK (MSub.pick pK (MSub.pick pK (MSub.refl _))))) ?_ ?_)|(rintro _ _ ⟨rfl,n,p',lv',B',cb',rfl,h2,rfl⟩)|(rintro _ _ ⟨e,rfl,rfl,h3⟩)|refine sT ?_|refine sP ?_|refine sM fun _=> ?_|(refine sC ?_ ?_<;>intro hb<;>try omega)|fail)
 ·
  rcases hr2 with ⟨e,h,_⟩|⟨n1,p1,h,h5⟩
  ·
   cases h
  cases h
  refine ax [0] rfl (fun _:Nat × PS × Value × Option Nat × Nat=> []) (fun x=>pB g x.2.2.1 A cap fin toks x.2.2.2.1 x.2.2.2.2 x.2.1.out++R) (fun x=>At toks A cap x.2.1 x.2.2.1∧bB fin x.1 .pctl x.2.1=some r) (fun x=>x.1) (f,p',lv',B',cb') ⟨h2,h5⟩ sB (.refl _) ?_
  rintro ⟨f',q,lq,Bq,cq⟩ ⟨hq1,hq2⟩
  dsimp only at hq1 hq2 ⊢
  cases f' with
  |zero=>cases hq2
  |succ f' =>
   rw [bB] at hq2
   have hi:=fun w hm=>hq1.is 13 (fin:=fin) (g:=g) (B:=Bq) (cb:=cq) (out:=q.out) (H:=pB g lq A cap fin toks Bq cq q.out++R) (w0:=w0) (MSub.pick .hd (.pick .hd (.pick .hd (.nil _)))) w hm
   by_cases hs:(hdT fin q.l).kind=8∧(hdT fin q.l).num=13
   ·
    rw [if_pos hs] at hq2
    rw [decide_eq_true hs] at hi
    repeat' (first|(apply aa (f:=315);exact rfl;exact rfl;exact hi)|(apply aw (f:=292);exact rfl;exact rfl;exact hq1.skip hc hs.1 (by decide) (MSub.pick pK (MSub.pick pK (MSub.pick pK (MSub.refl _))));rintro _ _ ⟨rfl,lv1,h1,rfl⟩)|(apply aw (f:=293);exact rfl;exact rfl;exact FnIn.msub (jg (dl 5 0) _ _ _ _ _ _ _ _ _ (At.len hq1 hl) _ _) (MSub.pick pK (MSub.pick pK (MSub.pick pK (MSub.refl _))));rintro _ _ ⟨rfl,B2,cb2,rfl⟩)|refine sT ?_|refine sP ?_|refine sM fun _=> ?_|(refine sC ?_ ?_<;>intro hb<;>try omega)|fail)
    refine ⟨(f',q.skip.put (dl 5 0),lv1,B2,cb2),⟨h1.put _,hq2⟩,Nw _,sB,sB,.refl _⟩
   ·
    rw [if_neg hs] at hq2
    rw [decide_eq_false hs] at hi
    cases hq2
    repeat' (first|(apply aa (f:=315);exact rfl;exact rfl;exact hi)|refine sT ?_|refine sP ?_|refine sM fun _=> ?_|(refine sC ?_ ?_<;>intro hb<;>try omega)|fail)
    exact dK (by first|exact .inr rfl|exact .inl rfl) rfl rfl hq1 (.refl _)
 ·
  rcases hr2 with ⟨e',h,h5⟩|⟨n1,p1,h,h5⟩
  ·
   cases h
   exact cE h5 h3
  ·
   cases h
end
def p6 (g g2 g3:Nat) (k:Int) (R:List Blk):List Blk:= .box g2 291 [.pointer (some ⟨g,0,none⟩)]:: .box g3 3 [.int .i64 k]::R
theorem D0 (f:Nat) (k:Int) (h1:1≤k) (h4:k≤3) (ih:POK f (.level (k+1)) 248 [.int .i64 (k+1)]) (toks:List Tk) (A:Option Nat) (cap:Nat) (fin:Int) (g:Nat) (p:PS) (lv:Value) (B:Option Nat) (cb:Nat) (r:Out) (R:List Blk) (w0:World) (g2 g3:Nat) (hc:toks.length≤cap) (hl:toks.length≤1000) (hat:At toks A cap p lv) (hr:bB fin f (.level (k+1)) p=some r):
  FnP Tryz.prog 290 [.pointer (some ⟨g2,0,none⟩),.pointer (some ⟨g3,0,none⟩)] w0 (pB g lv A cap fin toks B cb p.out++p6 g g2 g3 k R) (PR toks A cap fin g (p6 g g2 g3 k R) r) (PD (p6 g g2 g3 k R) r):=by
 refine rU Tryz.func290 rfl Tryz.ntmps290 rfl ?_
 repeat' (first|(refine bw (f:=248) rfl rfl (ih toks A cap fin g p lv B cb r _ w0 hc hl hat hr) ?_ ?_)|(rintro _ _ ⟨rfl,n,p',lv',B',cb',rfl,h2,rfl⟩)|(rintro _ _ ⟨e,rfl,rfl,h3⟩)|refine sT ?_|refine sP ?_|refine sJ ?_|refine sM fun _=> ?_|(refine sC ?_ ?_<;>intro hb<;>try omega)|exact cT|fail)
 ·
  exact dK (by first|exact .inr rfl|exact .inl rfl) rfl rfl h2 (.refl _)
 ·
  exact cE rfl h3
def Jo (f:Nat) (k:Int) (toks:List Tk) (A:Option Nat) (cap:Nat) (fin:Int) (g g2 g3:Nat) (w0:World) (bv:Value):Prop:=
 ∃ (fid:FuncId) (bs caps:List Value),bv= .func (.func fid) bs.toArray caps.toArray∧Callable Tryz.prog fid∧ ∀ (f' :Nat) (p:PS) (lv:Value) (B:Option Nat) (cb:Nat) (r:Out) (R:List Blk),f' ≤f→At toks A cap p lv→bB fin f' (.level (k+1)) p=some r→
  FnP Tryz.prog fid (bs++([]++caps)) w0 (pB g lv A cap fin toks B cb p.out++p6 g g2 g3 k R) (PR toks A cap fin g (p6 g g2 g3 k R) r) (PD (p6 g g2 g3 k R) r)
set_option maxHeartbeats 2000000 in
theorem F6 (f:Nat) (k:Int) (h1:1≤k) (h4:k≤4) (ihL:k≤3→ ∀ f' ≤f,POK f' (.level (k+1)) 248 [.int .i64 (k+1)]) (ihS: ∀ f' ≤f,POK f' .sign 289 []):POK (f+1) (.level k) 248 [.int .i64 k]:=by
  intro toks A cap fin g p lv B cb r R w0 hc hl hat hrun
  refine rU Tryz.func248 rfl Tryz.ntmps248 rfl ?_
  rw [bB,if_neg (by omega)] at hrun
  obtain ⟨r1,hr1,hr2⟩:=bA hrun
  repeat' (first|(apply ak;exact rfl;apply j9;exact rfl)|(rename_i g2 g3;refine Ci (id:=2) [2,3] rfl (ι:=Value) (fun bv=> [(4,bv)]) (fun bv=>Jo f k toks A cap fin g g2 g3 w0 bv) ?_ ?_)|refine cu (_) ?_ sB mS|refine sT ?_|refine sP ?_|refine sM fun _=> ?_|(refine sC ?_ ?_<;>intro hb<;>try omega)|exact cT|fail)
  · exact ⟨_,[],_,rfl,inferInstance,fun f' p lv B cb r R hf' hat' hr' =>D0 f' k h1 (by omega) (ihL (by omega) f' hf') toks A cap fin g p lv B cb r R w0 _ _ hc hl hat' hr'⟩
  · have hk:k=4:=by omega
    subst hk
    refine ⟨_,_,[],rfl,inferInstance,fun f' p lv B cb r R hf' hat' hr' => ?_⟩
    cases f' with
    |zero=>cases hr'
    |succ f'' =>
      rw [bB,if_pos (by decide)] at hr'
      exact ihS f'' (by omega) toks A cap fin g p lv B cb r _ w0 hc hl hat' hr'
  · rintro bv ⟨fid,bs,caps,rfl,hcl,hbel⟩
    repeat' (first|(refine tV (f:=fid) rfl rfl hcl rfl (FnP.msub (hbel f p lv B cb r1 _ (LK _) hat hr1) (MSub.pick pK (MSub.pick pK (MSub.pick pK (MSub.pick pK (MSub.pick pK (MSub.refl _))))))) ?_ ?_)|(rintro _ _ ⟨rfl,n,p',lv',B',cb',rfl,h2,rfl⟩)|(rintro _ _ ⟨e,rfl,rfl,h3⟩)|refine sT ?_|refine sP ?_|refine sM fun _=> ?_|(refine sC ?_ ?_<;>intro hb<;>try omega)|exact cT|fail)
    · rcases hr2 with ⟨e,h,_⟩|⟨n1,p1,h,h5⟩
      · cases h
      cases h
      refine ax [2,3,4] rfl (fun _:Nat × PS × Value × Option Nat × Nat=> []) (fun x=>pB g x.2.2.1 A cap fin toks x.2.2.2.1 x.2.2.2.2 x.2.1.out++p6 g g2 g3 k R) (fun x=>x.1≤f∧At toks A cap x.2.1 x.2.2.1∧bB fin x.1 (.loop k) x.2.1=some r) (fun x=>x.1) (f,p',lv',B',cb') ⟨LK _,h2,h5⟩ sB (.refl _) ?_
      rintro ⟨f',q,lq,Bq,cq⟩ ⟨hf',hq1,hq2⟩
      dsimp only at hf' hq1 hq2 ⊢
      cases f' with
      |zero=>cases hq2
      |succ f' =>
        rw [bB] at hq2
        have hh:=fun w hm=>hq1.head (fin:=fin) (g:=g) (B:=Bq) (cb:=cq) (out:=q.out) (H:=pB g lq A cap fin toks Bq cq q.out++p6 g g2 g3 k R) (w0:=w0) (MSub.pick .hd (.pick .hd (.pick .hd (.nil _)))) w hm
        obtain ⟨t,ht⟩: ∃ t,hdT fin q.l=t:=⟨_,rfl⟩
        rw [ht] at hq2 hh
        by_cases hs:t.kind=8∧fD t.num=k
        · rw [if_pos hs] at hq2
          obtain ⟨hs8,hsk⟩:=hs
          obtain ⟨r2,hr3,hr4⟩:=bA hq2
          repeat' (first|(apply aa (f:=206);exact rfl;exact rfl;exact hh)|(apply aa (f:=291);exact rfl;exact rfl;(intro w' _;exact uC _ w'))|(apply aw (f:=292);exact rfl;exact rfl;exact hq1.skip hc (ht ▸ hs8) (by decide) (MSub.pick pK (MSub.pick pK (MSub.pick pK (MSub.refl _))));rintro _ _ ⟨rfl,lv1,h1',rfl⟩)|(refine tV (f:=fid) rfl rfl hcl rfl (FnP.msub (hbel f' q.skip lv1 Bq cq r2 _ (by omega) (At1.at h1') hr3) (MSub.pick pK (MSub.pick pK (MSub.pick pK (MSub.pick pK (MSub.pick pK (MSub.refl _))))))) ?_ ?_)|(rintro _ _ ⟨rfl,n2,p2,lv2,B2,cb2,rfl,h6,rfl⟩)|(rintro _ _ ⟨e,rfl,rfl,h3⟩)|(apply aw (f:=293);exact rfl;exact rfl;exact FnIn.msub (jg (dl 6 t.num) _ _ _ _ _ _ _ _ _ (At.len h6 hl) _ _) (MSub.pick pK (MSub.pick pK (MSub.pick pK (MSub.refl _))));rintro _ _ ⟨rfl,B3,cb3,rfl⟩)|refine sT ?_|refine sP ?_|refine sM fun _=> ?_|(refine sC ?_ ?_<;>intro hb<;>try omega)|exact cT|fail)
          · rcases hr4 with ⟨e,h,_⟩|⟨n3,p3,h,h7⟩
            · cases h
            · cases h
              refine ⟨(f',p2.put (dl 6 t.num),lv2,B3,cb3),⟨by omega,(h1'.grew h6 (jK _ _ _ _ _ _ hr3)).put _,h7⟩,Nw _,sB,sB,?_⟩
              dsimp only [p6,List.cons_append,List.nil_append,pB]
              exact mS
          · rcases hr4 with ⟨e',h,h7⟩|⟨n3,p3,h,h7⟩
            · cases h
              exact cE h7 (MSub.trans (by unfold p6;exact .drop (.tl (.tl .hd)) (.drop .hd (.drop .hd (.refl _)))) h3)
            · cases h
        · rw [if_neg hs] at hq2
          cases hq2
          repeat' (first|(apply aa (f:=206);exact rfl;exact rfl;exact hh)|(apply aa (f:=291);exact rfl;exact rfl;(intro w' _;exact uC _ w'))|refine sT ?_|refine sP ?_|refine sM fun _=> ?_|(refine sC ?_ ?_<;>intro hb<;>try omega)|exact cT|fail)
          all_goals first
            |(exfalso;omega)
            | (refine dK (B' := Bq) (cb' := cq) (by first | exact .inr rfl | exact .inl rfl) rfl rfl hq1 ?_
               dsimp only [p6,List.cons_append,List.nil_append,pB]
               exact mS)
    · rcases hr2 with ⟨e',h,h5⟩|⟨n1,p1,h,h5⟩
      · cases h
        exact cE h5 (MSub.trans (by unfold p6;exact .drop .hd (.drop .hd (.refl _))) h3)
      · cases h
end Go.SL
