/-
  Lemmas and walks, put together: B5 C7 Lq D2.
-/
import Derived.Test.YtoanpdoacdpgeaaGreatDoorKn22
import Derived.Test.YtoanpdoacdpgeaaGreatDoorKn26
set_option linter.unusedSimpArgs false
set_option linter.unusedVariables false
set_option maxRecDepth 20000
namespace Go.SL
open Go Go.Proofs
attribute [local irreducible] W WL WQ WG WA WX WLI WR WT VOp thn blk bE scp ba bL aP FnIn
def lI:List (List Int→Option (Tk × Nat)):= [fg,lF,f9,jL,gK]
def kW (l:List Int):List (List Int→Option (Tk × Nat))→Option (Tk × Nat)
 | []=>none
 |r::rs=>match r l with
  |some x=>some x
  |none=>kW l rs
def dS (l:List Int):Option (Tk × Nat):=kW l lI
def bn (tk:List Int→Option (Tk × Nat)) (l:List Int):Nat→Nat→Except Nat (List Tk)
 |0,_=> .ok []
 |f+1,i=>
  match l.drop i with
  | []=> .ok []
  |c::_=>
   if c=32 then bn tk l f (i+1)
   else match tk (l.drop i) with
    |none=> .error i
    |some (t,n)=>(bn tk l f (i+n)).map fun r=>{ t with at_:=(i:Int) }::r
def Fits (l:List Int) (o:Option (Tk × Nat)):Prop:= ∀ t n,o=some (t,n)→0<n∧n≤l.length
theorem Fits.none {l:List Int}:Fits l none:=fun _ _ h=>by cases h
theorem Fits.some {l:List Int} {t:Tk} {n:Nat} (h1:0<n) (h2:n≤l.length):Fits l (some (t,n)):=fun _ _ h=>by cases h;exact ⟨h1,h2⟩
theorem kz {l:List Int} {c:Int} (h:l.headD 0=c) (hc:c≠0):0<l.length:=by
 cases l with
 |nil=>exact absurd h.symm hc
 |cons=>simp
theorem Ch (l:List Int):bS l=0∨bS l+1≤l.length:=by
 unfold bS
 split
 ·
  right
  rename_i r
  have:=bR aH r
  simp;omega
 ·
  left;rfl
theorem qB (l:List Int):Fits l (fg l):=by
 unfold fg
 dsimp only
 have h1:=bR aH l
 have h2:=Ch (l.drop (aF aH l))
 rw [Nq] at h2
 have h3:(if bS (l.drop (aF aH l))=0 then aF aH l else aF aH l+1+bS (l.drop (aF aH l)))≤l.length∧aF aH l≤(if bS (l.drop (aF aH l))=0 then aF aH l else aF aH l+1+bS (l.drop (aF aH l))):=by
  split<;>omega
 generalize (if bS (l.drop (aF aH l))=0 then aF aH l else aF aH l+1+bS (l.drop (aF aH l)))=m at h3 ⊢
 split
 ·
  exact .none
 ·
  rename_i h
  split
  ·
   exact .none
  ·
   exact .some (by omega) (by omega)
theorem mI: ∀ (n:Nat) (l:List Int) (k:Nat),l.length≤n→cA l=some k→k<l.length
 |_,[],_,_,h=>by simp [cA] at h
 |0,c::r,_,hn,_=>by simp at hn
 |n+1,c::r,k,hn,h=>by
  by_cases hc:c=34
  ·
   subst hc
   cases r with
   |nil=>simp [cA] at h;subst h;simp
   |cons d r' =>
    by_cases hd:d=34
    ·
     subst hd
     simp only [cA,ne_eq,not_true_eq_false,if_false,if_true,Od] at h
     obtain ⟨j,hj,rfl⟩:=h
     have:=mI n r' j (by simp at hn;omega) hj
     simp;omega
    ·
     simp [cA,hd] at h
     subst h;simp
  ·
   rw [jM hc,Od] at h
   obtain ⟨j,hj,rfl⟩:=h
   have:=mI n r j (by simp at hn;omega) hj
   simp;omega
theorem EG (l:List Int):Fits l (lF l):=by
 unfold lF
 split
 ·
  exact .none
 ·
  rename_i h
  have h0:=kz (c:=34) (Decidable.not_not.1 h) (by decide)
  split
  ·
   exact .none
  ·
   rename_i k hk
   have:=mI _ _ k (Ni _) hk
   rw [Nq] at this
   split
   ·
    exact .none
   ·
    exact .some (by omega) (by omega)
theorem vk (l:List Int):Fits l (f9 l):=by
 have h1:=bR cJ l
 have h2:=bR cJ (l.drop (aF cJ l+1))
 rw [Nq] at h2
 have hpos:bO (l.headD 0)≠false→0<aF cJ l:=fun h=>by
  cases l with
  |nil=>exact absurd rfl h
  |cons c r=>
   have:bO c=true:=by simpa using h
   simp [aF,cJ,this]
 unfold f9
 split
 ·
  exact .none
 ·
  rename_i h
  have hp:=hpos h
  split
  ·
   exact .some hp h1
  ·
   split
   ·
    exact .some hp h1
   ·
    split
    ·
     exact .some hp h1
    ·
     split
     ·
      exact .none
     ·
      split
      ·
       rename_i hq
       have:=kz hq.1 (by decide)
       rw [Nq] at this
       exact .some (by omega) (by omega)
      ·
       exact .some hp h1
theorem tW (l:List Int): ∀ (ns:List (List Int)) (c k:Int) (n:Nat),(∀ s∈ns,s≠ [])→ju l ns c=some (k,n)→0<n∧n≤l.length
 | [],_,_,_,_,h=>by cases h
 |s::r,c,k,n,hs,h=>by
  rw [ju] at h
  split at h
  ·
   rename_i he
   cases h
   have:=congrArg List.length he
   rw [Oi,Nu] at this
   have:=OM.2 (hs s Nj)
   omega
  ·
   exact tW l r _ k n (fun s hs' =>hs s (Nv _ hs')) h
theorem wm (l:List Int):Fits l (jL l):=by
 intro t n h
 unfold jL at h
 rw [Od] at h
 obtain ⟨⟨c,m⟩,h1,h2⟩:=h
 cases h2
 exact tW l dz 1 c _ (by decide) h1
theorem zC (l:List Int): ∀ (ns:List (List Int × Int)) (k:Int) (n:Nat),(∀ s∈ns,s.1≠ [])→opL l ns=some (k,n)→0<n∧n≤l.length
 | [],_,_,_,h=>by cases h
 |(s,c)::r,k,n,hs,h=>by
  rw [opL] at h
  split at h
  ·
   rename_i he
   cases h
   have:=congrArg List.length he
   rw [Nu] at this
   have:=OM.2 (hs _ Nj)
   dsimp only at this
   omega
  ·
   exact zC l r k n (fun s hs' =>hs s (Nv _ hs')) h
theorem vG (l:List Int):Fits l (gK l):=by
 unfold gK
 split
 ·
  rename_i k n h
  have:=zC l eD k n (by decide) h
  exact .some this.1 this.2
 ·
  split
  ·
   exact .some (by omega) (kz (by assumption) (by decide))
  ·
   split
   ·
    exact .some (by omega) (kz (by assumption) (by decide))
   ·
    split
    ·
     exact .some (by omega) (kz (by assumption) (by decide))
    ·
     exact .none
theorem tT (l:List Int): ∀ rs:List (List Int→Option (Tk × Nat)),(∀ r∈rs,Fits l (r l))→Fits l (kW l rs)
 | [],_=> .none
 |r::rs,h=>by
  unfold kW
  split
  ·
   rename_i x hx
   exact hx ▸ h r Nj
  ·
   exact tT l rs fun r hr=>h r (Nv _ hr)
theorem EM (l:List Int): ∀ r∈lI,Fits l (r l):=by
 intro r hr
 simp only [lI,NA,OL,or_false] at hr
 rcases hr with rfl|rfl|rfl|rfl|rfl
 ·
  exact qB l
 ·
  exact EG l
 ·
  exact vk l
 ·
  exact wm l
 ·
  exact vG l
theorem sj (l:List Int):Fits l (dS l):=tT l _ (EM l)
theorem oC {tk:List Int→Option (Tk × Nat)} {l:List Int} (ht: ∀ m,Fits m (tk m)): ∀ (b d f i:Nat),d≤b→l.length - i=d→d≤f→bn tk l f i=bn tk l d i:=by
 intro b
 induction b with
 |zero=>
  intro d f i hb hd hf
  have:d=0:=by omega
  subst this
  cases f with
  |zero=>rfl
  |succ f=>
   simp only [bn]
   rw [NC (by omega)]
 |succ b ih=>
  intro d f i hb hd hf
  cases d with
  |zero=>
   cases f with
   |zero=>rfl
   |succ f=>
    simp only [bn]
    rw [NC (by omega)]
  |succ m=>
   obtain ⟨g,rfl⟩: ∃ g,f=g+1:=⟨f - 1,by omega⟩
   simp only [bn]
   have hi:i<l.length:=by omega
   rw [Nn hi]
   dsimp only
   split
   ·
    exact ih m g (i+1) (by omega) (by omega) (by omega)
   ·
    split
    ·
     rfl
    ·
     rename_i t n hn
     have:=ht _ t n hn
     rw [ih (l.length - (i+n)) g (i+n) (by omega) rfl (by omega),ih (l.length - (i+n)) m (i+n) (by omega) rfl (by omega)]
def bM (tk:List Int→Option (Tk × Nat)) (l:List Int):List Tk × Int × Int:=
 if 256<l.length then ([],0,5)
 else match l.findIdx? (fun c=> !bz c) with
  |some i=>([],(i:Int),4)
  |none=>match bn tk l l.length 0 with
   | .ok r=>(r,0,0)
   | .error i=>([],(i:Int),4)
def Dx (A:Option Nat) (cap:Nat) (r:List Tk × Int × Int):Value:= .tuple #[sl A r.1.length cap,.int .i64 r.2.1,.int .i64 r.2.2]
def BQ:List Nat:= [221,222,223,224,225]
theorem J0 (a:ByteArray) (ha:a.size≤10000) (i:Nat) (hi:i<a.size) (g:Nat) (k:Nat) (hk:k<5):
  ∃ f r,lI.drop k=r::lI.drop (k+1)∧(BQ.map fun f=>Value.func (.func f) #[.pointer (some ⟨g,0,none⟩)] #[])[k]? =some (.func (.func f) #[.pointer (some ⟨g,0,none⟩)] #[])∧Callable Tryz.prog f∧
   ∀ w,Ro w g 0 [.string a]→Words w→ay Tryz.prog f [.pointer (some ⟨g,0,none⟩),.int .i64 (i:Int)] w (BI (atT i (r ((ap a).drop i)))):=by
 rcases (by omega:k=0∨k=1∨k=2∨k=3∨k=4) with rfl|rfl|rfl|rfl|rfl
 ·
  exact ⟨_,_,rfl,rfl,inferInstance,fun w hr _=>E5 a (by omega) i (by omega) g w hr⟩
 ·
  exact ⟨_,_,rfl,rfl,inferInstance,fun w hr _=>JU a (by omega) i hi g w hr⟩
 ·
  exact ⟨_,_,rfl,rfl,inferInstance,fun w hr _=>Jl a ha i hi g w hr⟩
 ·
  exact ⟨_,_,rfl,rfl,inferInstance,fun w hr hW=>Kl a (by omega) i (by omega) g w hr hW⟩
 ·
  exact ⟨_,_,rfl,rfl,inferInstance,fun w hr _=>JW a (by omega) i hi g w hr⟩
theorem l6 {a:ByteArray} {q:Int→Bool} {i:Nat} (h:i<a.size) (hq:q (bat a i)=true) (hno: ∀ j,j<i→q (bat a j)=false):(ap a).findIdx? q=some i:=by
 rw [OW]
 have hl:=av a
 have hg: ∀ j (hj:j<(ap a).length),(ap a)[j]=bat a j:=fun j hj=>by
  have:=fR (a:=a) (i:=j) (by omega)
  rw [Nc hj] at this
  exact Option.some.inj this
 refine ⟨by omega,by rw [hg];exact hq,fun j hj=> ?_⟩
 rw [hg,hno j hj];simp
theorem kR {a:ByteArray} {q:Int→Bool} (hno: ∀ j,j<a.size→q (bat a j)=false):(ap a).findIdx? q=none:=by
 rw [OJ]
 intro x hx
 obtain ⟨j,hj,rfl⟩:=O7 hx
 have hl:=av a
 have:=fR (a:=a) (i:=j) (by omega)
 rw [Nc hj] at this
 rw [Option.some.inj this]
 exact hno j (by omega)
set_option maxHeartbeats 2000000 in
theorem FP (a:ByteArray) (w:World) (hW:Words w):
  aP Tryz.prog 174 [.string a] w fun v H=> ∃ A cap,v=Dx A cap (bM dS (ap a))∧H= [.own A 228 8 (bM dS (ap a)).1.length cap ((bM dS (ap a)).1.flatMap bh)]:=by
 refine aq Tryz.func174 rfl Tryz.ntmps174 rfl ?_
 have hl:=av a
 unfold bM
 refine aD 228 8 ?_
 by_cases hlen:256<(ap a).length
 ·
  rw [if_pos hlen]
  repeat' (first|refine sT ?_|refine sS ?_|refine sT2 ?_|refine sM fun _=> ?_|(refine sC ?_ ?_<;>intro hb<;>try omega)|fail)
  all_goals try (exfalso;omega)
  exact mM (.inl rfl) rfl rfl rfl rfl (.refl _) ⟨none,0,rfl,rfl⟩
 ·
  rw [if_neg hlen]
  repeat' (first|refine sT ?_|refine sS ?_|refine sT2 ?_|refine sM fun _=> ?_|(refine sC ?_ ?_<;>intro hb<;>try omega)|fail)
  all_goals try (exfalso;omega)
  refine ax [0,2,17] rfl (fun i:Nat=> [(18,.int .i64 (i:Int))]) (fun _=> [.own none 228 8 0 0 []]) (fun i=>i≤a.size∧ ∀ j,j<i→bz (bat a j)=true) (fun i=>a.size - i) 0 ⟨by omega,fun j h=>by omega⟩ sB mS ?_
  rintro i ⟨hi,hpl⟩
  by_cases hlt:i<a.size
  ·
   repeat' (first|refine sT ?_|refine sS ?_|refine sT2 ?_|refine sN ?_|refine sM fun _=> ?_|(refine sC ?_ ?_<;>intro hb<;>try omega)|fail)
   ·
    have hf:(ap a).findIdx? (fun c=> !bz c)=some i:=by
     refine l6 hlt ?_ fun j hj=>by rw [hpl j hj];rfl
     simp only [bz,Bool.not_eq_true',Oj,decide_eq_false_iff_not]
     omega
    rw [hf]
    exact mM (.inl rfl) rfl rfl rfl rfl (.refl _) ⟨none,0,rfl,rfl⟩
   ·
    have hf:(ap a).findIdx? (fun c=> !bz c)=some i:=by
     refine l6 hlt ?_ fun j hj=>by rw [hpl j hj];rfl
     simp only [bz,Bool.not_eq_true',Oj,decide_eq_false_iff_not]
     omega
    rw [hf]
    exact mM (.inl rfl) rfl rfl rfl rfl (.refl _) ⟨none,0,rfl,rfl⟩
   ·
    refine ⟨i+1,?_,(by first|omega|(dsimp only;omega)),sB,sB,mS⟩
    refine ⟨hlt,fun j hj=> ?_⟩
    rcases (by omega:j<i∨j=i) with h|rfl
    ·
     exact hpl j h
    ·
     rename_i h1
     simp only [bz,Nm,decide_eq_true_eq]
     omega
  ·
   have e:i=a.size:=by omega
   subst e
   have hf:(ap a).findIdx? (fun c=> !bz c)=none:=kR fun j hj=>by rw [hpl j hj];rfl
   rw [hf]
   dsimp only
   repeat' (first|(apply ak;exact rfl;apply kG;exact rfl)|(apply Bh;(iterate 6 exact rfl))|refine sT ?_|refine sS ?_|refine sT2 ?_|refine sN ?_|refine sM fun _=> ?_|(refine sC ?_ ?_<;>intro hb<;>try omega)|fail)
   all_goals try (exfalso;omega)
   rename_i g6 g7
   generalize hT:bn dS (ap a) (ap a).length 0=T
   refine ax [0,6,7] rfl (fun x:Nat × List Tk × Option Nat × Nat=> [(2,sl x.2.2.1 x.2.1.length x.2.2.2),(8,.int .i64 (x.1:Int))]) (fun x=> [.own x.2.2.1 228 8 x.2.1.length x.2.2.2 (x.2.1.flatMap bh),.box g7 274 (BQ.map fun f=>Value.func (.func f) #[.pointer (some ⟨g6,0,none⟩)] #[]),.box g6 272 [.string a]])
    (fun x=>x.1≤a.size∧x.2.1.length≤x.1∧T=(bn dS (ap a) (a.size - x.1) x.1).map (x.2.1++ ·)) (fun x=>a.size - x.1) (0,[],none,0) ⟨by omega,by simp,by rw [← hT,hl];cases bn dS (ap a) a.size 0<;>rfl⟩ sB mS ?_
   rintro ⟨i,toks,A,cap⟩ ⟨hi2,hi3,hi4⟩
   dsimp only at hi2 hi3 hi4 ⊢
   by_cases hlt2:i<a.size
   ·
    obtain ⟨f,hf1⟩: ∃ f,a.size - i=f+1:=⟨a.size - i - 1,by omega⟩
    rw [hf1] at hi4
    simp only [bn] at hi4
    have hdr:=bk hlt2
    generalize hld:(ap a).drop i=ld at hi4 hdr
    rw [hdr] at hi4
    dsimp only at hi4
    by_cases h32:bat a i=32
    ·
     rw [if_pos h32] at hi4
     repeat' (first|refine sT ?_|refine sS ?_|refine sT2 ?_|refine sN ?_|refine sM fun _=> ?_|(refine sC ?_ ?_<;>intro hb<;>try omega)|fail)
     all_goals try (exfalso;omega)
     refine ⟨(i+1,toks,A,cap),?_,(by first|omega|(dsimp only;omega)),sB,sB,mS⟩
     exact ⟨hlt2,by dsimp only;omega,by dsimp only;rw [show a.size - (i+1)=f by omega];exact hi4⟩
    ·
     rw [if_neg h32,← hdr] at hi4
     repeat' (first|refine sT ?_|refine sS ?_|refine sT2 ?_|refine sN ?_|refine sM fun _=> ?_|(refine sC ?_ ?_<;>intro hb<;>try omega)|fail)
     all_goals try (exfalso;omega)
     have hldl:ld.length=a.size - i:=by rw [← hld,Nq,hl]
     refine ax [0,2,6,7,8,57] rfl (fun k:Nat=> [(58,.int .i64 (k:Int))]) (fun _=> [.own A 228 8 toks.length cap (toks.flatMap bh),.box g7 274 (BQ.map fun f=>Value.func (.func f) #[.pointer (some ⟨g6,0,none⟩)] #[]),.box g6 272 [.string a]]) (fun k=>k≤5∧dS ld=kW ld (lI.drop k)) (fun k=>5 - k) 0 ⟨by omega,rfl⟩ sB mS ?_
     rintro k ⟨hk,hkt⟩
     by_cases hk5:k<5
     ·
      obtain ⟨f2,r,r1,r2,r3,r4⟩:=J0 a (by omega) i hlt2 g6 k hk5
      rw [hld] at r4
      rw [r1,kW] at hkt
      cases ho:r ld with
      |none=>
       rw [ho] at hkt r4
       dsimp only at hkt
       repeat' (first|(apply ak;exact rfl;apply lz;exact rfl;exact rfl;exact hk5;exact r2)|(apply pM;exact rfl;exact rfl;exact r3;exact rfl;(intro w' hm;exact r4 w' (Ro.of_box hm pK) (hW.next hm)))|refine sT ?_|refine sS ?_|refine sT2 ?_|refine sN ?_|refine sM fun _=> ?_|(refine sC ?_ ?_<;>intro hb<;>try omega)|fail)
       all_goals try (exfalso;omega)
       refine ⟨k+1,?_,(by first|omega|(dsimp only;omega)),sB,sB,mS⟩
       exact ⟨hk5,hkt⟩
      |some x=>
       obtain ⟨t,m⟩:=x
       rw [ho] at hkt r4
       dsimp only at hkt
       have hfit:=sj ld t m hkt
       rw [hkt] at hi4
       dsimp only at hi4
       have hm0:0<m:=hfit.1
       repeat' (first|(apply ak;exact rfl;apply lz;exact rfl;exact rfl;exact hk5;exact r2)|(apply pM;exact rfl;exact rfl;exact r3;exact rfl;(intro w' hm;exact r4 w' (Ro.of_box hm pK) (hW.next hm)))|(apply aG;(iterate 3 exact rfl);exact pK;exact pK;exact rfl;(simp [bh,Value.oneCell']);omega;(simp only [maxLen];omega);intro g8 c8)|refine sT ?_|refine sS ?_|refine sT2 ?_|refine sN ?_|refine sM fun _=> ?_|(refine sC ?_ ?_<;>intro hb<;>try omega)|fail)
       all_goals try (exfalso;omega)
       refine ⟨(i+m,toks++ [{ t with at_:=(i:Int) }],some g8,c8),⟨by dsimp only;omega,by simp;omega,?_⟩,(by dsimp only;omega),?_,sB,?_⟩
       ·
        dsimp only
        rw [hi4,oC sj f (a.size - (i+m)) f (i+m) (by omega) (by omega) (by omega)]
        cases bn dS (ap a) (a.size - (i+m)) (i+m)<;>simp [Except.map]
       ·
        simp only [Na,Nh]
        exact sB
       ·
        simp only [Na,Nh,Nt,Np,NE,Nl]
        exact mS
     ·
      have e:k=5:=by omega
      subst e
      rw [show kW ld (lI.drop 5)=none from rfl] at hkt
      rw [hkt] at hi4
      dsimp only [Except.map] at hi4
      rw [hi4]
      refine aD 228 8 ?_
      repeat' (first|refine sT ?_|refine sS ?_|refine sT2 ?_|refine sN ?_|refine sM fun _=> ?_|(refine sC ?_ ?_<;>intro hb<;>try omega)|fail)
      all_goals try (exfalso;omega)
      exact mM (.inl rfl) rfl rfl rfl rfl (H' := [.own none 228 8 0 0 []]) mS ⟨none,0,rfl,rfl⟩
   ·
    have e:i=a.size:=by omega
    subst e
    rw [show a.size - a.size=0 by omega] at hi4
    simp only [bn,Except.map,Nl] at hi4
    rw [hi4]
    repeat' (first|refine sT ?_|refine sS ?_|refine sT2 ?_|refine sN ?_|refine sM fun _=> ?_|(refine sC ?_ ?_<;>intro hb<;>try omega)|fail)
    all_goals try (exfalso;omega)
    exact mM (.inl rfl) rfl rfl rfl rfl (H' := [.own A 228 8 toks.length cap (toks.flatMap bh)]) mS ⟨A,cap,rfl,rfl⟩
end Go.SL
namespace Go.SL
open Go Go.Proofs
attribute [local irreducible] W WL WQ WG WA WX WLI WR WT VOp RW thn blk bE scp ba bo bL aP FnIn FnP
theorem DF (p2 p3 p4:Value) (w0:World) (H:List Blk):FnD Tryz.prog 175 [p2,p3,p4] .returning w0 H H:=by
 refine MJ Tryz.func175 rfl rfl Tryz.ntmps175 rfl rfl (.inl ⟨rfl,rfl⟩) ?_
 repeat' (first|(apply ak;exact rfl;apply JH;exact rfl)|refine sT ?_|refine sM fun _=> ?_|(refine sC ?_ ?_<;>intro hb<;>try omega)|fail)
 all_goals exact ⟨by first|exact .inl rfl|exact .inr rfl,.refl _⟩
theorem DG (g2 g3 g4:Nat) (x2 x3 x4:Value) (e:Int × Int) (w0:World) (R:List Blk):
  FnD Tryz.prog 175 [.pointer (some ⟨g2,0,none⟩),.pointer (some ⟨g3,0,none⟩),.pointer (some ⟨g4,0,none⟩)] (.panicking (iL (xK e))) w0
   (.box g2 128 [x2]:: .box g3 3 [x3]:: .box g4 39 [x4]::R)
   (.box g2 128 [.slice none 0 0]:: .box g3 3 [.int .i64 e.1]:: .box g4 39 [.int .i64 e.2]::R):=by
 refine MJ Tryz.func175 rfl rfl Tryz.ntmps175 rfl rfl (.inr rfl) ?_
 repeat' (first|(apply ak;exact rfl;apply JG;exact rfl)|(apply ak;exact rfl;apply wS;exact rfl;exact rfl)|(rename_i g;refine yu (id:=7) [⟨4,g2,128,x2,.slice none 0 0⟩,⟨5,g3,3,x3,.int .i64 e.1⟩,⟨6,g4,39,x4,.int .i64 e.2⟩] (.box g 223 [.int .i64 e.1,.int .i64 e.2]::R) (by kernel_rfl) (by kernel_rfl) rfl mS ?_)|(apply Js;exact rfl;exact rfl;(exact vC))|(refine mi [] [⟨5,g3,3,x3,.int .i64 e.1⟩,⟨6,g4,39,x4,.int .i64 e.2⟩] ⟨4,g2,128,x2,.slice none 0 0⟩ rfl rfl rfl rfl rfl rfl ?_)|(refine mi [⟨4,g2,128,x2,.slice none 0 0⟩] [⟨6,g4,39,x4,.int .i64 e.2⟩] ⟨5,g3,3,x3,.int .i64 e.1⟩ rfl rfl rfl rfl rfl rfl ?_)|(refine mi [⟨4,g2,128,x2,.slice none 0 0⟩,⟨5,g3,3,x3,.int .i64 e.1⟩] [] ⟨6,g4,39,x4,.int .i64 e.2⟩ rfl rfl rfl rfl rfl rfl ?_)|apply wN|refine sT ?_|refine sG ?_|refine sM fun _=> ?_|(refine sC ?_ ?_<;>intro hb<;>try omega)|fail)
 refine ⟨.inr rfl,?_⟩
 simp only [NM,OD,BoxT.post,Nf,Ng]
 exact mS
def cY (x:List Tk × Int × Int) (fin:Int):List Nd × Int × Int:=
 if x.2.2≠0 then ([],x.2.1,x.2.2)
 else match bG fin (20*x.1.length+40) (.level 1) ⟨x.1,[]⟩ with
  |none=>([],0,0)
  |some (.error (a,e))=>([],a,e)
  |some (.ok (_,p))=>
   if (hdT fin p.l).kind≠0 then ([],(hdT fin p.l).at_,4)
   else if jX p.out≠0 then ([],0,jX p.out)
   else (p.out,0,0)
theorem yN {tk:List Int→Option (Tk × Nat)} {l:List Int} (f:Nat): ∀ (i:Nat) (r:List Tk),bn tk l f i= .ok r→r.length≤f:=by
 induction f with
 |zero=>intro i r h;simp only [bn,Except.ok.injEq] at h;subst h;exact Ni _
 |succ f ih=>
  intro i r h
  simp only [bn] at h
  split at h
  ·
   cases h;exact Ns _
  ·
   split at h
   ·
    exact Pq (ih _ _ h)
   ·
    split at h
    ·
     cases h
    ·
     rename_i t n _
     cases hr:bn tk l f (i+n) with
     |error e=>rw [hr] at h;cases h
     |ok r' =>
      rw [hr] at h
      cases h
      exact PN (ih _ _ hr)
theorem qo (tk:List Int→Option (Tk × Nat)) (l:List Int):(bM tk l).1.length≤256:=by
 unfold bM
 split
 ·
  exact Ns _
 ·
  split
  ·
   exact Ns _
  ·
   split
   ·
    rename_i h
    have:=yN _ _ _ h
    dsimp only
    omega
   ·
    exact Ns _
theorem At.start (toks:List Tk) (A:Option Nat) (cap:Nat):At toks A cap ⟨toks,[]⟩ (sl A toks.length cap):=
 ⟨0,Ns _,rfl,Ni _,A.map fun g=>⟨g,0,none⟩,by simp [sl],fun _=>by simp⟩
def Dw (A:Option Nat) (cap:Nat) (r:List Nd × Int × Int):Value:= .tuple #[sl A r.1.length cap,.int .i64 r.2.1,.int .i64 r.2.2]
set_option maxHeartbeats 4000000 in
theorem C9 (a:ByteArray) (w:World) (hW:Words w) (r:List Nd × Int × Int) (hr:r=cY (bM dS (ap a)) (a.size:Int)):
  aP Tryz.prog 139 [.string a] w fun v H=> ∃ A cap,v=Dw A cap r∧H= [.own A 293 11 r.1.length cap (r.1.flatMap cv)]:=by
 refine Kj Tryz.func139 rfl Tryz.ntmps139 rfl ?_
 have htl:=qo dS (ap a)
 have hT:=fun w' (hm:Σ' H,Mem w w' H)=>FP a w' (hW.next hm.2)
 obtain ⟨⟨toks,at0,e0⟩,hx⟩: ∃ x,bM dS (ap a)=x:=⟨_,rfl⟩
 rw [hx] at hr htl
 simp only [hx,Dx] at hT
 dsimp only at htl
 refine vH 293 11 ?_
 refine vH 293 11 ?_
 refine GK (fun e a w _ h=>IE h) ?_
 obtain ⟨r1,hr1,_⟩:=vK (a.size:Int) (20*toks.length+40) (.level 1) ⟨toks,[]⟩ ⟨by omega,by omega⟩ (by simp [Job.c])
 have hP: ∀ (A:Option Nat) (cap g:Nat) (R:List Blk),toks.length≤cap→FnP Tryz.prog 176 [.pointer (some ⟨g,0,none⟩)] w (pB g (sl A toks.length cap) A cap (a.size:Int) toks none 0 []++R) (PR toks A cap (a.size:Int) g R r1) (PD R r1):=fun A cap g R hc=>
  (EX (20*toks.length+40)).2.2.2.2 toks A cap (a.size:Int) g ⟨toks,[]⟩ (sl A toks.length cap) none 0 r1 R w hc (by omega) (At.start toks A cap) hr1
 obtain ⟨ff,hff⟩: ∃ ff,20*toks.length+40=ff:=⟨_,rfl⟩
 rw [hff] at hr1
 repeat' (first|(apply aC (f:=174);exact rfl;exact rfl;exact fun w' hm=>hT w' ⟨_,hm⟩;rintro _ _ ⟨A,cap,rfl,rfl⟩)|(rename_i g2 g3 g4;refine GL (cs:= [_,_,_]) rfl rfl ?_)|(refine GK (fun e a w _ h=>IE h) ?_)|(refine Lw (fun e a w h=>LS h) ?_)|(rename_i g2 g3 g4;refine yu (id:=3) [⟨2,g2,128,.slice none 0 0,.slice none 0 0⟩,⟨3,g3,3,.int .i64 at0,.int .i64 at0⟩,⟨4,g4,39,.int .i64 e0,.int .i64 e0⟩] [.own none 293 11 0 0 []] (by kernel_rfl) (by kernel_rfl) rfl mS ?_)|(refine mi [] [⟨3,g3,3,.int .i64 at0,.int .i64 at0⟩,⟨4,g4,39,.int .i64 e0,.int .i64 e0⟩] ⟨2,g2,128,.slice none 0 0,.slice none 0 0⟩ rfl rfl rfl rfl rfl rfl ?_)|(refine mi [⟨2,g2,128,.slice none 0 0,.slice none 0 0⟩] [⟨4,g4,39,.int .i64 e0,.int .i64 e0⟩] ⟨3,g3,3,.int .i64 at0,.int .i64 at0⟩ rfl rfl rfl rfl rfl rfl ?_)|(refine mi [⟨2,g2,128,.slice none 0 0,.slice none 0 0⟩,⟨3,g3,3,.int .i64 at0,.int .i64 at0⟩] [] ⟨4,g4,39,.int .i64 e0,.int .i64 e0⟩ rfl rfl rfl rfl rfl rfl ?_)|(refine Di ⟨3,g3,3,.int .i64 at0,.int .i64 at0⟩ (.tail _ (.head _)) (f:=60) (j:=3) rfl (by decide+kernel) rfl rfl rfl ?_)|(refine Di ⟨4,g4,39,.int .i64 e0,.int .i64 e0⟩ (.tail _ (.tail _ (.head _))) (f:=60) (j:=4) rfl (by decide+kernel) rfl rfl rfl ?_)|apply wN|(apply ak;exact rfl;apply kG;exact rfl)|(apply ak;exact rfl;apply rR;exact rfl)|(apply Eg (f:=176);exact rfl;exact rfl;infer_instance;exact rfl;rename_i gp;exact FnP.own (A:=A) pK (fun hcap=>FnP.msub (hP A cap _ _ hcap) (MSub.pick pK (MSub.pick pK (MSub.pick pK (MSub.refl _))))))|(rintro _ _ ⟨rfl,n,p',lv',B',cb',rfl,h2,rfl⟩;obtain ⟨u,hu⟩: ∃ u,hdT (a.size:Int) p'.l=u:=⟨_,rfl⟩)|(rintro _ _ ⟨e,rfl,rfl,h3⟩)|(apply aa (f:=177);exact rfl;exact rfl;(intro w' hm';exact At.head' (B:=B') (cb:=cb') (out:=p'.out) (fin:=(a.size:Int)) h2 hu (MSub.pick pK (MSub.pick pK (MSub.pick pK (MSub.nil _)))) w' hm'))|(apply aa (f:=179);exact rfl;exact rfl;(intro w' hm';exact Jd p'.out _ w' (Reads.of_own (A:=B') hm' pK)))|(refine bB (f:=178) rfl rfl (iC _ _ _ _ _ (fun _ _=>False)) ?_ ?_)|(exact fun _ _ h=>h.elim)|(rintro _ _ ⟨rfl,rfl⟩)|refine sT ?_|refine sP ?_|refine sG ?_|refine sM fun _=> ?_|(refine sC ?_ ?_<;>intro hb<;>try omega)|fail)
 ·
  have hr' :r=([],at0,e0):=by rw [hr];simp [cY,hb]
  subst hr'
  simp only [NM,OD,BoxT.post,Nf,Ng]
  exact oK (.inl rfl) rfl rfl pK rfl pK rfl pK (H' := [.own none 293 11 0 0 []]) mS ⟨none,0,rfl,rfl⟩
 ·
  rename_i he0 gp _ u0 hu0 g1
  have hr' :r=([],u0.at_,4):=by rw [hr];simp [cY,hff,hr1,hu0,hb,Classical.not_not.1 he0]
  subst hr'
  refine ⟨_,.box g2 128 [.slice none 0 0]:: .box g3 3 [.int .i64 at0]:: .box g4 39 [.int .i64 e0]:: [.own none 293 11 0 0 []],_,rfl,?_,DG g2 g3 g4 _ _ _ (u0.at_,4) w _,oK (.inl rfl) rfl rfl pK rfl pK rfl pK (H' := [.own none 293 11 0 0 []]) mS ⟨none,0,rfl,rfl⟩⟩
  simp only [Nr,Nf,Ng,pB]
  exact mS
 ·
  rename_i he0 gp _ g1 hb1
  have hr' :r=([],0,jX p'.out):=by rw [hr];simp [cY,hff,hr1,hu,Classical.not_not.1 hb1,hb,Classical.not_not.1 he0]
  subst hr'
  exact ⟨.returning,_,_,rfl,.refl _,DF _ _ _ _ _,oK (.inl rfl) rfl rfl pK rfl pK rfl pK (H' := [.own none 293 11 0 0 []]) mS ⟨none,0,rfl,rfl⟩⟩
 ·
  rename_i he0 gp _ g1 hb1
  have hr' :r=(p'.out,0,0):=by rw [hr];simp [cY,hff,hr1,hu,Classical.not_not.1 hb1,Classical.not_not.1 hb,Classical.not_not.1 he0]
  subst hr'
  exact ⟨.returning,_,_,rfl,.refl _,DF _ _ _ _ _,oK (.inl rfl) rfl rfl pK rfl pK rfl pK (H' := [.own B' 293 11 p'.out.length cb' (p'.out.flatMap cv)]) mS ⟨B',cb',rfl,rfl⟩⟩
 ·
  have hr' :r=([],e.1,e.2):=by rw [hr];simp [cY,hff,hr1,Classical.not_not.1 hb]
  subst hr'
  refine ⟨_,.box g2 128 [.slice none 0 0]:: .box g3 3 [.int .i64 at0]:: .box g4 39 [.int .i64 e0]:: [.own none 293 11 0 0 []],_,rfl,MSub.trans ?_ h3,DG g2 g3 g4 _ _ _ e w _,oK (.inl rfl) rfl rfl pK rfl pK rfl pK (H' := [.own none 293 11 0 0 []]) mS ⟨none,0,rfl,rfl⟩⟩
  exact mS
end Go.SL
namespace Go.SL
open Go
theorem d9 (c:Int):aH c=true↔48≤c∧c≤57:=by simp [aH]
theorem gD (c:Int):bO c=true↔(65≤c∧c≤90)∨(97≤c∧c≤122):=by simp [bO]
theorem J9 (c:Int):bO c=false↔ ¬ ((65≤c∧c≤90)∨(97≤c∧c≤122)):=by rw [← gD];simp
theorem zK (c:Int):bO (upC c)=bO c:=by
 rw [NL,gD,gD,upC]
 by_cases h:97≤c∧c≤122
 ·
  rw [if_pos h];omega
 ·
  rw [if_neg h]
theorem ID (c:Int):aH (upC c)=aH c:=by
 rw [NL,d9,d9,upC]
 by_cases h:97≤c∧c≤122
 ·
  rw [if_pos h];omega
 ·
  rw [if_neg h]
theorem JJ (c:Int):upC (upC c)=upC c:=by
 simp only [upC]
 split
 ·
  rw [if_neg (by omega)]
 ·
  rfl
theorem JK {c:Int} (h:aH c=true):upC c=c:=by
 simp only [aH,Nm,decide_eq_true_eq] at h
 rw [upC,if_neg (by omega)]
theorem oE: ∀ l:List Int,(l.map upC).takeWhile bO=(l.takeWhile bO).map upC
 | []=>rfl
 |c::r=>by
  simp only [NM,PU,zK]
  split
  ·
   rw [oE r];rfl
  ·
   rfl
theorem o9: ∀ l:List Int,(l.map upC).dropWhile bO=(l.dropWhile bO).map upC
 | []=>rfl
 |c::r=>by
  simp only [NM,List.dropWhile_cons,zK]
  split
  ·
   rw [o9 r]
  ·
   rfl
theorem qD: ∀ (l:List Int) (v:Int),bq (l.map upC) v=bq l v
 | [],_=>rfl
 |c::r,v=>by simp only [NM,bq,JJ,qD r]
theorem I2: ∀ l:List Int,(l.map upC).all aH=l.all aH
 | []=>rfl
 |c::r=>by simp only [NM,Pm,ID,I2 r]
theorem tD: ∀ {l:List Int},l.all aH=true→l.map upC=l
 | [],_=>rfl
 |c::r,h=>by
  simp only [Pm,Nm] at h
  simp only [NM,JK h.1,tD h.2]
theorem Ke (l:List Int):((l.map upC).head? =some 48)↔(l.head? =some 48):=by
 cases l with
 |nil=>simp
 |cons c r=>
  simp only [NM,List.head?_cons,Option.some.injEq,upC]
  split<;>omega
theorem I5 (l:List Int):bY (l.map upC)=bY l:=by
 unfold bY
 simp only [oE,o9,List.map_eq_nil_iff,Ke,I2,qD]
 split
 ·
  rfl
 ·
  rename_i h
  have hd:(l.dropWhile bO).all aH=true:=by
   cases hh:(l.dropWhile bO).all aH with
   |true=>rfl
   |false=>exact absurd (.inr (.inr (.inr hh))) h
  rw [tD hd]
theorem pT {p:Int→Bool}: ∀ {l:List Int} {n:Nat},n≤aF p l→aF p (l.take n)=n
 | [],n,h=>by simp [aF] at h;subst h;rfl
 |c::r,0,_=>rfl
 |c::r,n+1,h=>by
  simp only [aF] at h
  split at h
  ·
   rename_i hc
   simp only [Oe,aF,hc,if_true]
   rw [pT (by omega)]
  ·
   omega
theorem oH {p:Int→Bool}: ∀ {l:List Int} {n:Nat},aF p l≤n→aF p (l.take n)=aF p l
 | [],n,_=>by simp
 |c::r,0,h=>by
  simp only [aF] at h
  split at h
  ·
   omega
  ·
   rename_i hc;simp [aF,hc]
 |c::r,n+1,h=>by
  simp only [aF] at h ⊢
  simp only [Oe,aF]
  split at h
  ·
   rename_i hc;simp only [hc,if_true];rw [oH (by omega)]
  ·
   rename_i hc;simp [hc]
theorem lQ {l:List Int} (h:bS l≠0): ∃ r,l=46::r∧bS l=aF aH r:=by
 cases l with
 |nil=>exact absurd rfl h
 |cons c r=>
  by_cases hc:c=46
  ·
   subst hc;exact ⟨r,rfl,rfl⟩
  ·
   exact absurd (kO hc) h
theorem Ak {l:List Int} {w p:Nat} (hw:aF aH l=w) (hp:bS (l.drop w)=p) (h0:w≠0) (h4:p≤4):
  fU (l.take (if p=0 then w else w+1+p))=if cC<bu (l.take w++(l.drop (w+1)).take p++List.replicate (4 - p) 48) 0 then (0,3) else (bu (l.take w++(l.drop (w+1)).take p++List.replicate (4 - p) 48) 0,0):=by
 have hwl:w≤l.length:=hw ▸ bR aH l
 obtain ⟨c,r,rfl⟩: ∃ c r,l=c::r:=by
  cases l with
  |nil=>simp [aF] at hw;omega
  |cons c r=>exact ⟨c,r,rfl⟩
 have hc:aH c=true:=jn (c::r) 0 c (by omega) rfl
 have hc45:c≠45:=by simp only [aH,Nm,decide_eq_true_eq] at hc;omega
 have hneg: ∀ n,0<n→decide (((c::r).take n).head? =some 45)=false:=by
  intro n hn
  cases n with
  |zero=>omega
  |succ n=>simp [hc45]
 by_cases hp0:p=0
 ·
  subst hp0
  rw [if_pos rfl]
  unfold fU
  have hrun:aF aH ((c::r).take w)=w:=pT (by omega)
  have hdrop:((c::r).take w).drop w= []:=by rw [List.drop_eq_nil_iff,Nu];omega
  have htt:((c::r).take w).take w=(c::r).take w:=by rw [PX,Nat.min_self]
  simp only [hneg w (by omega),Oo,if_false,hrun,hdrop,htt]
  simp [h0]
 ·
  rw [if_neg hp0]
  obtain ⟨q,hq,hq2⟩:=lQ (l:=(c::r).drop w) (by omega)
  have hpq:aF aH q=p:=by omega
  have hpl:p≤q.length:=hpq ▸ bR aH q
  have hlen:(c::r).length=w+1+q.length:=by
   have:=congrArg List.length hq
   rw [Nq] at this
   simp only [NB] at this ⊢
   omega
  have hd1:(c::r).drop (w+1)=q:=by
   rw [← Ow,hq];rfl
  have hrun:aF aH ((c::r).take (w+1+p))=w:=by rw [oH (by omega)];exact hw
  have hdrop:((c::r).take (w+1+p)).drop w=46::q.take p:=by
   rw [List.drop_take,hq,show w+1+p - w=p+1 by omega];rfl
  have htt:((c::r).take (w+1+p)).take w=(c::r).take w:=by rw [PX,O1 (by omega)]
  have hrp:aF aH (q.take p)=p:=pT (by omega)
  have hlp:(q.take p).length=p:=by rw [Nu];omega
  unfold fU
  simp only [hneg (w+1+p) (by omega),Oo,if_false,hrun,hdrop,htt,List.tail_cons,hrp,hd1]
  have hfrac:(decide (1<(46::q.take p).length) && (decide ((46::q.take p).head? =some 46) && decide (p+1=(46::q.take p).length)))=true:=by
   simp only [NB,hlp,List.head?_cons,decide_true,NI,NX]
   simp;omega
  simp only [hfrac,if_true]
  have h5:(q.take p++ [48,48,48,48,48]).getD 4 0=48:=by
   rw [Nx,Ol (by omega),hlp]
   rcases (by omega:p=1∨p=2∨p=3∨p=4) with rfl|rfl|rfl|rfl<;>rfl
  have h6:(q.take p++ [48,48,48,48,48]).take 4=q.take p++List.replicate (4 - p) 48:=by
   rw [List.take_append,hlp,NQ (by omega)]
   rcases (by omega:p=1∨p=2∨p=3∨p=4) with rfl|rfl|rfl|rfl<;>rfl
  rw [if_neg (by simp [h0])]
  simp only [h5,h6]
  rw [if_neg (show ¬ (53:Int)≤48 by decide),P9,NG]
theorem tr (l:List Int):fg l=(jG l).map fun x=>(⟨1,x.1,au,aO,0⟩,x.2):=by
 unfold fg jG
 dsimp only
 split
 ·
  rfl
 ·
  rename_i h
  have h0:aF aH l≠0:=fun e=>h (.inl e)
  have h4:bS (l.drop (aF aH l))≤4:=by
   rcases OO 4 (bS (l.drop (aF aH l))) with h4|h4
   ·
    exact absurd (.inr h4) h
   ·
    exact h4
  rw [Ak rfl rfl h0 h4]
  split
  ·
   rfl
  ·
   rfl
theorem yG (m:List Int):jQ (34::34::m)=(jQ m).map (34:: ·):=by
 rw [jQ.eq_def]
 simp
theorem yR: ∀ (n:Nat) (l:List Int),l.length≤n→jz l=(cA l).bind fun k=>(jQ (l.take k)).map fun t=>(t,k+1):=by
 intro n
 induction n with
 |zero=>intro l h;have:l= []:=NK (by omega);subst this;rfl
 |succ n ih=>
  intro l h
  cases l with
  |nil=>rfl
  |cons c r=>
   simp only [NB] at h
   by_cases hc:c=34
   ·
    subst hc
    cases r with
    |nil=>rfl
    |cons d r' =>
     simp only [NB] at h
     by_cases hd:d=34
     ·
      subst hd
      rw [jz.eq_def,cA.eq_def]
      simp only [ne_eq,not_true,if_false,if_true]
      rw [ih r' (by omega)]
      cases hk:cA r' with
      |none=>rfl
      |some k=>
       simp only [Oh,Option.bind_some]
       rw [Oe,Oe,yG]
       cases jQ (r'.take k)<;>rfl
     ·
      rw [jz.eq_def,cA.eq_def]
      simp [hd,jQ]
   ·
    rw [jz.eq_def,jM hc]
    simp only [ne_eq,hc,not_false_eq_true,if_true]
    rw [ih r (by omega)]
    cases hk:cA r with
    |none=>rfl
    |some k=>
     simp only [Oh,Option.bind_some]
     rw [Oe,pS hc]
     cases jQ (r.take k)<;>rfl
theorem FD: ∀ (n:Nat) (l:List Int) (k:Nat),l.length≤n→cA l=some k→l[k]? =some 34∧ ∃ t,jQ (l.take k)=some t∧t.length≤k:=by
 intro n
 induction n with
 |zero=>intro l k h hk;have:l= []:=NK (by omega);subst this;cases hk
 |succ n ih=>
  intro l k h hk
  cases l with
  |nil=>cases hk
  |cons c r=>
   simp only [NB] at h
   by_cases hc:c=34
   ·
    subst hc
    cases r with
    |nil=>cases hk;exact ⟨rfl,[],rfl,Ni _⟩
    |cons d r' =>
     simp only [NB] at h
     by_cases hd:d=34
     ·
      subst hd
      rw [cA.eq_def] at hk
      simp only [ne_eq,not_true,if_false,if_true] at hk
      cases hk' :cA r' with
      |none=>rw [hk'] at hk;cases hk
      |some j=>
       rw [hk'] at hk
       cases hk
       obtain ⟨h1,t,h2,h3⟩:=ih r' j (by omega) hk'
       refine ⟨h1,34::t,?_,by simp only [NB];omega⟩
       rw [Oe,Oe,yG,h2];rfl
     ·
      rw [cA.eq_def] at hk
      simp [hd] at hk
      subst hk
      exact ⟨rfl,[],rfl,Ni _⟩
   ·
    rw [jM hc] at hk
    cases hk' :cA r with
    |none=>rw [hk'] at hk;cases hk
    |some j=>
     rw [hk'] at hk
     cases hk
     obtain ⟨h1,t,h2,h3⟩:=ih r j (by omega) hk'
     refine ⟨h1,c::t,?_,by simp only [NB];omega⟩
     rw [Oe,pS hc,h2];rfl
theorem GH {r:List Int} (hp:(34::r).all (fun c=>bz c)=true) (hl:r.length≤256):lF (34::r)=(jz r).map fun x=>(⟨2,0,mkB x.1,aO,0⟩,x.2+1):=by
 unfold lF
 rw [yR r.length r (Ni _)]
 simp only [Oz,ne_eq,not_true,if_false,PA,OC]
 cases hk:cA r with
 |none=>rfl
 |some k=>
  obtain ⟨h1,t,h2,h3⟩:=FD r.length r k (Ni _) hk
  obtain ⟨hkl,h1⟩:=Nw.1 h1
  have e1:(34::r).take (k+2)=34::r.take (k+1):=rfl
  have e2:r.take (k+1)=r.take k++ [34]:=by rw [Nk hkl,h1]
  have hall:(34::r.take (k+1)).all (fun c=>bz c)=true:=by
   rw [← e1]
   rw [Ou] at hp ⊢
   exact fun x hx=>hp x (Ot hx)
  have e3:fH (34::r.take (k+1))=(t,0):=by
   unfold fH
   rw [hall]
   rw [if_neg (by rw [e2];simp [List.getLast?_cons])]
   have:((34::r.take (k+1)).drop 1).dropLast=r.take k:=by rw [PA,OC,e2,PQ]
   rw [this,h2]
   simp only
   rw [if_neg (by omega)]
  simp only [e1,e3,Option.bind_some,h2,Oh]
  simp
theorem GA (l:List Int):upW l=(l.take (aF cJ l)).map upC:=rfl
theorem MT (l:List Int):bY (upW l)=bY (l.take (aF cJ l)):=by rw [GA,I5]
def iN (l:List Int):Option (Tk × Nat):=match jL l with
 |some x=>some x
 |none=>gK l
theorem tV {l:List Int} (h:l.headD 0≠35): ∀ (ns:List (List Int)) (k:Int),(∀ s∈ns,s.head? =some 35)→ju l ns k=none
 | [],_,_=>rfl
 |s::r,k,hs=>by
  have h1:=hs s Nj
  rw [ju,if_neg,tV h r _ fun s hs' =>hs s (Nv _ hs')]
  intro e
  cases s with
  |nil=>cases h1
  |cons a s=>
   cases h1
   cases l with
   |nil=>cases e
   |cons c l=>
    simp only [NB,Oe,NM,List.cons.injEq] at e
    simp only [Oz] at h
    have:=e.1
    simp only [upC] at this
    split at this<;>omega
theorem kX {l:List Int} (h:l.headD 0≠35):jL l=none:=by
 unfold jL
 rw [tV h dz 1 (by decide)]
 rfl
def oT:List Int:= [60,62,43,45,42,47,94,38,61,37]
theorem tj {l:List Int} (h:l.headD 0∉oT): ∀ ns:List (List Int × Int),(∀ s∈ns,∃ c,s.1.head? =some c∧c∈oT)→opL l ns=none
 | [],_=>rfl
 |(s,k)::r,hs=>by
  obtain ⟨a,h1,h2⟩:=hs (s,k) Nj
  rw [opL,if_neg,tj h r fun s hs' =>hs s (Nv _ hs')]
  intro e
  cases s with
  |nil=>cases h1
  |cons b s=>
   cases h1
   cases l with
   |nil=>cases e
   |cons c l=>
    simp only [NB,Oe,List.cons.injEq] at e
    simp only [Oz] at h
    exact h (e.1 ▸ h2)
theorem nC {l:List Int} (h:l.headD 0∉oT) (h1:l.headD 0≠40) (h2:l.headD 0≠41) (h3:l.headD 0≠44):gK l=none:=by
 unfold gK
 rw [tj h eD (by decide)]
 simp only [h1,h2,h3,if_false]
theorem xx {l:List Int} (h:aH (l.headD 0)=false):fg l=none:=by
 unfold fg
 have:aF aH l=0:=by
  cases l with
  |nil=>rfl
  |cons c r=>simp only [Oz] at h;simp [aF,h]
 simp [this]
theorem sm {l:List Int} (h:l.headD 0≠34):lF l=none:=by
 unfold lF
 rw [if_pos h]
theorem nu {l:List Int} (h:bO (l.headD 0)=false):f9 l=none:=by
 unfold f9
 rw [if_pos h]
def bC (l:List Int):Option (Tk × Nat):=
 if aH (l.headD 0) then (jG l).map fun x=>(⟨1,x.1,au,aO,0⟩,x.2)
 else if l.headD 0=34 then (jz l.tail).map fun x=>(⟨2,0,mkB x.1,aO,0⟩,x.2+1)
 else if bO (l.headD 0) then f9 l
 else iN l
theorem qA (c:Int):c∈oT↔c=60∨c=62∨c=43∨c=45∨c=42∨c=47∨c=94∨c=38∨c=61∨c=37:=by simp [oT]
theorem EF {l:List Int} (hp:l.all (fun c=>bz c)=true) (hl:l.length≤256):dS l=bC l:=by
 have hF:dS l=match fg l with
  |some x=>some x
  |none=>match lF l with
   |some x=>some x
   |none=>match f9 l with
    |some x=>some x
    |none=>iN l:=by
  unfold dS lI kW iN
  cases fg l<;>simp only [kW]
  cases lF l<;>simp only
  cases f9 l<;>simp only
  cases jL l<;>simp only
  cases gK l<;>rfl
 rw [hF]
 unfold bC
 by_cases h1:aH (l.headD 0)=true
 ·
  have h1' :=(d9 _).1 h1
  rw [if_pos h1,← tr,sm (by omega),nu ((J9 _).2 (by omega)),iN,kX (by omega),nC (by rw [qA];omega) (by omega) (by omega) (by omega)]
  cases fg l<;>rfl
 ·
  rw [if_neg h1]
  have h1' :aH (l.headD 0)=false:=by simpa using h1
  rw [xx h1']
  by_cases h2:l.headD 0=34
  ·
   rw [if_pos h2]
   cases l with
   |nil=>cases h2
   |cons c r=>
    simp only [Oz] at h2
    subst h2
    rw [GH hp (by simp only [NB] at hl;omega),List.tail_cons,nu (by rw [Oz];decide),iN,kX (by rw [Oz];decide),nC (by rw [Oz];decide) (by rw [Oz];decide) (by rw [Oz];decide) (by rw [Oz];decide)]
    cases jz r<;>rfl
  ·
   rw [if_neg h2,sm h2]
   by_cases h3:bO (l.headD 0)=true
   ·
    have h3' :=(gD _).1 h3
    rw [if_pos h3,iN,kX (by omega),nC (by rw [qA];omega) (by omega) (by omega) (by omega)]
    cases f9 l<;>rfl
   ·
    rw [if_neg h3,nu (by simpa using h3)]
theorem BG {l:List Int} (hp:l.all (fun c=>bz c)=true) (hl:l.length≤256): ∀ f i,bn dS l f i=bn bC l f i:=by
 intro f
 induction f with
 |zero=>intro i;rfl
 |succ f ih=>
  intro i
  simp only [bn]
  have h1:(l.drop i).all (fun c=>bz c)=true:=by
   rw [Ou] at hp ⊢
   exact fun x hx=>hp x (Pe hx)
  rw [EF h1 (by rw [Nq];omega)]
  simp only [ih]
theorem BF (l:List Int):bM dS l=bM bC l:=by
 unfold bM
 split
 ·
  rfl
 ·
  rename_i hl
  cases h:l.findIdx? (fun c=> !bz c) with
  |some i=>rfl
  |none=>
   simp only
   rw [BG _ (by omega)]
   rw [OJ] at h
   rw [Ou]
   intro x hx
   have:=h x hx
   simpa using this
end Go.SL
namespace Go.SL
open Go Go.Proofs
attribute [local irreducible] W WL WQ WG WA WX WLI WR WT VOp RW thn blk bE scp ba bo bL aP FnIn FnP
theorem LR {a:ByteArray} {i:Nat} (h:i<a.size):eB (sub a i (i+1))=if bz (bat a i) then 0 else 4:=by
 have h1:ap (sub a i (i+1))= [bat a i]:=by
  rw [dO,bk h,Nat.add_sub_cancel_left]
  rfl
 have h2:(sub a i (i+1)).size=1:=by rw [bV a (by omega)];omega
 simp only [eB,h2,lN,h1]
 cases h:bz (bat a i)<;>simp [h]
structure Mn where
 formula:Bool
 v:Vl
 tree:List Nd
def eqB:ByteArray:=⟨#[61]⟩
def pI:Mn:=⟨false,bK,[]⟩
def ofP (b:ByteArray):Mn × Int × Int:=
 if 256<b.size then (pI,0,5)
 else match (ap b).findIdx? (fun c=> !bz c) with
  |some i=>(pI,(i:Int),4)
  |none=>
   if (ph b eqB).2=false then (⟨false,qa b,[]⟩,0,0)
   else match cY (bM dS (ap (ph b eqB).1)) ((ph b eqB).1.size:Int) with
    |(t,at_,e)=>if e≠0 then (pI,IntKind.i64.wrap (at_+1),e) else (⟨true,bK,t⟩,0,0)
def xN (m:Mn) (tv:Value):List Value:= [.bool m.formula,.int .u8 m.v.kind,.int .i64 m.v.num,.string m.v.text,tv]
def ofV (A:Option Nat) (cap:Nat) (r:Mn × Int × Int):Value:= .tuple #[.agg (xN r.1 (sl A r.1.tree.length cap)).toArray,.int .i64 r.2.1,.int .i64 r.2.2]
set_option maxHeartbeats 2000000 in
theorem KU (b:ByteArray) (w:World) (hW:Words w):aP Tryz.prog 99 [.string b] w fun v H=> ∃ A cap,v=ofV A cap (ofP b)∧H= [.own A 293 11 (ofP b).1.tree.length cap ((ofP b).1.tree.flatMap cv)]:=by
 refine aq Tryz.func99 rfl Tryz.ntmps99 rfl ?_
 refine aD 293 11 ?_
 unfold ofP
 by_cases hlen:256<b.size
 ·
  rw [if_pos hlen]
  repeat' (first|refine sT ?_|refine sS ?_|refine sT2 ?_|refine sM fun _=> ?_|(refine sC ?_ ?_<;>intro hb<;>try omega)|fail)
  all_goals first
   |(exfalso;omega)
   |exact fB (.inl rfl) rfl rfl pK rfl rfl rfl (H' := [.own none 293 11 0 0 []]) mS ⟨none,0,rfl,rfl⟩
 rw [if_neg hlen]
 repeat' (first|refine sT ?_|refine sS ?_|refine sT2 ?_|refine sM fun _=> ?_|(refine sC ?_ ?_<;>intro hb<;>try omega)|fail)
 all_goals try (exfalso;omega)
 rename_i g2
 refine ax [0,2,14] rfl (fun i:Nat=> [(15,.int .i64 (i:Int))]) (fun _=> [.box g2 130 [.bool false,.int .u8 0,.int .i64 0,.string au,.slice none 0 0],.own none 293 11 0 0 []]) (fun i=>i≤b.size∧ ∀ j,j<i→bz (bat b j)=true) (fun i=>b.size - i) 0 ⟨by omega,fun j h=>by omega⟩ sB mS ?_
 rintro i ⟨hi,hpl⟩
 by_cases hlt:i<b.size
 ·
  have hg:=LR hlt
  have hG:=fun w=>tP (sub b i (i+1)) w
  rw [hg] at hG
  by_cases hc:bz (bat b i)=true
  ·
   rw [if_pos hc] at hG
   repeat' (first|(apply ak;exact rfl;apply fu;(iterate 3 exact rfl);exact ⟨by omega,by omega⟩)|(apply aa;exact rfl;exact rfl;(intro w hm;exact hG w))|refine sT ?_|refine sS ?_|refine sT2 ?_|refine sN ?_|refine sM fun _=> ?_|(refine sC ?_ ?_<;>intro hb<;>try omega)|fail)
   all_goals try (exfalso;omega)
   refine ⟨i+1,?_,(by first|omega|(dsimp only;omega)),sB,sB,mS⟩
   refine ⟨hlt,fun j hj=> ?_⟩
   rcases (by omega:j<i∨j=i) with h|rfl
   ·
    exact hpl j h
   ·
    exact hc
  ·
   rw [if_neg hc] at hG
   repeat' (first|(apply ak;exact rfl;apply fu;(iterate 3 exact rfl);exact ⟨by omega,by omega⟩)|(apply aa;exact rfl;exact rfl;(intro w hm;exact hG w))|refine sT ?_|refine sS ?_|refine sT2 ?_|refine sN ?_|refine sM fun _=> ?_|(refine sC ?_ ?_<;>intro hb<;>try omega)|fail)
   all_goals try (exfalso;omega)
   have hf:(ap b).findIdx? (fun c=> !bz c)=some i:=l6 hlt (by simp [hc]) fun j hj=>by rw [hpl j hj];rfl
   rw [hf]
   exact fB (.inl rfl) rfl rfl pK rfl rfl rfl (H' := [.own none 293 11 0 0 []]) mS ⟨none,0,rfl,rfl⟩
 ·
  have e:i=b.size:=by omega
  subst e
  have hf:(ap b).findIdx? (fun c=> !bz c)=none:=kR fun j hj=>by rw [hpl j hj];rfl
  rw [hf]
  dsimp only
  have hcut:=fun w=>IG b eqB (by omega) w
  obtain ⟨⟨rest,is⟩,hx⟩: ∃ x,ph b eqB=x:=⟨_,rfl⟩
  rw [hx] at hcut ⊢
  cases is with
  |false=>
   rw [if_pos rfl]
   repeat' (first|(apply aa;exact rfl;exact rfl;(intro w hm;exact hcut w))|(apply aa (f:=138);exact rfl;exact rfl;(intro w' hm';exact Av b (by omega) w' (hW.next hm')))|refine sT ?_|refine sS ?_|refine sT2 ?_|refine sN ?_|refine sM fun _=> ?_|(refine sC ?_ ?_<;>intro hb<;>try omega)|fail)
   all_goals try (exfalso;omega)
   exact fB (.inl rfl) rfl rfl pK rfl rfl rfl (H' := [.own none 293 11 0 0 []]) mS ⟨none,0,rfl,rfl⟩
  |true=>
   rw [if_neg (by simp)]
   dsimp only
   have hF:=fun (w' :World) (h:Words w')=>C9 rest w' h _ rfl
   obtain ⟨⟨t,at0,e0⟩,hr⟩: ∃ x,cY (bM dS (ap rest)) (rest.size:Int)=x:=⟨_,rfl⟩
   simp only [hr,Dw] at hF
   rw [hr]
   dsimp only
   by_cases he:e0≠0
   ·
    rw [if_pos he]
    repeat' (first|(apply aa;exact rfl;exact rfl;(intro w hm;exact hcut w))|(apply aC (f:=139);exact rfl;exact rfl;(intro w' hm';exact hF w' (hW.next hm'));rintro _ _ ⟨A,cap,rfl,rfl⟩)|(apply ak;exact rfl;apply rX;exact rfl;exact rfl)|refine sT ?_|refine sS ?_|refine sT2 ?_|refine sN ?_|refine sM fun _=> ?_|(refine sC ?_ ?_<;>intro hb<;>try omega)|fail)
    all_goals try (exfalso;omega)
    exact fB (.inl rfl) rfl rfl pK rfl rfl rfl (H' := [.own none 293 11 0 0 []]) mS ⟨none,0,rfl,rfl⟩
   ·
    rw [if_neg he]
    repeat' (first|(apply aa;exact rfl;exact rfl;(intro w hm;exact hcut w))|(apply aC (f:=139);exact rfl;exact rfl;(intro w' hm';exact hF w' (hW.next hm'));rintro _ _ ⟨A,cap,rfl,rfl⟩)|(apply ak;exact rfl;apply rX;exact rfl;exact rfl)|refine sT ?_|refine sS ?_|refine sT2 ?_|refine sN ?_|refine sM fun _=> ?_|(refine sC ?_ ?_<;>intro hb<;>try omega)|fail)
    all_goals try (exfalso;omega)
    exact fB (.inl rfl) rfl rfl pK rfl rfl rfl (H' := [.own A 293 11 t.length cap (t.flatMap cv)]) mS ⟨A,cap,rfl,rfl⟩
end Go.SL
