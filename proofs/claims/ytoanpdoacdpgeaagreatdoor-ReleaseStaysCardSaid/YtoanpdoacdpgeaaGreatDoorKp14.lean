/-
  Lemmas and walks, put together: B5 C7 Lq D2 Oq Gp G1 Ex Lr R1 R4.
-/
import Derived.Test.YtoanpdoacdpgeaaGreatDoorKp13
set_option linter.unusedSimpArgs false
set_option linter.unusedVariables false
set_option maxRecDepth 20000
namespace Go.SL
open Go Go.Proofs
attribute [local irreducible] W WL WQ WG WA WX WLI WR WT VOp thn blk bF scp aR bJ aL FnIn
def mB:List (List Int→Option (Tk × Nat)):= [fp,mq,gA,j0,gS]
def lS (l:List Int):List (List Int→Option (Tk × Nat))→Option (Tk × Nat)
 | []=>none
 |r::rs=>match r l with
  |some x=>some x
  |none=>lS l rs
def cZ (l:List Int):Option (Tk × Nat):=lS l mB
def bh (tk:List Int→Option (Tk × Nat)) (l:List Int):Nat→Nat→Except Nat (List Tk)
 |0,_=> .ok []
 |f+1,i=>
  match l.drop i with
  | []=> .ok []
  |c::_=>
   if c=32 then bh tk l f (i+1)
   else match tk (l.drop i) with
    |none=> .error i
    |some (t,n)=>(bh tk l f (i+n)).map fun r=>{ t with at_:=(i:Int) }::r
def Fits (l:List Int) (o:Option (Tk × Nat)):Prop:= ∀ t n,o=some (t,n)→0<n∧n≤l.length
theorem Fits.none {l:List Int}:Fits l none:=fun _ _ h=>by cases h
theorem Fits.some {l:List Int} {t:Tk} {n:Nat} (h1:0<n) (h2:n≤l.length):Fits l (some (t,n)):=fun _ _ h=>by cases h;exact ⟨h1,h2⟩
theorem lc {l:List Int} {c:Int} (h:l.headD 0=c) (hc:c≠0):0<l.length:=by
 cases l with
 |nil=>exact absurd h.symm hc
 |cons=>simp
theorem DT (l:List Int):bV l=0∨bV l+1≤l.length:=by
 unfold bV
 split
 ·
  right
  rename_i r
  have:=bU aF r
  simp;omega
 ·
  left;rfl
theorem rF (l:List Int):Fits l (fp l):=by
 unfold fp
 dsimp only
 have h1:=bU aF l
 have h2:=DT (l.drop (aD aF l))
 rw [Qz] at h2
 have h3:(if bV (l.drop (aD aF l))=0 then aD aF l else aD aF l+1+bV (l.drop (aD aF l)))≤l.length∧aD aF l≤(if bV (l.drop (aD aF l))=0 then aD aF l else aD aF l+1+bV (l.drop (aD aF l))):=by
  split<;>omega
 generalize (if bV (l.drop (aD aF l))=0 then aD aF l else aD aF l+1+bV (l.drop (aD aF l)))=m at h3 ⊢
 split
 ·
  exact .none
 ·
  rename_i h
  split
  ·
   exact .none
  ·
   exact .some (by omega) (by omega)
theorem nV: ∀ (n:Nat) (l:List Int) (k:Nat),l.length≤n→cC l=some k→k<l.length
 |_,[],_,_,h=>by simp [cC] at h
 |0,c::r,_,hn,_=>by simp at hn
 |n+1,c::r,k,hn,h=>by
  by_cases hc:c=34
  ·
   subst hc
   cases r with
   |nil=>simp [cC] at h;subst h;simp
   |cons d r' =>
    by_cases hd:d=34
    ·
     subst hd
     simp only [cC,ne_eq,not_true_eq_false,if_false,if_true,Rg] at h
     obtain ⟨j,hj,rfl⟩:=h
     have:=nV n r' j (by simp at hn;omega) hj
     simp;omega
    ·
     simp [cC,hd] at h
     subst h;simp
  ·
   rw [j6 hc,Rg] at h
   obtain ⟨j,hj,rfl⟩:=h
   have:=nV n r j (by simp at hn;omega) hj
   simp;omega
theorem GD (l:List Int):Fits l (mq l):=by
 unfold mq
 split
 ·
  exact .none
 ·
  rename_i h
  have h0:=lc (c:=34) (Decidable.not_not.1 h) (by decide)
  split
  ·
   exact .none
  ·
   rename_i k hk
   have:=nV _ _ k (Qq _) hk
   rw [Qz] at this
   split
   ·
    exact .none
   ·
    exact .some (by omega) (by omega)
theorem wN (l:List Int):Fits l (gA l):=by
 have h1:=bU cJ l
 have h2:=bU cJ (l.drop (aD cJ l+1))
 rw [Qz] at h2
 have hpos:bS (l.headD 0)≠false→0<aD cJ l:=fun h=>by
  cases l with
  |nil=>exact absurd rfl h
  |cons c r=>
   have:bS c=true:=by simpa using h
   simp [aD,cJ,this]
 unfold gA
 split
 ·
  exact .none
 ·
  rename_i h
  have hp:=hpos h
  split
  ·
   exact .some hp h1
  ·
   split
   ·
    exact .some hp h1
   ·
    split
    ·
     exact .some hp h1
    ·
     split
     ·
      exact .none
     ·
      split
      ·
       rename_i hq
       have:=lc hq.1 (by decide)
       rw [Qz] at this
       exact .some (by omega) (by omega)
      ·
       exact .some hp h1
theorem vw (l:List Int): ∀ (ns:List (List Int)) (c k:Int) (n:Nat),(∀ s∈ns,s≠ [])→jK l ns c=some (k,n)→0<n∧n≤l.length
 | [],_,_,_,_,h=>by cases h
 |s::r,c,k,n,hs,h=>by
  rw [jK] at h
  split at h
  ·
   rename_i he
   cases h
   have:=congrArg List.length he
   rw [Rc,QD] at this
   have:=RQ.2 (hs s Qp)
   omega
  ·
   exact vw l r _ k n (fun s hs' =>hs s (Qw _ hs')) h
theorem xP (l:List Int):Fits l (j0 l):=by
 intro t n h
 unfold j0 at h
 rw [Rg] at h
 obtain ⟨⟨c,m⟩,h1,h2⟩:=h
 cases h2
 exact vw l dD 1 c _ (by decide) h1
theorem Bu (l:List Int): ∀ (ns:List (List Int × Int)) (k:Int) (n:Nat),(∀ s∈ns,s.1≠ [])→opL l ns=some (k,n)→0<n∧n≤l.length
 | [],_,_,_,h=>by cases h
 |(s,c)::r,k,n,hs,h=>by
  rw [opL] at h
  split at h
  ·
   rename_i he
   cases h
   have:=congrArg List.length he
   rw [QD] at this
   have:=RQ.2 (hs _ Qp)
   dsimp only at this
   omega
  ·
   exact Bu l r k n (fun s hs' =>hs s (Qw _ hs')) h
theorem xc (l:List Int):Fits l (gS l):=by
 unfold gS
 split
 ·
  rename_i k n h
  have:=Bu l eF k n (by decide) h
  exact .some this.1 this.2
 ·
  split
  ·
   exact .some (by omega) (lc (by assumption) (by decide))
  ·
   split
   ·
    exact .some (by omega) (lc (by assumption) (by decide))
   ·
    split
    ·
     exact .some (by omega) (lc (by assumption) (by decide))
    ·
     exact .none
theorem vq (l:List Int): ∀ rs:List (List Int→Option (Tk × Nat)),(∀ r∈rs,Fits l (r l))→Fits l (lS l rs)
 | [],_=> .none
 |r::rs,h=>by
  unfold lS
  split
  ·
   rename_i x hx
   exact hx ▸ h r Qp
  ·
   exact vq l rs fun r hr=>h r (Qw _ hr)
theorem GL (l:List Int): ∀ r∈mB,Fits l (r l):=by
 intro r hr
 simp only [mB,Qx,Sz,or_false] at hr
 rcases hr with rfl|rfl|rfl|rfl|rfl
 ·
  exact rF l
 ·
  exact GD l
 ·
  exact wN l
 ·
  exact xP l
 ·
  exact xc l
theorem uk (l:List Int):Fits l (cZ l):=vq l _ (GL l)
theorem pM {tk:List Int→Option (Tk × Nat)} {l:List Int} (ht: ∀ m,Fits m (tk m)): ∀ (b d f i:Nat),d≤b→l.length - i=d→d≤f→bh tk l f i=bh tk l d i:=by
 intro b
 induction b with
 |zero=>
  intro d f i hb hd hf
  have:d=0:=by omega
  subst this
  cases f with
  |zero=>rfl
  |succ f=>
   simp only [bh]
   rw [QK (by omega)]
 |succ b ih=>
  intro d f i hb hd hf
  cases d with
  |zero=>
   cases f with
   |zero=>rfl
   |succ f=>
    simp only [bh]
    rw [QK (by omega)]
  |succ m=>
   obtain ⟨g,rfl⟩: ∃ g,f=g+1:=⟨f - 1,by omega⟩
   simp only [bh]
   have hi:i<l.length:=by omega
   rw [Qs hi]
   dsimp only
   split
   ·
    exact ih m g (i+1) (by omega) (by omega) (by omega)
   ·
    split
    ·
     rfl
    ·
     rename_i t n hn
     have:=ht _ t n hn
     rw [ih (l.length - (i+n)) g (i+n) (by omega) rfl (by omega),ih (l.length - (i+n)) m (i+n) (by omega) rfl (by omega)]
def bE (tk:List Int→Option (Tk × Nat)) (l:List Int):List Tk × Int × Int:=
 if 256<l.length then ([],0,5)
 else match l.findIdx? (fun c=> !bB c) with
  |some i=>([],(i:Int),4)
  |none=>match bh tk l l.length 0 with
   | .ok r=>(r,0,0)
   | .error i=>([],(i:Int),4)
def Fm (A:Option Nat) (cap:Nat) (r:List Tk × Int × Int):Value:= .tuple #[sl A r.1.length cap,.int .i64 r.2.1,.int .i64 r.2.2]
def DA:List Nat:= [221,222,223,224,225]
theorem Mu (a:ByteArray) (ha:a.size≤10000) (i:Nat) (hi:i<a.size) (g:Nat) (k:Nat) (hk:k<5):
  ∃ f r,mB.drop k=r::mB.drop (k+1)∧(DA.map fun f=>Value.func (.func f) #[.pointer (some ⟨g,0,none⟩)] #[])[k]? =some (.func (.func f) #[.pointer (some ⟨g,0,none⟩)] #[])∧Callable Tryz.prog f∧
   ∀ w,Ro w g 0 [.string a]→Words w→ay Tryz.prog f [.pointer (some ⟨g,0,none⟩),.int .i64 (i:Int)] w (Dp (atT i (r ((ap a).drop i)))):=by
 rcases (by omega:k=0∨k=1∨k=2∨k=3∨k=4) with rfl|rfl|rfl|rfl|rfl
 ·
  exact ⟨_,_,rfl,rfl,inferInstance,fun w hr _=>Hs a (by omega) i (by omega) g w hr⟩
 ·
  exact ⟨_,_,rfl,rfl,inferInstance,fun w hr _=>Mm a (by omega) i hi g w hr⟩
 ·
  exact ⟨_,_,rfl,rfl,inferInstance,fun w hr _=>LJ a ha i hi g w hr⟩
 ·
  exact ⟨_,_,rfl,rfl,inferInstance,fun w hr hW=>MX a (by omega) i (by omega) g w hr hW⟩
 ·
  exact ⟨_,_,rfl,rfl,inferInstance,fun w hr _=>Mq a (by omega) i hi g w hr⟩
theorem m9 {a:ByteArray} {q:Int→Bool} {i:Nat} (h:i<a.size) (hq:q (bat a i)=true) (hno: ∀ j,j<i→q (bat a j)=false):(ap a).findIdx? q=some i:=by
 rw [Si]
 have hl:=au a
 have hg: ∀ j (hj:j<(ap a).length),(ap a)[j]=bat a j:=fun j hj=>by
  have:=fu (a:=a) (i:=j) (by omega)
  rw [Ql hj] at this
  exact Option.some.inj this
 refine ⟨by omega,by rw [hg];exact hq,fun j hj=> ?_⟩
 rw [hg,hno j hj];simp
theorem lK {a:ByteArray} {q:Int→Bool} (hno: ∀ j,j<a.size→q (bat a j)=false):(ap a).findIdx? q=none:=by
 rw [R0]
 intro x hx
 obtain ⟨j,hj,rfl⟩:=Sd hx
 have hl:=au a
 have:=fu (a:=a) (i:=j) (by omega)
 rw [Ql hj] at this
 rw [Option.some.inj this]
 exact hno j (by omega)
set_option maxHeartbeats 2000000 in
theorem IC (a:ByteArray) (w:World) (hW:Words w):
  aL Tryz.prog 174 [.string a] w fun v H=> ∃ A cap,v=Fm A cap (bE cZ (ap a))∧H= [.own A 228 8 (bE cZ (ap a)).1.length cap ((bE cZ (ap a)).1.flatMap ba)]:=by
 refine aq Tryz.func174 rfl Tryz.ntmps174 rfl ?_
 have hl:=au a
 unfold bE
 refine aC 228 8 ?_
 by_cases hlen:256<(ap a).length
 ·
  rw [if_pos hlen]
  repeat' (first|refine sT ?_|refine sS ?_|refine sT2 ?_|refine sM fun _=> ?_|(refine sC ?_ ?_<;>intro hb<;>try omega)|fail)
  all_goals try (exfalso;omega)
  exact nY (.inl rfl) rfl rfl rfl rfl (.refl _) ⟨none,0,rfl,rfl⟩
 ·
  rw [if_neg hlen]
  repeat' (first|refine sT ?_|refine sS ?_|refine sT2 ?_|refine sM fun _=> ?_|(refine sC ?_ ?_<;>intro hb<;>try omega)|fail)
  all_goals try (exfalso;omega)
  refine ax [0,2,17] rfl (fun i:Nat=> [(18,.int .i64 (i:Int))]) (fun _=> [.own none 228 8 0 0 []]) (fun i=>i≤a.size∧ ∀ j,j<i→bB (bat a j)=true) (fun i=>a.size - i) 0 ⟨by omega,fun j h=>by omega⟩ sB mS ?_
  rintro i ⟨hi,hpl⟩
  by_cases hlt:i<a.size
  ·
   repeat' (first|refine sT ?_|refine sS ?_|refine sT2 ?_|refine sN ?_|refine sM fun _=> ?_|(refine sC ?_ ?_<;>intro hb<;>try omega)|fail)
   ·
    have hf:(ap a).findIdx? (fun c=> !bB c)=some i:=by
     refine m9 hlt ?_ fun j hj=>by rw [hpl j hj];rfl
     simp only [bB,Bool.not_eq_true',RF,decide_eq_false_iff_not]
     omega
    rw [hf]
    exact nY (.inl rfl) rfl rfl rfl rfl (.refl _) ⟨none,0,rfl,rfl⟩
   ·
    have hf:(ap a).findIdx? (fun c=> !bB c)=some i:=by
     refine m9 hlt ?_ fun j hj=>by rw [hpl j hj];rfl
     simp only [bB,Bool.not_eq_true',RF,decide_eq_false_iff_not]
     omega
    rw [hf]
    exact nY (.inl rfl) rfl rfl rfl rfl (.refl _) ⟨none,0,rfl,rfl⟩
   ·
    refine ⟨i+1,?_,(by first|omega|(dsimp only;omega)),sB,sB,mS⟩
    refine ⟨hlt,fun j hj=> ?_⟩
    rcases (by omega:j<i∨j=i) with h|rfl
    ·
     exact hpl j h
    ·
     rename_i h1
     simp only [bB,Qu,decide_eq_true_eq]
     omega
  ·
   have e:i=a.size:=by omega
   subst e
   have hf:(ap a).findIdx? (fun c=> !bB c)=none:=lK fun j hj=>by rw [hpl j hj];rfl
   rw [hf]
   dsimp only
   repeat' (first|(apply ak;exact rfl;apply lw;exact rfl)|(apply CV;(iterate 6 exact rfl))|refine sT ?_|refine sS ?_|refine sT2 ?_|refine sN ?_|refine sM fun _=> ?_|(refine sC ?_ ?_<;>intro hb<;>try omega)|fail)
   all_goals try (exfalso;omega)
   rename_i g6 g7
   generalize hT:bh cZ (ap a) (ap a).length 0=T
   refine ax [0,6,7] rfl (fun x:Nat × List Tk × Option Nat × Nat=> [(2,sl x.2.2.1 x.2.1.length x.2.2.2),(8,.int .i64 (x.1:Int))]) (fun x=> [.own x.2.2.1 228 8 x.2.1.length x.2.2.2 (x.2.1.flatMap ba),.box g7 274 (DA.map fun f=>Value.func (.func f) #[.pointer (some ⟨g6,0,none⟩)] #[]),.box g6 272 [.string a]])
    (fun x=>x.1≤a.size∧x.2.1.length≤x.1∧T=(bh cZ (ap a) (a.size - x.1) x.1).map (x.2.1++ ·)) (fun x=>a.size - x.1) (0,[],none,0) ⟨by omega,by simp,by rw [← hT,hl];cases bh cZ (ap a) a.size 0<;>rfl⟩ sB mS ?_
   rintro ⟨i,toks,A,cap⟩ ⟨hi2,hi3,hi4⟩
   dsimp only at hi2 hi3 hi4 ⊢
   by_cases hlt2:i<a.size
   ·
    obtain ⟨f,hf1⟩: ∃ f,a.size - i=f+1:=⟨a.size - i - 1,by omega⟩
    rw [hf1] at hi4
    simp only [bh] at hi4
    have hdr:=bg hlt2
    generalize hld:(ap a).drop i=ld at hi4 hdr
    rw [hdr] at hi4
    dsimp only at hi4
    by_cases h32:bat a i=32
    ·
     rw [if_pos h32] at hi4
     repeat' (first|refine sT ?_|refine sS ?_|refine sT2 ?_|refine sN ?_|refine sM fun _=> ?_|(refine sC ?_ ?_<;>intro hb<;>try omega)|fail)
     all_goals try (exfalso;omega)
     refine ⟨(i+1,toks,A,cap),?_,(by first|omega|(dsimp only;omega)),sB,sB,mS⟩
     exact ⟨hlt2,by dsimp only;omega,by dsimp only;rw [show a.size - (i+1)=f by omega];exact hi4⟩
    ·
     rw [if_neg h32,← hdr] at hi4
     repeat' (first|refine sT ?_|refine sS ?_|refine sT2 ?_|refine sN ?_|refine sM fun _=> ?_|(refine sC ?_ ?_<;>intro hb<;>try omega)|fail)
     all_goals try (exfalso;omega)
     have hldl:ld.length=a.size - i:=by rw [← hld,Qz,hl]
     refine ax [0,2,6,7,8,57] rfl (fun k:Nat=> [(58,.int .i64 (k:Int))]) (fun _=> [.own A 228 8 toks.length cap (toks.flatMap ba),.box g7 274 (DA.map fun f=>Value.func (.func f) #[.pointer (some ⟨g6,0,none⟩)] #[]),.box g6 272 [.string a]]) (fun k=>k≤5∧cZ ld=lS ld (mB.drop k)) (fun k=>5 - k) 0 ⟨by omega,rfl⟩ sB mS ?_
     rintro k ⟨hk,hkt⟩
     by_cases hk5:k<5
     ·
      obtain ⟨f2,r,r1,r2,r3,r4⟩:=Mu a (by omega) i hlt2 g6 k hk5
      rw [hld] at r4
      rw [r1,lS] at hkt
      cases ho:r ld with
      |none=>
       rw [ho] at hkt r4
       dsimp only at hkt
       repeat' (first|(apply ak;exact rfl;apply ma;exact rfl;exact rfl;exact hk5;exact r2)|(apply qF;exact rfl;exact rfl;exact r3;exact rfl;(intro w' hm;exact r4 w' (Ro.of_box hm pK) (hW.next hm)))|refine sT ?_|refine sS ?_|refine sT2 ?_|refine sN ?_|refine sM fun _=> ?_|(refine sC ?_ ?_<;>intro hb<;>try omega)|fail)
       all_goals try (exfalso;omega)
       refine ⟨k+1,?_,(by first|omega|(dsimp only;omega)),sB,sB,mS⟩
       exact ⟨hk5,hkt⟩
      |some x=>
       obtain ⟨t,m⟩:=x
       rw [ho] at hkt r4
       dsimp only at hkt
       have hfit:=uk ld t m hkt
       rw [hkt] at hi4
       dsimp only at hi4
       have hm0:0<m:=hfit.1
       repeat' (first|(apply ak;exact rfl;apply ma;exact rfl;exact rfl;exact hk5;exact r2)|(apply qF;exact rfl;exact rfl;exact r3;exact rfl;(intro w' hm;exact r4 w' (Ro.of_box hm pK) (hW.next hm)))|(apply aO;(iterate 3 exact rfl);exact pK;exact pK;exact rfl;(simp [ba,Value.oneCell']);omega;(simp only [maxLen];omega);intro g8 c8)|refine sT ?_|refine sS ?_|refine sT2 ?_|refine sN ?_|refine sM fun _=> ?_|(refine sC ?_ ?_<;>intro hb<;>try omega)|fail)
       all_goals try (exfalso;omega)
       refine ⟨(i+m,toks++ [{ t with at_:=(i:Int) }],some g8,c8),⟨by dsimp only;omega,by simp;omega,?_⟩,(by dsimp only;omega),?_,sB,?_⟩
       ·
        dsimp only
        rw [hi4,pM uk f (a.size - (i+m)) f (i+m) (by omega) (by omega) (by omega)]
        cases bh cZ (ap a) (a.size - (i+m)) (i+m)<;>simp [Except.map]
       ·
        simp only [Qk,Qo]
        exact sB
       ·
        simp only [Qk,Qo,QE,QA,QP,Qr]
        exact mS
     ·
      have e:k=5:=by omega
      subst e
      rw [show lS ld (mB.drop 5)=none from rfl] at hkt
      rw [hkt] at hi4
      dsimp only [Except.map] at hi4
      rw [hi4]
      refine aC 228 8 ?_
      repeat' (first|refine sT ?_|refine sS ?_|refine sT2 ?_|refine sN ?_|refine sM fun _=> ?_|(refine sC ?_ ?_<;>intro hb<;>try omega)|fail)
      all_goals try (exfalso;omega)
      exact nY (.inl rfl) rfl rfl rfl rfl (H' := [.own none 228 8 0 0 []]) mS ⟨none,0,rfl,rfl⟩
   ·
    have e:i=a.size:=by omega
    subst e
    rw [show a.size - a.size=0 by omega] at hi4
    simp only [bh,Except.map,Qr] at hi4
    rw [hi4]
    repeat' (first|refine sT ?_|refine sS ?_|refine sT2 ?_|refine sN ?_|refine sM fun _=> ?_|(refine sC ?_ ?_<;>intro hb<;>try omega)|fail)
    all_goals try (exfalso;omega)
    exact nY (.inl rfl) rfl rfl rfl rfl (H' := [.own A 228 8 toks.length cap (toks.flatMap ba)]) mS ⟨A,cap,rfl,rfl⟩
end Go.SL
namespace Go.SL
open Go Go.Proofs
attribute [local irreducible] W WL WQ WG WA WX WLI WR WT VOp RW thn blk bF scp aR bk bJ aL FnIn FnP
theorem Fz (p2 p3 p4:Value) (w0:World) (H:List Blk):FnD Tryz.prog 175 [p2,p3,p4] .returning w0 H H:=by
 refine PY Tryz.func175 rfl rfl Tryz.ntmps175 rfl rfl (.inl ⟨rfl,rfl⟩) ?_
 repeat' (first|(apply ak;exact rfl;apply L8;exact rfl)|refine sT ?_|refine sM fun _=> ?_|(refine sC ?_ ?_<;>intro hb<;>try omega)|fail)
 all_goals exact ⟨by first|exact .inl rfl|exact .inr rfl,.refl _⟩
theorem FA (g2 g3 g4:Nat) (x2 x3 x4:Value) (e:Int × Int) (w0:World) (R:List Blk):
  FnD Tryz.prog 175 [.pointer (some ⟨g2,0,none⟩),.pointer (some ⟨g3,0,none⟩),.pointer (some ⟨g4,0,none⟩)] (.panicking (iY (zj e))) w0
   (.box g2 128 [x2]:: .box g3 3 [x3]:: .box g4 39 [x4]::R)
   (.box g2 128 [.slice none 0 0]:: .box g3 3 [.int .i64 e.1]:: .box g4 39 [.int .i64 e.2]::R):=by
 refine PY Tryz.func175 rfl rfl Tryz.ntmps175 rfl rfl (.inr rfl) ?_
 repeat' (first|(apply ak;exact rfl;apply L7;exact rfl)|(apply ak;exact rfl;apply yE;exact rfl;exact rfl)|(rename_i g;refine tN (id:=7) [⟨4,g2,128,x2,.slice none 0 0⟩,⟨5,g3,3,x3,.int .i64 e.1⟩,⟨6,g4,39,x4,.int .i64 e.2⟩] (.box g 223 [.int .i64 e.1,.int .i64 e.2]::R) (by kernel_rfl) (by kernel_rfl) rfl mS ?_)|(apply E3;exact rfl;exact rfl;(exact vC))|(refine jN [] [⟨5,g3,3,x3,.int .i64 e.1⟩,⟨6,g4,39,x4,.int .i64 e.2⟩] ⟨4,g2,128,x2,.slice none 0 0⟩ rfl rfl rfl rfl rfl rfl ?_)|(refine jN [⟨4,g2,128,x2,.slice none 0 0⟩] [⟨6,g4,39,x4,.int .i64 e.2⟩] ⟨5,g3,3,x3,.int .i64 e.1⟩ rfl rfl rfl rfl rfl rfl ?_)|(refine jN [⟨4,g2,128,x2,.slice none 0 0⟩,⟨5,g3,3,x3,.int .i64 e.1⟩] [] ⟨6,g4,39,x4,.int .i64 e.2⟩ rfl rfl rfl rfl rfl rfl ?_)|apply yw|refine sT ?_|refine sG ?_|refine sM fun _=> ?_|(refine sC ?_ ?_<;>intro hb<;>try omega)|fail)
 refine ⟨.inr rfl,?_⟩
 simp only [QL,RG,BoxT.post,Qm,Qn]
 exact mS
def bQ (x:List Tk × Int × Int) (fin:Int):List Nd × Int × Int:=
 if x.2.2≠0 then ([],x.2.1,x.2.2)
 else match bq fin (20*x.1.length+40) (.level 1) ⟨x.1,[]⟩ with
  |none=>([],0,0)
  |some (.error (a,e))=>([],a,e)
  |some (.ok (_,p))=>
   if (hdT fin p.l).kind≠0 then ([],(hdT fin p.l).at_,4)
   else if fZ p.out≠0 then ([],0,fZ p.out)
   else (p.out,0,0)
theorem Ai {tk:List Int→Option (Tk × Nat)} {l:List Int} (f:Nat): ∀ (i:Nat) (r:List Tk),bh tk l f i= .ok r→r.length≤f:=by
 induction f with
 |zero=>intro i r h;simp only [bh,Except.ok.injEq] at h;subst h;exact Qq _
 |succ f ih=>
  intro i r h
  simp only [bh] at h
  split at h
  ·
   cases h;exact Qt _
  ·
   split at h
   ·
    exact SZ (ih _ _ h)
   ·
    split at h
    ·
     cases h
    ·
     rename_i t n _
     cases hr:bh tk l f (i+n) with
     |error e=>rw [hr] at h;cases h
     |ok r' =>
      rw [hr] at h
      cases h
      exact Tx (ih _ _ hr)
theorem mi (tk:List Int→Option (Tk × Nat)) (l:List Int):(bE tk l).1.length≤256:=by
 unfold bE
 split
 ·
  exact Qt _
 ·
  split
  ·
   exact Qt _
  ·
   split
   ·
    rename_i h
    have:=Ai _ _ _ h
    dsimp only
    omega
   ·
    exact Qt _
theorem At.start (toks:List Tk) (A:Option Nat) (cap:Nat):At toks A cap ⟨toks,[]⟩ (sl A toks.length cap):=
 ⟨0,Qt _,rfl,Qq _,A.map fun g=>⟨g,0,none⟩,by simp [sl],fun _=>by simp⟩
def Fl (A:Option Nat) (cap:Nat) (r:List Nd × Int × Int):Value:= .tuple #[sl A r.1.length cap,.int .i64 r.2.1,.int .i64 r.2.2]
set_option maxHeartbeats 4000000 in
theorem ET (a:ByteArray) (w:World) (hW:Words w) (r:List Nd × Int × Int) (hr:r=bQ (bE cZ (ap a)) (a.size:Int)):
  aL Tryz.prog 139 [.string a] w fun v H=> ∃ A cap,v=Fl A cap r∧H= [.own A 293 11 r.1.length cap (r.1.flatMap bT)]:=by
 refine MV Tryz.func139 rfl Tryz.ntmps139 rfl ?_
 have htl:=mi cZ (ap a)
 have hT:=fun w' (hm:Σ' H,Mem w w' H)=>IC a w' (hW.next hm.2)
 obtain ⟨⟨toks,at0,e0⟩,hx⟩: ∃ x,bE cZ (ap a)=x:=⟨_,rfl⟩
 rw [hx] at hr htl
 simp only [hx,Fm] at hT
 dsimp only at htl
 refine xd 293 11 ?_
 refine xd 293 11 ?_
 refine JC (fun e a w _ h=>KZ h) ?_
 obtain ⟨r1,hr1,_⟩:=qO (a.size:Int) (20*toks.length+40) (.level 1) ⟨toks,[]⟩ ⟨by omega,by omega⟩ (by simp [Job.c])
 have hP: ∀ (A:Option Nat) (cap g:Nat) (R:List Blk),toks.length≤cap→FnP Tryz.prog 176 [.pointer (some ⟨g,0,none⟩)] w (pB g (sl A toks.length cap) A cap (a.size:Int) toks none 0 []++R) (PR toks A cap (a.size:Int) g R r1) (PD R r1):=fun A cap g R hc=>
  (G8 (20*toks.length+40)).2.2.2.2 toks A cap (a.size:Int) g ⟨toks,[]⟩ (sl A toks.length cap) none 0 r1 R w hc (by omega) (At.start toks A cap) hr1
 obtain ⟨ff,hff⟩: ∃ ff,20*toks.length+40=ff:=⟨_,rfl⟩
 rw [hff] at hr1
 repeat' (first|(apply aA (f:=174);exact rfl;exact rfl;exact fun w' hm=>hT w' ⟨_,hm⟩;rintro _ _ ⟨A,cap,rfl,rfl⟩)|(rename_i g2 g3 g4;refine JD (cs:= [_,_,_]) rfl rfl ?_)|(refine JC (fun e a w _ h=>KZ h) ?_)|(refine Oz (fun e a w h=>O2 h) ?_)|(rename_i g2 g3 g4;refine tN (id:=3) [⟨2,g2,128,.slice none 0 0,.slice none 0 0⟩,⟨3,g3,3,.int .i64 at0,.int .i64 at0⟩,⟨4,g4,39,.int .i64 e0,.int .i64 e0⟩] [.own none 293 11 0 0 []] (by kernel_rfl) (by kernel_rfl) rfl mS ?_)|(refine jN [] [⟨3,g3,3,.int .i64 at0,.int .i64 at0⟩,⟨4,g4,39,.int .i64 e0,.int .i64 e0⟩] ⟨2,g2,128,.slice none 0 0,.slice none 0 0⟩ rfl rfl rfl rfl rfl rfl ?_)|(refine jN [⟨2,g2,128,.slice none 0 0,.slice none 0 0⟩] [⟨4,g4,39,.int .i64 e0,.int .i64 e0⟩] ⟨3,g3,3,.int .i64 at0,.int .i64 at0⟩ rfl rfl rfl rfl rfl rfl ?_)|(refine jN [⟨2,g2,128,.slice none 0 0,.slice none 0 0⟩,⟨3,g3,3,.int .i64 at0,.int .i64 at0⟩] [] ⟨4,g4,39,.int .i64 e0,.int .i64 e0⟩ rfl rfl rfl rfl rfl rfl ?_)|(refine sU ⟨3,g3,3,.int .i64 at0,.int .i64 at0⟩ (.tail _ (.head _)) (f:=60) (j:=3) rfl (by decide+kernel) rfl rfl rfl ?_)|(refine sU ⟨4,g4,39,.int .i64 e0,.int .i64 e0⟩ (.tail _ (.tail _ (.head _))) (f:=60) (j:=4) rfl (by decide+kernel) rfl rfl rfl ?_)|apply yw|(apply ak;exact rfl;apply lw;exact rfl)|(apply ak;exact rfl;apply gY;exact rfl)|(apply Gd (f:=176);exact rfl;exact rfl;infer_instance;exact rfl;rename_i gp;exact FnP.own (A:=A) pK (fun hcap=>FnP.msub (hP A cap _ _ hcap) (MSub.pick pK (MSub.pick pK (MSub.pick pK (MSub.refl _))))))|(rintro _ _ ⟨rfl,n,p',lv',B',cb',rfl,h2,rfl⟩;obtain ⟨u,hu⟩: ∃ u,hdT (a.size:Int) p'.l=u:=⟨_,rfl⟩)|(rintro _ _ ⟨e,rfl,rfl,h3⟩)|(apply aa (f:=177);exact rfl;exact rfl;(intro w' hm';exact At.head' (B:=B') (cb:=cb') (out:=p'.out) (fin:=(a.size:Int)) h2 hu (MSub.pick pK (MSub.pick pK (MSub.pick pK (MSub.nil _)))) w' hm'))|(apply aa (f:=179);exact rfl;exact rfl;(intro w' hm';exact CM p'.out _ w' (Reads.of_own (A:=B') hm' pK)))|(refine bH (f:=178) rfl rfl (iP _ _ _ _ _ (fun _ _=>False)) ?_ ?_)|(exact fun _ _ h=>h.elim)|(rintro _ _ ⟨rfl,rfl⟩)|refine sT ?_|refine sP ?_|refine sG ?_|refine sM fun _=> ?_|(refine sC ?_ ?_<;>intro hb<;>try omega)|fail)
 ·
  have hr' :r=([],at0,e0):=by rw [hr];simp [bQ,hb]
  subst hr'
  simp only [QL,RG,BoxT.post,Qm,Qn]
  exact pW (.inl rfl) rfl rfl pK rfl pK rfl pK (H' := [.own none 293 11 0 0 []]) mS ⟨none,0,rfl,rfl⟩
 ·
  rename_i he0 gp _ u0 hu0 g1
  have hr' :r=([],u0.at_,4):=by rw [hr];simp [bQ,hff,hr1,hu0,hb,Classical.not_not.1 he0]
  subst hr'
  refine ⟨_,.box g2 128 [.slice none 0 0]:: .box g3 3 [.int .i64 at0]:: .box g4 39 [.int .i64 e0]:: [.own none 293 11 0 0 []],_,rfl,?_,FA g2 g3 g4 _ _ _ (u0.at_,4) w _,pW (.inl rfl) rfl rfl pK rfl pK rfl pK (H' := [.own none 293 11 0 0 []]) mS ⟨none,0,rfl,rfl⟩⟩
  simp only [Qy,Qm,Qn,pB]
  exact mS
 ·
  rename_i he0 gp _ g1 hb1
  have hr' :r=([],0,fZ p'.out):=by rw [hr];simp [bQ,hff,hr1,hu,Classical.not_not.1 hb1,hb,Classical.not_not.1 he0]
  subst hr'
  exact ⟨.returning,_,_,rfl,.refl _,Fz _ _ _ _ _,pW (.inl rfl) rfl rfl pK rfl pK rfl pK (H' := [.own none 293 11 0 0 []]) mS ⟨none,0,rfl,rfl⟩⟩
 ·
  rename_i he0 gp _ g1 hb1
  have hr' :r=(p'.out,0,0):=by rw [hr];simp [bQ,hff,hr1,hu,Classical.not_not.1 hb1,Classical.not_not.1 hb,Classical.not_not.1 he0]
  subst hr'
  exact ⟨.returning,_,_,rfl,.refl _,Fz _ _ _ _ _,pW (.inl rfl) rfl rfl pK rfl pK rfl pK (H' := [.own B' 293 11 p'.out.length cb' (p'.out.flatMap bT)]) mS ⟨B',cb',rfl,rfl⟩⟩
 ·
  have hr' :r=([],e.1,e.2):=by rw [hr];simp [bQ,hff,hr1,Classical.not_not.1 hb]
  subst hr'
  refine ⟨_,.box g2 128 [.slice none 0 0]:: .box g3 3 [.int .i64 at0]:: .box g4 39 [.int .i64 e0]:: [.own none 293 11 0 0 []],_,rfl,MSub.trans ?_ h3,FA g2 g3 g4 _ _ _ e w _,pW (.inl rfl) rfl rfl pK rfl pK rfl pK (H' := [.own none 293 11 0 0 []]) mS ⟨none,0,rfl,rfl⟩⟩
  exact mS
end Go.SL
namespace Go.SL
open Go
theorem eB (c:Int):aF c=true↔48≤c∧c≤57:=by simp [aF]
theorem gM (c:Int):bS c=true↔(65≤c∧c≤90)∨(97≤c∧c≤122):=by simp [bS]
theorem MK (c:Int):bS c=false↔ ¬ ((65≤c∧c≤90)∨(97≤c∧c≤122)):=by rw [← gM];simp
theorem BJ (c:Int):bS (upC c)=bS c:=by
 rw [Rs,gM,gM,upC]
 by_cases h:97≤c∧c≤122
 ·
  rw [if_pos h];omega
 ·
  rw [if_neg h]
theorem KY (c:Int):aF (upC c)=aF c:=by
 rw [Rs,eB,eB,upC]
 by_cases h:97≤c∧c≤122
 ·
  rw [if_pos h];omega
 ·
  rw [if_neg h]
theorem Mb (c:Int):upC (upC c)=upC c:=by
 simp only [upC]
 split
 ·
  rw [if_neg (by omega)]
 ·
  rfl
theorem Mc {c:Int} (h:aF c=true):upC c=c:=by
 simp only [aF,Qu,decide_eq_true_eq] at h
 rw [upC,if_neg (by omega)]
theorem pO: ∀ l:List Int,(l.map upC).takeWhile bS=(l.takeWhile bS).map upC
 | []=>rfl
 |c::r=>by
  simp only [QL,SC,BJ]
  split
  ·
   rw [pO r];rfl
  ·
   rfl
theorem qp: ∀ l:List Int,(l.map upC).dropWhile bS=(l.dropWhile bS).map upC
 | []=>rfl
 |c::r=>by
  simp only [QL,TD,BJ]
  split
  ·
   rw [qp r]
  ·
   rfl
theorem rH: ∀ (l:List Int) (v:Int),bp (l.map upC) v=bp l v
 | [],_=>rfl
 |c::r,v=>by simp only [QL,bp,Mb,rH r]
theorem Ll: ∀ l:List Int,(l.map upC).all aF=l.all aF
 | []=>rfl
 |c::r=>by simp only [QL,ST,KY,Ll r]
theorem uT: ∀ {l:List Int},l.all aF=true→l.map upC=l
 | [],_=>rfl
 |c::r,h=>by
  simp only [ST,Qu] at h
  simp only [QL,Mc h.1,uT h.2]
theorem MQ (l:List Int):((l.map upC).head? =some 48)↔(l.head? =some 48):=by
 cases l with
 |nil=>simp
 |cons c r=>
  simp only [QL,List.head?_cons,Option.some.injEq,upC]
  split<;>omega
theorem Ln (l:List Int):cj (l.map upC)=cj l:=by
 unfold cj
 simp only [pO,qp,List.map_eq_nil_iff,MQ,Ll,rH]
 split
 ·
  rfl
 ·
  rename_i h
  have hd:(l.dropWhile bS).all aF=true:=by
   cases hh:(l.dropWhile bS).all aF with
   |true=>rfl
   |false=>exact absurd (.inr (.inr (.inr hh))) h
  rw [uT hd]
theorem qP {p:Int→Bool}: ∀ {l:List Int} {n:Nat},n≤aD p l→aD p (l.take n)=n
 | [],n,h=>by simp [aD] at h;subst h;rfl
 |c::r,0,_=>rfl
 |c::r,n+1,h=>by
  simp only [aD] at h
  split at h
  ·
   rename_i hc
   simp only [RA,aD,hc,if_true]
   rw [qP (by omega)]
  ·
   omega
theorem pT {p:Int→Bool}: ∀ {l:List Int} {n:Nat},aD p l≤n→aD p (l.take n)=aD p l
 | [],n,_=>by simp
 |c::r,0,h=>by
  simp only [aD] at h
  split at h
  ·
   omega
  ·
   rename_i hc;simp [aD,hc]
 |c::r,n+1,h=>by
  simp only [aD] at h ⊢
  simp only [RA,aD]
  split at h
  ·
   rename_i hc;simp only [hc,if_true];rw [pT (by omega)]
  ·
   rename_i hc;simp [hc]
theorem mJ {l:List Int} (h:bV l≠0): ∃ r,l=46::r∧bV l=aD aF r:=by
 cases l with
 |nil=>exact absurd rfl h
 |cons c r=>
  by_cases hc:c=46
  ·
   subst hc;exact ⟨r,rfl,rfl⟩
  ·
   exact absurd (lH hc) h
theorem Co {l:List Int} {w p:Nat} (hw:aD aF l=w) (hp:bV (l.drop w)=p) (h0:w≠0) (h4:p≤4):
  fY (l.take (if p=0 then w else w+1+p))=if cE<bu (l.take w++(l.drop (w+1)).take p++List.replicate (4 - p) 48) 0 then (0,3) else (bu (l.take w++(l.drop (w+1)).take p++List.replicate (4 - p) 48) 0,0):=by
 have hwl:w≤l.length:=hw ▸ bU aF l
 obtain ⟨c,r,rfl⟩: ∃ c r,l=c::r:=by
  cases l with
  |nil=>simp [aD] at hw;omega
  |cons c r=>exact ⟨c,r,rfl⟩
 have hc:aF c=true:=jB (c::r) 0 c (by omega) rfl
 have hc45:c≠45:=by simp only [aF,Qu,decide_eq_true_eq] at hc;omega
 have hneg: ∀ n,0<n→decide (((c::r).take n).head? =some 45)=false:=by
  intro n hn
  cases n with
  |zero=>omega
  |succ n=>simp [hc45]
 by_cases hp0:p=0
 ·
  subst hp0
  rw [if_pos rfl]
  unfold fY
  have hrun:aD aF ((c::r).take w)=w:=qP (by omega)
  have hdrop:((c::r).take w).drop w= []:=by rw [List.drop_eq_nil_iff,QD];omega
  have htt:((c::r).take w).take w=(c::r).take w:=by rw [List.take_take,Nat.min_self]
  simp only [hneg w (by omega),QZ,if_false,hrun,hdrop,htt]
  simp [h0]
 ·
  rw [if_neg hp0]
  obtain ⟨q,hq,hq2⟩:=mJ (l:=(c::r).drop w) (by omega)
  have hpq:aD aF q=p:=by omega
  have hpl:p≤q.length:=hpq ▸ bU aF q
  have hlen:(c::r).length=w+1+q.length:=by
   have:=congrArg List.length hq
   rw [Qz] at this
   simp only [QF] at this ⊢
   omega
  have hd1:(c::r).drop (w+1)=q:=by
   rw [← RN,hq];rfl
  have hrun:aD aF ((c::r).take (w+1+p))=w:=by rw [pT (by omega)];exact hw
  have hdrop:((c::r).take (w+1+p)).drop w=46::q.take p:=by
   rw [List.drop_take,hq,show w+1+p - w=p+1 by omega];rfl
  have htt:((c::r).take (w+1+p)).take w=(c::r).take w:=by rw [List.take_take,Sr (by omega)]
  have hrp:aD aF (q.take p)=p:=qP (by omega)
  have hlp:(q.take p).length=p:=by rw [QD];omega
  unfold fY
  simp only [hneg (w+1+p) (by omega),QZ,if_false,hrun,hdrop,htt,List.tail_cons,hrp,hd1]
  have hfrac:(decide (1<(46::q.take p).length) && (decide ((46::q.take p).head? =some 46) && decide (p+1=(46::q.take p).length)))=true:=by
   simp only [QF,hlp,List.head?_cons,decide_true,QS,Rp]
   simp;omega
  simp only [hfrac,if_true]
  have h5:(q.take p++ [48,48,48,48,48]).getD 4 0=48:=by
   rw [QI,Rj (by omega),hlp]
   rcases (by omega:p=1∨p=2∨p=3∨p=4) with rfl|rfl|rfl|rfl<;>rfl
  have h6:(q.take p++ [48,48,48,48,48]).take 4=q.take p++List.replicate (4 - p) 48:=by
   rw [List.take_append,hlp,QY (by omega)]
   rcases (by omega:p=1∨p=2∨p=3∨p=4) with rfl|rfl|rfl|rfl<;>rfl
  rw [if_neg (by simp [h0])]
  simp only [h5,h6]
  rw [if_neg (show ¬ (53:Int)≤48 by decide),Int.add_zero,QH]
theorem uN (l:List Int):fp l=(jX l).map fun x=>(⟨1,x.1,av,aM,0⟩,x.2):=by
 unfold fp jX
 dsimp only
 split
 ·
  rfl
 ·
  rename_i h
  have h0:aD aF l≠0:=fun e=>h (.inl e)
  have h4:bV (l.drop (aD aF l))≤4:=by
   rcases Sf 4 (bV (l.drop (aD aF l))) with h4|h4
   ·
    exact absurd (.inr h4) h
   ·
    exact h4
  rw [Co rfl rfl h0 h4]
  split
  ·
   rfl
  ·
   rfl
theorem z7 (m:List Int):ko (34::34::m)=(ko m).map (34:: ·):=by
 rw [ko.eq_def]
 simp
theorem Ar: ∀ (n:Nat) (l:List Int),l.length≤n→jQ l=(cC l).bind fun k=>(ko (l.take k)).map fun t=>(t,k+1):=by
 intro n
 induction n with
 |zero=>intro l h;have:l= []:=QV (by omega);subst this;rfl
 |succ n ih=>
  intro l h
  cases l with
  |nil=>rfl
  |cons c r=>
   simp only [QF] at h
   by_cases hc:c=34
   ·
    subst hc
    cases r with
    |nil=>rfl
    |cons d r' =>
     simp only [QF] at h
     by_cases hd:d=34
     ·
      subst hd
      rw [jQ.eq_def,cC.eq_def]
      simp only [ne_eq,not_true,if_false,if_true]
      rw [ih r' (by omega)]
      cases hk:cC r' with
      |none=>rfl
      |some k=>
       simp only [Ry,Option.bind_some]
       rw [RA,RA,z7]
       cases ko (r'.take k)<;>rfl
     ·
      rw [jQ.eq_def,cC.eq_def]
      simp [hd,ko]
   ·
    rw [jQ.eq_def,j6 hc]
    simp only [ne_eq,hc,not_false_eq_true,if_true]
    rw [ih r (by omega)]
    cases hk:cC r with
    |none=>rfl
    |some k=>
     simp only [Ry,Option.bind_some]
     rw [RA,qK hc]
     cases ko (r.take k)<;>rfl
theorem H8: ∀ (n:Nat) (l:List Int) (k:Nat),l.length≤n→cC l=some k→l[k]? =some 34∧ ∃ t,ko (l.take k)=some t∧t.length≤k:=by
 intro n
 induction n with
 |zero=>intro l k h hk;have:l= []:=QV (by omega);subst this;cases hk
 |succ n ih=>
  intro l k h hk
  cases l with
  |nil=>cases hk
  |cons c r=>
   simp only [QF] at h
   by_cases hc:c=34
   ·
    subst hc
    cases r with
    |nil=>cases hk;exact ⟨rfl,[],rfl,Qq _⟩
    |cons d r' =>
     simp only [QF] at h
     by_cases hd:d=34
     ·
      subst hd
      rw [cC.eq_def] at hk
      simp only [ne_eq,not_true,if_false,if_true] at hk
      cases hk' :cC r' with
      |none=>rw [hk'] at hk;cases hk
      |some j=>
       rw [hk'] at hk
       cases hk
       obtain ⟨h1,t,h2,h3⟩:=ih r' j (by omega) hk'
       refine ⟨h1,34::t,?_,by simp only [QF];omega⟩
       rw [RA,RA,z7,h2];rfl
     ·
      rw [cC.eq_def] at hk
      simp [hd] at hk
      subst hk
      exact ⟨rfl,[],rfl,Qq _⟩
   ·
    rw [j6 hc] at hk
    cases hk' :cC r with
    |none=>rw [hk'] at hk;cases hk
    |some j=>
     rw [hk'] at hk
     cases hk
     obtain ⟨h1,t,h2,h3⟩:=ih r j (by omega) hk'
     refine ⟨h1,c::t,?_,by simp only [QF];omega⟩
     rw [RA,qK hc,h2];rfl
theorem Jy {r:List Int} (hp:(34::r).all (fun c=>bB c)=true) (hl:r.length≤256):mq (34::r)=(jQ r).map fun x=>(⟨2,0,mkB x.1,aM,0⟩,x.2+1):=by
 unfold mq
 rw [Ar r.length r (Qq _)]
 simp only [RT,ne_eq,not_true,if_false,Tg,RM]
 cases hk:cC r with
 |none=>rfl
 |some k=>
  obtain ⟨h1,t,h2,h3⟩:=H8 r.length r k (Qq _) hk
  obtain ⟨hkl,h1⟩:=QB.1 h1
  have e1:(34::r).take (k+2)=34::r.take (k+1):=rfl
  have e2:r.take (k+1)=r.take k++ [34]:=by rw [Qv hkl,h1]
  have hall:(34::r.take (k+1)).all (fun c=>bB c)=true:=by
   rw [← e1]
   rw [RK] at hp ⊢
   exact fun x hx=>hp x (RE hx)
  have e3:fL (34::r.take (k+1))=(t,0):=by
   unfold fL
   rw [hall]
   rw [if_neg (by rw [e2];simp [List.getLast?_cons])]
   have:((34::r.take (k+1)).drop 1).dropLast=r.take k:=by rw [Tg,RM,e2,TB]
   rw [this,h2]
   simp only
   rw [if_neg (by omega)]
  simp only [e1,e3,Option.bind_some,h2,Ry]
  simp
theorem Jr (l:List Int):upW l=(l.take (aD cJ l)).map upC:=rfl
theorem Qa (l:List Int):cj (upW l)=cj (l.take (aD cJ l)):=by rw [Jr,Ln]
def ja (l:List Int):Option (Tk × Nat):=match j0 l with
 |some x=>some x
 |none=>gS l
theorem vv {l:List Int} (h:l.headD 0≠35): ∀ (ns:List (List Int)) (k:Int),(∀ s∈ns,s.head? =some 35)→jK l ns k=none
 | [],_,_=>rfl
 |s::r,k,hs=>by
  have h1:=hs s Qp
  rw [jK,if_neg,vv h r _ fun s hs' =>hs s (Qw _ hs')]
  intro e
  cases s with
  |nil=>cases h1
  |cons a s=>
   cases h1
   cases l with
   |nil=>cases e
   |cons c l=>
    simp only [QF,RA,QL,List.cons.injEq] at e
    simp only [RT] at h
    have:=e.1
    simp only [upC] at this
    split at this<;>omega
theorem lT {l:List Int} (h:l.headD 0≠35):j0 l=none:=by
 unfold j0
 rw [vv h dD 1 (by decide)]
 rfl
def qa:List Int:= [60,62,43,45,42,47,94,38,61,37]
theorem uL {l:List Int} (h:l.headD 0∉qa): ∀ ns:List (List Int × Int),(∀ s∈ns,∃ c,s.1.head? =some c∧c∈qa)→opL l ns=none
 | [],_=>rfl
 |(s,k)::r,hs=>by
  obtain ⟨a,h1,h2⟩:=hs (s,k) Qp
  rw [opL,if_neg,uL h r fun s hs' =>hs s (Qw _ hs')]
  intro e
  cases s with
  |nil=>cases h1
  |cons b s=>
   cases h1
   cases l with
   |nil=>cases e
   |cons c l=>
    simp only [QF,RA,List.cons.injEq] at e
    simp only [RT] at h
    exact h (e.1 ▸ h2)
theorem oU {l:List Int} (h:l.headD 0∉qa) (h1:l.headD 0≠40) (h2:l.headD 0≠41) (h3:l.headD 0≠44):gS l=none:=by
 unfold gS
 rw [uL h eF (by decide)]
 simp only [h1,h2,h3,if_false]
theorem y4 {l:List Int} (h:aF (l.headD 0)=false):fp l=none:=by
 unfold fp
 have:aD aF l=0:=by
  cases l with
  |nil=>rfl
  |cons c r=>simp only [RT] at h;simp [aD,h]
 simp [this]
theorem um {l:List Int} (h:l.headD 0≠34):mq l=none:=by
 unfold mq
 rw [if_pos h]
theorem oN {l:List Int} (h:bS (l.headD 0)=false):gA l=none:=by
 unfold gA
 rw [if_pos h]
def bI (l:List Int):Option (Tk × Nat):=
 if aF (l.headD 0) then (jX l).map fun x=>(⟨1,x.1,av,aM,0⟩,x.2)
 else if l.headD 0=34 then (jQ l.tail).map fun x=>(⟨2,0,mkB x.1,aM,0⟩,x.2+1)
 else if bS (l.headD 0) then gA l
 else ja l
theorem rE (c:Int):c∈qa↔c=60∨c=62∨c=43∨c=45∨c=42∨c=47∨c=94∨c=38∨c=61∨c=37:=by simp [qa]
theorem GA {l:List Int} (hp:l.all (fun c=>bB c)=true) (hl:l.length≤256):cZ l=bI l:=by
 have hF:cZ l=match fp l with
  |some x=>some x
  |none=>match mq l with
   |some x=>some x
   |none=>match gA l with
    |some x=>some x
    |none=>ja l:=by
  unfold cZ mB lS ja
  cases fp l<;>simp only [lS]
  cases mq l<;>simp only
  cases gA l<;>simp only
  cases j0 l<;>simp only
  cases gS l<;>rfl
 rw [hF]
 unfold bI
 by_cases h1:aF (l.headD 0)=true
 ·
  have h1' :=(eB _).1 h1
  rw [if_pos h1,← uN,um (by omega),oN ((MK _).2 (by omega)),ja,lT (by omega),oU (by rw [rE];omega) (by omega) (by omega) (by omega)]
  cases fp l<;>rfl
 ·
  rw [if_neg h1]
  have h1' :aF (l.headD 0)=false:=by simpa using h1
  rw [y4 h1']
  by_cases h2:l.headD 0=34
  ·
   rw [if_pos h2]
   cases l with
   |nil=>cases h2
   |cons c r=>
    simp only [RT] at h2
    subst h2
    rw [Jy hp (by simp only [QF] at hl;omega),List.tail_cons,oN (by rw [RT];decide),ja,lT (by rw [RT];decide),oU (by rw [RT];decide) (by rw [RT];decide) (by rw [RT];decide) (by rw [RT];decide)]
    cases jQ r<;>rfl
  ·
   rw [if_neg h2,um h2]
   by_cases h3:bS (l.headD 0)=true
   ·
    have h3' :=(gM _).1 h3
    rw [if_pos h3,ja,lT (by omega),oU (by rw [rE];omega) (by omega) (by omega) (by omega)]
    cases gA l<;>rfl
   ·
    rw [if_neg h3,oN (by simpa using h3)]
theorem Dm {l:List Int} (hp:l.all (fun c=>bB c)=true) (hl:l.length≤256): ∀ f i,bh cZ l f i=bh bI l f i:=by
 intro f
 induction f with
 |zero=>intro i;rfl
 |succ f ih=>
  intro i
  simp only [bh]
  have h1:(l.drop i).all (fun c=>bB c)=true:=by
   rw [RK] at hp ⊢
   exact fun x hx=>hp x (SA hx)
  rw [GA h1 (by rw [Qz];omega)]
  simp only [ih]
theorem Dl (l:List Int):bE cZ l=bE bI l:=by
 unfold bE
 split
 ·
  rfl
 ·
  rename_i hl
  cases h:l.findIdx? (fun c=> !bB c) with
  |some i=>rfl
  |none=>
   simp only
   rw [Dm _ (by omega)]
   rw [R0] at h
   rw [RK]
   intro x hx
   have:=h x hx
   simpa using this
end Go.SL
namespace Go.SL
open Go Go.Proofs
attribute [local irreducible] W WL WQ WG WA WX WLI WR WT VOp RW thn blk bF scp aR bk bJ aL FnIn FnP
theorem O1 {a:ByteArray} {i:Nat} (h:i<a.size):gO (sub a i (i+1))=if bB (bat a i) then 0 else 4:=by
 have h1:ap (sub a i (i+1))= [bat a i]:=by
  rw [dP,bg h,Nat.add_sub_cancel_left]
  rfl
 have h2:(sub a i (i+1)).size=1:=by rw [bY a (by omega)];omega
 simp only [gO,h2,mG,h1]
 cases h:bB (bat a i)<;>simp [h]
structure Mn where
 formula:Bool
 v:Vl
 tree:List Nd
def eqB:ByteArray:=⟨#[61]⟩
def qC:Mn:=⟨false,bG,[]⟩
def ofP (b:ByteArray):Mn × Int × Int:=
 if 256<b.size then (qC,0,5)
 else match (ap b).findIdx? (fun c=> !bB c) with
  |some i=>(qC,(i:Int),4)
  |none=>
   if (jL b eqB).2=false then (⟨false,q9 b,[]⟩,0,0)
   else match bQ (bE cZ (ap (jL b eqB).1)) ((jL b eqB).1.size:Int) with
    |(t,at_,e)=>if e≠0 then (qC,IntKind.i64.wrap (at_+1),e) else (⟨true,bG,t⟩,0,0)
def zn (m:Mn) (tv:Value):List Value:= [.bool m.formula,.int .u8 m.v.kind,.int .i64 m.v.num,.string m.v.text,tv]
def ofV (A:Option Nat) (cap:Nat) (r:Mn × Int × Int):Value:= .tuple #[.agg (zn r.1 (sl A r.1.tree.length cap)).toArray,.int .i64 r.2.1,.int .i64 r.2.2]
set_option maxHeartbeats 2000000 in
theorem Lt (b:ByteArray) (w:World) (hW:Words w):aL Tryz.prog 99 [.string b] w fun v H=> ∃ A cap,v=ofV A cap (ofP b)∧H= [.own A 293 11 (ofP b).1.tree.length cap ((ofP b).1.tree.flatMap bT)]:=by
 refine aq Tryz.func99 rfl Tryz.ntmps99 rfl ?_
 refine aC 293 11 ?_
 unfold ofP
 by_cases hlen:256<b.size
 ·
  rw [if_pos hlen]
  repeat' (first|refine sT ?_|refine sS ?_|refine sT2 ?_|refine sM fun _=> ?_|(refine sC ?_ ?_<;>intro hb<;>try omega)|fail)
  all_goals first
   |(exfalso;omega)
   |exact fF (.inl rfl) rfl rfl pK rfl rfl rfl (H' := [.own none 293 11 0 0 []]) mS ⟨none,0,rfl,rfl⟩
 rw [if_neg hlen]
 repeat' (first|refine sT ?_|refine sS ?_|refine sT2 ?_|refine sM fun _=> ?_|(refine sC ?_ ?_<;>intro hb<;>try omega)|fail)
 all_goals try (exfalso;omega)
 rename_i g2
 refine ax [0,2,14] rfl (fun i:Nat=> [(15,.int .i64 (i:Int))]) (fun _=> [.box g2 130 [.bool false,.int .u8 0,.int .i64 0,.string av,.slice none 0 0],.own none 293 11 0 0 []]) (fun i=>i≤b.size∧ ∀ j,j<i→bB (bat b j)=true) (fun i=>b.size - i) 0 ⟨by omega,fun j h=>by omega⟩ sB mS ?_
 rintro i ⟨hi,hpl⟩
 by_cases hlt:i<b.size
 ·
  have hg:=O1 hlt
  have hG:=fun w=>vg (sub b i (i+1)) w
  rw [hg] at hG
  by_cases hc:bB (bat b i)=true
  ·
   rw [if_pos hc] at hG
   repeat' (first|(apply ak;exact rfl;apply fB;(iterate 3 exact rfl);exact ⟨by omega,by omega⟩)|(apply aa;exact rfl;exact rfl;(intro w hm;exact hG w))|refine sT ?_|refine sS ?_|refine sT2 ?_|refine sN ?_|refine sM fun _=> ?_|(refine sC ?_ ?_<;>intro hb<;>try omega)|fail)
   all_goals try (exfalso;omega)
   refine ⟨i+1,?_,(by first|omega|(dsimp only;omega)),sB,sB,mS⟩
   refine ⟨hlt,fun j hj=> ?_⟩
   rcases (by omega:j<i∨j=i) with h|rfl
   ·
    exact hpl j h
   ·
    exact hc
  ·
   rw [if_neg hc] at hG
   repeat' (first|(apply ak;exact rfl;apply fB;(iterate 3 exact rfl);exact ⟨by omega,by omega⟩)|(apply aa;exact rfl;exact rfl;(intro w hm;exact hG w))|refine sT ?_|refine sS ?_|refine sT2 ?_|refine sN ?_|refine sM fun _=> ?_|(refine sC ?_ ?_<;>intro hb<;>try omega)|fail)
   all_goals try (exfalso;omega)
   have hf:(ap b).findIdx? (fun c=> !bB c)=some i:=m9 hlt (by simp [hc]) fun j hj=>by rw [hpl j hj];rfl
   rw [hf]
   exact fF (.inl rfl) rfl rfl pK rfl rfl rfl (H' := [.own none 293 11 0 0 []]) mS ⟨none,0,rfl,rfl⟩
 ·
  have e:i=b.size:=by omega
  subst e
  have hf:(ap b).findIdx? (fun c=> !bB c)=none:=lK fun j hj=>by rw [hpl j hj];rfl
  rw [hf]
  dsimp only
  have hcut:=fun w=>K0 b eqB (by omega) w
  obtain ⟨⟨rest,is⟩,hx⟩: ∃ x,jL b eqB=x:=⟨_,rfl⟩
  rw [hx] at hcut ⊢
  cases is with
  |false=>
   rw [if_pos rfl]
   repeat' (first|(apply aa;exact rfl;exact rfl;(intro w hm;exact hcut w))|(apply aa (f:=138);exact rfl;exact rfl;(intro w' hm';exact Cr b (by omega) w' (hW.next hm')))|refine sT ?_|refine sS ?_|refine sT2 ?_|refine sN ?_|refine sM fun _=> ?_|(refine sC ?_ ?_<;>intro hb<;>try omega)|fail)
   all_goals try (exfalso;omega)
   exact fF (.inl rfl) rfl rfl pK rfl rfl rfl (H' := [.own none 293 11 0 0 []]) mS ⟨none,0,rfl,rfl⟩
  |true=>
   rw [if_neg (by simp)]
   dsimp only
   have hF:=fun (w' :World) (h:Words w')=>ET rest w' h _ rfl
   obtain ⟨⟨t,at0,e0⟩,hr⟩: ∃ x,bQ (bE cZ (ap rest)) (rest.size:Int)=x:=⟨_,rfl⟩
   simp only [hr,Fl] at hF
   rw [hr]
   dsimp only
   by_cases he:e0≠0
   ·
    rw [if_pos he]
    repeat' (first|(apply aa;exact rfl;exact rfl;(intro w hm;exact hcut w))|(apply aA (f:=139);exact rfl;exact rfl;(intro w' hm';exact hF w' (hW.next hm'));rintro _ _ ⟨A,cap,rfl,rfl⟩)|(apply ak;exact rfl;apply ub;exact rfl;exact rfl)|refine sT ?_|refine sS ?_|refine sT2 ?_|refine sN ?_|refine sM fun _=> ?_|(refine sC ?_ ?_<;>intro hb<;>try omega)|fail)
    all_goals try (exfalso;omega)
    exact fF (.inl rfl) rfl rfl pK rfl rfl rfl (H' := [.own none 293 11 0 0 []]) mS ⟨none,0,rfl,rfl⟩
   ·
    rw [if_neg he]
    repeat' (first|(apply aa;exact rfl;exact rfl;(intro w hm;exact hcut w))|(apply aA (f:=139);exact rfl;exact rfl;(intro w' hm';exact hF w' (hW.next hm'));rintro _ _ ⟨A,cap,rfl,rfl⟩)|(apply ak;exact rfl;apply ub;exact rfl;exact rfl)|refine sT ?_|refine sS ?_|refine sT2 ?_|refine sN ?_|refine sM fun _=> ?_|(refine sC ?_ ?_<;>intro hb<;>try omega)|fail)
    all_goals try (exfalso;omega)
    exact fF (.inl rfl) rfl rfl pK rfl rfl rfl (H' := [.own A 293 11 t.length cap (t.flatMap bT)]) mS ⟨A,cap,rfl,rfl⟩
end Go.SL
namespace Go.SL
open Go
def ofR (b:ByteArray):Mn × Int × Int:=
 if 256<b.size then (qC,0,5)
 else match (ap b).findIdx? (fun c=> !bB c) with
  |some i=>(qC,(i:Int),4)
  |none=>
   if (ap b).headD 0≠61 then (⟨false,vN b,[]⟩,0,0)
   else match bQ (bE bI (ap (sub b 1 b.size))) ((sub b 1 b.size).size:Int) with
    |(t,at_,e)=>if e≠0 then (qC,IntKind.i64.wrap (at_+1),e) else (⟨true,bG,t⟩,0,0)
theorem zg {b:ByteArray} (h: ¬ 256<b.size) (hp:(ap b).findIdx? (fun c=> !bB c)=none):gO b=0:=by
 rw [R0] at hp
 unfold gO
 rw [mG]
 have:(ap b).all bB=true:=by
  rw [RK]
  intro c hc
  simpa using hp c hc
 simp [h,this]
theorem J7 (b:ByteArray):ofP b=ofR b:=by
 unfold ofP ofR
 by_cases h1:256<b.size
 ·
  rw [if_pos h1,if_pos h1]
 rw [if_neg h1,if_neg h1]
 cases hf:(ap b).findIdx? (fun c=> !bB c) with
 |some i=>rfl
 |none=>
  dsimp only
  have hq:ap eqB= [61]:=rfl
  have hs:eqB.size=1:=rfl
  have h61:(ap b).take 1= [61]↔(ap b).headD 0=61:=by cases ap b<;>simp
  have hcut:jL b eqB=if (ap b).headD 0=61 then (sub b 1 b.size,true) else (b,false):=by
   unfold jL
   rw [hq,hs]
   by_cases h:(ap b).headD 0=61
   ·
    rw [if_pos (h61.2 h),if_pos h]
   ·
    rw [if_neg (fun h' =>h (h61.1 h')),if_neg h]
  rw [hcut]
  by_cases h2:(ap b).headD 0=61
  ·
   rw [if_pos h2,if_neg (by simp),if_neg (show ¬ ((ap b).headD 0≠61) from fun h=>h h2),Dl]
  ·
   rw [if_neg h2,if_pos rfl,if_pos h2,H5 (zg h1 hf)]
abbrev Gr:=List (Rf × List Nd × List Us)
def bZ (G:Gr):List Rf:=G.map fun e=>e.1
def SortG (G:Gr):Prop:=G.Pairwise fun x y=>aQ x.1 y.1=true
def uW (G:Gr) (a:Rf):Option (List Nd × List Us):=(G.find? fun e=>decide (e.1=a)).map fun e=>e.2
def HZ (G:Gr) (a:Rf):Gr:=G.filter fun e=>decide (e.1≠a)
def Ek (G:Gr) (a:Rf) (x:List Nd × List Us):Gr:=G.filter (fun e=>aQ e.1 a)++(a,x)::G.filter fun e=>aQ a e.1
def iO (G:Gr) (a:Rf):List Us:=((uW G a).map fun x=>x.2).getD []
def jh (G:Gr) (a:Rf) (b:ByteArray):Gr × Int:=
 if a.valid=false then (G,3)
 else if (ofP b).2.2≠0 then (G,(ofP b).2.2)
 else if (ofP b).1.formula=false then (HZ G a,0)
 else (Ek G a ((ofP b).1.tree,eO (ofP b).1.tree),0)
theorem kW {a b:Rf}:aQ a b=true↔a.row<b.row∨(a.row=b.row∧a.col<b.col):=by simp [aQ]
theorem HB (a:Rf):aQ a a=false:=by simp [aQ]
theorem mU {a b c:Rf} (h:aQ a b=true) (k:aQ b c=true):aQ a c=true:=by
 rw [kW] at*
 omega
theorem rI {a b:Rf} (h:aQ a b=true):aQ b a=false:=by
 rw [← TM,kW]
 rw [kW] at h
 omega
theorem BK {a b:Rf} (h:a≠b):aQ a b=true∨aQ b a=true:=by
 rw [kW,kW]
 rcases Int.lt_trichotomy a.row b.row with h1|h1|h1
 ·
  exact .inl (.inl h1)
 ·
  rcases Int.lt_trichotomy a.col b.col with h2|h2|h2
  ·
   exact .inl (.inr ⟨h1,h2⟩)
  ·
   refine absurd ?_ h
   obtain ⟨a1,a2⟩:=a
   obtain ⟨b1,b2⟩:=b
   simp only at h1 h2
   subst h1 h2;rfl
  ·
   exact .inr (.inr ⟨h1.symm,h2⟩)
 ·
  exact .inr (.inl h1)
theorem uY {a b:Rf} (h:aQ a b=true):a≠b:=by
 rintro rfl
 rw [HB] at h
 cases h
theorem SortG.nodup {G:Gr} (h:SortG G):(bZ G).Nodup:=by
 rw [bZ,List.Nodup,List.pairwise_map]
 exact h.imp fun h=>uY h
theorem xa:SortG []:=List.Pairwise.nil
theorem qM {G:Gr} (h:SortG G) (a:Rf):SortG (HZ G a):=h.filter _
theorem qL {G:Gr} (h:SortG G) (a:Rf) (x:List Nd × List Us):SortG (Ek G a x):=by
 refine RJ.2 ⟨h.filter _,QN.2 ⟨fun e he=> ?_,h.filter _⟩,fun e he f hf=> ?_⟩
 ·
  exact (SM.1 he).2
 ·
  have h1:=(SM.1 he).2
  rcases Qx.1 hf with rfl|hf
  ·
   exact h1
  ·
   exact mU h1 (SM.1 hf).2
theorem GG {G:Gr} (h:SortG G) (a:Rf) (b:ByteArray):SortG (jh G a b).1:=by
 unfold jh
 split
 ·
  exact h
 ·
  split
  ·
   exact h
  ·
   split
   ·
    exact qM h a
   ·
    exact qL h a _
theorem uR {G:Gr} {a:Rf} {x:List Nd × List Us} {e:Rf × List Nd × List Us}:e∈Ek G a x↔e=(a,x)∨(e∈G∧e.1≠a):=by
 simp only [Ek,QJ,Qx,SM]
 constructor
 ·
  rintro (⟨h1,h2⟩|rfl|⟨h1,h2⟩)
  ·
   exact .inr ⟨h1,uY h2⟩
  ·
   exact .inl rfl
  ·
   exact .inr ⟨h1,(uY h2).symm⟩
 ·
  rintro (rfl|⟨h1,h2⟩)
  ·
   exact .inr (.inl rfl)
  ·
   rcases BK h2 with h|h
   ·
    exact .inl ⟨h1,h⟩
   ·
    exact .inr (.inr ⟨h1,h⟩)
theorem uS {G:Gr} {a:Rf} {e:Rf × List Nd × List Us}:e∈HZ G a↔e∈G∧e.1≠a:=by simp [HZ]
theorem uV {G:Gr} (h:SortG G) {a:Rf} {x:List Nd × List Us}:uW G a=some x↔(a,x)∈G:=by
 constructor
 ·
  intro hl
  obtain ⟨e,he,rfl⟩:=Rg.1 hl
  have h1:=List.find?_some he
  have h2:=Tb he
  simp only [decide_eq_true_eq] at h1
  subst h1
  exact h2
 ·
  intro hm
  have hn:=h.nodup
  cases hf:G.find? fun e=>decide (e.1=a) with
  |none=>
   rw [List.find?_eq_none] at hf
   exact absurd (hf _ hm) (by simp)
  |some e=>
   have h1:=List.find?_some hf
   have h2:=Tb hf
   simp only [decide_eq_true_eq] at h1
   have:=ph (fun e:Rf × List Nd × List Us=>e.1) hn h2 hm h1
   rw [uW,hf,this];rfl
theorem Ec {G:Gr} {a:Rf}:uW G a=none↔ ∀ e∈G,e.1≠a:=by
 rw [uW,Option.map_eq_none_iff,List.find?_eq_none]
 simp
theorem BN {G:Gr} (h:SortG G):(bZ G).Pairwise fun x y=>aQ x y=true:=by
 rw [bZ,List.pairwise_map];exact h
theorem wC {L:List Rf} (h:L.Pairwise fun x y=>aQ x y=true):sortRf L=L:=by
 refine List.mergeSort_of_pairwise ?_
 exact h.imp fun h=>by rw [rI h];rfl
end Go.SL
namespace Go.SL
open Go Go.Proofs
attribute [local irreducible] W WL WQ WG WA WX WLI WR WT WC VOp RW thn blk bF scp aR bk bJ aL FnP ceP
structure Gs where
 gg:Nat
 gm:Nat
 E:List En
 clock:Nat
 R1:List Blk
 gr:Nat
 A:Option Nat
 cap:Nat
 Q:List En
 R2:List Blk
end Go.SL
namespace Go.SL
open Go
def inB:ByteArray:=⟨#[61,65,49,43,66,49]⟩
def inC:ByteArray:=⟨#[61,68,83,85,77,40,66,49,58,66,51,41]⟩
def inD:ByteArray:=⟨#[61,73,70,69,82,82,79,82,40,65,51,44,48,41,43,49]⟩
def OB (c r:Int):Nd:=⟨2,bG,Bw c r,0,0,0⟩
def exG:Gr:= [
 (⟨1,2⟩,[OB 1 1,OB 2 1,dq 6 1],[⟨Bw 1 1, -1,0⟩,⟨Bw 2 1, -1,0⟩]),
 (⟨1,3⟩,[⟨3,bG,⟨2,1,2,3⟩,0,0,0⟩,⟨7,bG,aM,0,46,1⟩],[⟨⟨2,1,2,3⟩,1,46⟩]),
 (⟨1,4⟩,[OB 1 3,⟨1,⟨1,0,av⟩,aM,0,0,0⟩,⟨7,bG,aM,0,25,2⟩,⟨1,⟨1,10000,av⟩,aM,0,0,0⟩,dq 6 1],[⟨Bw 1 3, -1,0⟩])]
def Chain:List Tk→Prop
 | []=>True
 |t::r=>(1≤t.kind∧t.kind≤11)∧(t.kind=7→(r.headD cV).kind=9)∧Chain r
theorem Ey {l:List Int} {t:Tk} {n:Nat} (h:j0 l=some (t,n)):t.kind=4:=by
 unfold j0 at h
 obtain ⟨x,_,hx⟩:=Rg.1 h
 cases hx;rfl
theorem Dx {l:List Int} {t:Tk} {n:Nat} (h:gS l=some (t,n)):8≤t.kind∧t.kind≤11:=by
 unfold gS at h
 split at h
 ·
  cases h;simp
 ·
  split at h
  ·
   cases h;simp
  ·
   split at h
   ·
    cases h;simp
   ·
    split at h
    ·
     cases h;simp
    ·
     cases h
theorem Dw {l:List Int} {t:Tk} {n:Nat} (h:ja l=some (t,n)):(1≤t.kind∧t.kind≤11)∧t.kind≠7:=by
 unfold ja at h
 split at h
 ·
  rename_i x hx
  cases h
  have:=Ey hx
  omega
 ·
  have:=Dx h
  omega
theorem CT {l:List Int} {t:Tk} {n:Nat} (h:gA l=some (t,n)):(1≤t.kind∧t.kind≤11)∧(t.kind=7→(l.drop n).headD 0=40):=by
 unfold gA at h
 split at h
 ·
  cases h
 ·
  split at h
  ·
   rename_i h1
   cases h
   exact ⟨by simp,fun _=>h1⟩
  ·
   split at h
   ·
    cases h;simp
   ·
    split at h
    ·
     cases h;simp
    ·
     split at h
     ·
      cases h
     ·
      split at h
      ·
       cases h
       simp only
       split<;>simp
      ·
       cases h;simp
theorem Ak {l:List Int} {t:Tk} {n:Nat} (h:bI l=some (t,n)):(1≤t.kind∧t.kind≤11)∧(t.kind=7→(l.drop n).headD 0=40):=by
 unfold bI at h
 split at h
 ·
  obtain ⟨x,_,hx⟩:=Rg.1 h
  cases hx;simp
 ·
  split at h
  ·
   obtain ⟨x,_,hx⟩:=Rg.1 h
   cases hx;simp
  ·
   split at h
   ·
    exact CT h
   ·
    have:=Dw h
    exact ⟨this.1,fun e=>absurd e this.2⟩
theorem mo (l:List Int):Fits l (bI l):=by
 intro t n h
 by_cases hd:aF (l.headD 0)=true
 ·
  unfold bI at h
  rw [if_pos hd,← uN] at h
  exact rF l t n h
 ·
  unfold bI at h
  rw [if_neg hd] at h
  split at h
  ·
   rename_i hq
   cases l with
   |nil=>cases hq
   |cons c r=>
    obtain ⟨⟨x,m⟩,hx,he⟩:=Rg.1 h
    cases he
    rw [List.tail_cons,Ar r.length r (Qq _)] at hx
    obtain ⟨k,hk,hk2⟩:=Option.bind_eq_some_iff.1 hx
    obtain ⟨y,_,hy⟩:=Rg.1 hk2
    cases hy
    have:=nV r.length r k (Qq _) hk
    simp only [QF]
    omega
  ·
   split at h
   ·
    exact wN l t n h
   ·
    unfold ja at h
    split at h
    ·
     rename_i x hx
     cases h
     exact xP l t n hx
    ·
     exact xc l t n h
theorem Aj {l:List Int} (h:l.headD 0=40): ∃ n,bI l=some (⟨9,0,av,aM,0⟩,n):=by
 unfold bI
 rw [h,if_neg (by decide),if_neg (by decide),if_neg (by decide),ja,lT (by omega)]
 simp only
 unfold gS
 rw [uL (by rw [h];decide) eF (by decide)]
 simp only [h,if_true]
 exact ⟨1,rfl⟩
theorem yJ {l:List Int} {f i:Nat} {r:List Tk} (h:bh bI l (f+1) i= .ok r) (h1:(l.drop i).headD 0=40):(r.headD cV).kind=9:=by
 simp only [bh] at h
 cases hd:l.drop i with
 |nil=>rw [hd] at h1;cases h1
 |cons c q=>
  rw [hd] at h1 h
  simp only [RT] at h1
  subst h1
  obtain ⟨n,hn⟩:=Aj (l:=40::q) rfl
  simp only [hn] at h
  rw [if_neg (by decide)] at h
  cases hr:bh bI l f (i+n) with
  |error e=>rw [hr] at h;cases h
  |ok r' =>rw [hr] at h;cases h;rfl
theorem ww {l:List Int}: ∀ (f i:Nat) (r:List Tk),l.length - i≤f→bh bI l f i= .ok r→Chain r:=by
 intro f
 induction f with
 |zero=>intro i r _ h;cases h;trivial
 |succ f ih=>
  intro i r hf h
  simp only [bh] at h
  cases hd:l.drop i with
  |nil=>rw [hd] at h;cases h;trivial
  |cons c q=>
   rw [hd] at h
   have hlen:(l.drop i).length=q.length+1:=by rw [hd];rfl
   rw [Qz] at hlen
   simp only at h
   split at h
   ·
    exact ih (i+1) r (by omega) h
   ·
    cases ht:bI (c::q) with
    |none=>rw [ht] at h;cases h
    |some x=>
     obtain ⟨t,n⟩:=x
     rw [ht] at h
     simp only at h
     have hfit:=mo _ t n ht
     cases hr:bh bI l f (i+n) with
     |error e=>rw [hr] at h;cases h
     |ok r' =>
      rw [hr] at h
      cases h
      have hk:=Ak ht
      refine ⟨hk.1,fun h7=> ?_,ih (i+n) r' (by omega) hr⟩
      have h40:=hk.2 h7
      rw [← hd,RN] at h40
      cases f with
      |zero=>
       have:l.drop (i+n)= []:=by rw [List.drop_eq_nil_iff];omega
       rw [this] at h40;cases h40
      |succ f=>exact yJ hr h40
theorem wu (l:List Int):Chain (bE bI l).1:=by
 unfold bE
 split
 ·
  trivial
 ·
  split
  ·
   trivial
  ·
   split
   ·
    rename_i r hr
    exact ww _ _ _ (by omega) hr
   ·
    trivial
theorem Chain.drop: ∀ {l:List Tk} (k:Nat),Chain l→Chain (l.drop k)
 |l,0,h=>h
 | [],k+1,h=>h
 |_::_,k+1,h=>Chain.drop k h.2.2
theorem Chain.name {l:List Tk} {fin:Int} (h:Chain l) (h7:(hdT fin l).kind=7):(hdT fin l.tail).kind=9:=by
 cases l with
 |nil=>cases h7
 |cons t r=>
  have h9:=h.2.1 h7
  cases r with
  |nil=>cases h9
  |cons u r=>exact h9
theorem Chain.kind {l:List Tk} {fin:Int} (h:Chain l):(hdT fin l).kind=0↔l= []:=by
 cases l with
 |nil=>exact ⟨fun _=>rfl,fun _=>rfl⟩
 |cons t r=>
  have:=h.1
  constructor
  ·
   intro e
   simp only [hdT,RT] at e
   omega
  ·
   intro e;cases e
end Go.SL
namespace Go.SL
open Go Go.Proofs
attribute [local irreducible] W WL WQ WG WA WX WLI WR WT WC VOp RW thn blk bF scp aR bk bJ aL FnIn FnP ceP
section
variable {w0:World} {s:az} {H:List Blk} {ty t' :TypeId} {x y:Operand}
theorem Gm {a b:Vl} {c:Bool} (h:decide (a=b)=c) (hx:ev s x=some (.agg (dr a).toArray)) (hy:ev s y=some (.agg (dr b).toArray)):VOp Tryz.prog w0 s H (.binOp .eql 127 x y t') ty (.bool c):=by
 have h1:=Df (w0:=w0) (H:=H) (ty:=ty) (t' :=t') hx hy
 rwa [FO,h] at h1
theorem wZ {a b:Rct} {c:Bool} (h:decide (a=b)=c) (hx:ev s x=some (.agg (bK a).toArray)) (hy:ev s y=some (.agg (bK b).toArray)):VOp Tryz.prog w0 s H (.binOp .eql 32 x y t') ty (.bool c):=by
 have h1:=Ok (w0:=w0) (H:=H) (ty:=ty) (t' :=t') hx hy
 rwa [FP,h] at h1
theorem nH {a b:Rct} {c:Bool} (h:decide (a=b)=c) (hx:ev s x=some (.agg (bK a).toArray)) (hy:ev s y=some (.agg (bK b).toArray)):VOp Tryz.prog w0 s H (.binOp .neq 32 x y t') ty (.bool (!c)):=by
 have h1:=Oe (w0:=w0) (H:=H) (ty:=ty) (t' :=t') hx hy
 rwa [FP,h] at h1
end
theorem DJ (a b:Rf) (w:World):ay Tryz.prog 114 [.agg (bf a).toArray,.agg (bf b).toArray] w (.bool (aQ a b)):=by
 refine aq Tryz.func114 rfl Tryz.ntmps114 rfl ?_
 repeat' (first|refine sT ?_|refine sM fun _=> ?_|(refine sC ?_ ?_<;>intro hb<;>try omega)|fail)
 all_goals ((refine rT1 ?_);((try simp only [← Int.not_lt] at*);simp_all [aQ, -Int.not_lt, -Int.not_le,← Int.not_lt]))
theorem ij (a:Rf) (w:World):ay Tryz.prog 320 [.agg (bf a).toArray] w (.agg (bK (Bw a.col a.row)).toArray):=by
 refine aq Tryz.func320 rfl Tryz.ntmps320 rfl ?_
 repeat' (first|refine sT ?_|refine sM fun _=> ?_|(refine sC ?_ ?_<;>intro hb<;>try omega)|fail)
 all_goals ((refine eRC ?_);rfl)
theorem iK {a:ByteArray} {i:Nat} (h:a.size≤i):bat a i=0:=by
 rw [bat,QI,RP (by rw [au];exact h)];rfl
theorem mE (a:ByteArray) (ha:a.size≤1000000) (i:Nat) (w:World):ay Tryz.prog 281 [.string a,.int .i64 (i:Int)] w (.bool (aF (bat a i))):=by
 refine aq Tryz.func281 rfl Tryz.ntmps281 rfl ?_
 have h0:=fun h:a.size≤i=>iK h
 generalize hc:bat a i=c at h0
 repeat' (first|(apply ak;exact rfl;apply aW (j:=i);exact rfl;exact rfl;omega)|(rw [hc])|refine sT ?_|refine sT2 ?_|refine sM fun _=> ?_|(refine sC ?_ ?_<;>intro hb<;>try omega)|fail)
 all_goals ((refine rT1 ?_);(try rw [h0 (by omega)]);simp_all [aF];try omega)
theorem lG (a:ByteArray) (ha:a.size≤1000000) (i:Nat) (w:World):ay Tryz.prog 284 [.string a,.int .i64 (i:Int)] w (.bool (bS (bat a i))):=by
 refine aq Tryz.func284 rfl Tryz.ntmps284 rfl ?_
 have h0:=fun h:a.size≤i=>iK h
 generalize hc:bat a i=c at h0
 repeat' (first|(apply ak;exact rfl;apply aW (j:=i);exact rfl;exact rfl;omega)|(rw [hc])|refine sT ?_|refine sT2 ?_|refine sM fun _=> ?_|(refine sC ?_ ?_<;>intro hb<;>try omega)|fail)
 all_goals ((refine rT1 ?_);(try rw [h0 (by omega)]);simp_all [bS];try omega)
def BI (c:Int):Int:=if bS c then upC c - 64 else 0
theorem o5 (c:Int) (h0:0≤c) (h1:c<256) (w:World):ay Tryz.prog 359 [.int .u8 c] w (.int .i64 (BI c)):=by
 refine aq Tryz.func359 rfl Tryz.ntmps359 rfl ?_
 repeat' (first|(apply ak (d:=10);exact rfl;apply dz (c:=c - 65);exact rfl;exact rfl;exact wrap_u8 (by omega) (by omega))|(apply ak (d:=20);exact rfl;apply dz (c:=c - 97);exact rfl;exact rfl;exact wrap_u8 (by omega) (by omega))|(apply ak (d:=11);exact rfl;apply bP (c:=c - 65);exact rfl;exact I64.wrap ⟨by omega,by omega⟩)|(apply ak (d:=21);exact rfl;apply bP (c:=c - 97);exact rfl;exact I64.wrap ⟨by omega,by omega⟩)|(apply ak (d:=12);exact rfl;apply eM;exact rfl;exact rfl;exact ⟨by omega,by omega⟩)|(apply ak (d:=22);exact rfl;apply eM;exact rfl;exact rfl;exact ⟨by omega,by omega⟩)|refine sT ?_|refine sM fun _=> ?_|(refine sC ?_ ?_<;>intro hb<;>try omega)|fail)
 all_goals
  (refine rT1 ?_)
  unfold BI upC
  first
   |(rw [if_pos ((gM c).2 (by omega)),if_pos (by omega)];congr 1;omega)
   |(rw [if_pos ((gM c).2 (by omega)),if_neg (by omega)];congr 1;omega)
   |(rw [if_neg (by rw [gM];omega)])
set_option maxHeartbeats 1000000 in
theorem jR (a:ByteArray) (ha:a.size≤1000000) (w:World):ay Tryz.prog 188 [.string a] w (.string (upB a)):=by
 refine aq Tryz.func188 rfl Tryz.ntmps188 rfl ?_
 repeat' (first|(apply lm;exact rfl;exact rfl;intro gb cap)|refine sT ?_|refine sM fun _=> ?_|(refine sC ?_ ?_<;>intro hb<;>try omega)|fail)
 refine ax [3] rfl (fun i:Nat=> [(4,.int .i64 (i:Int))]) (fun i=> [.byt gb 5 a.size cap ((((ap a).take i).map upC++(ap a).drop i).map (Value.int .u8))]) (fun i=>i≤a.size) (fun i=>a.size - i) 0 (by omega) sB ?_ ?_
 ·
  rw [nX];simp only [RI,RG,Qn,RM];exact mS
 intro i hi
 have hl:=au a
 by_cases hlt:i<a.size
 ·
  have hil:i<(ap a).length:=by omega
  have hok:=lQ a (ap a)[i] (Re hil)
  have hget:((((ap a).take i).map upC++(ap a).drop i).map (Value.int .u8))[0+i*1]? =some (.int .u8 (ap a)[i]):=by
   rw [QX,show 0+i*1=i by omega,Rj (by simp;omega)]
   simp [Sr (Nat.le_of_lt hil),RL]
  have hstep:97≤(ap a)[i]∧(ap a)[i]≤122→upC (ap a)[i]=(ap a)[i] - 32:=fun h=>by rw [upC,if_pos h]
  have hsame: ¬ (97≤(ap a)[i]∧(ap a)[i]≤122)→upC (ap a)[i]=(ap a)[i]:=fun h=>by rw [upC,if_neg h]
  have hupd:=ug upC (Value.int .u8) (ap a) i hil
  have hkeep: ∀ v,(((ap a).take i).map upC++(ap a).drop i).map (Value.int .u8)=v→upC (ap a)[i]=(ap a)[i]→v=(((ap a).take (i+1)).map upC++(ap a).drop (i+1)).map (Value.int .u8):=fun v hv hs=>by
   rw [← hupd,hs,← hv]
   rw [show 0+i*1=i by omega] at hget
   obtain ⟨h1,h2⟩:=QB.1 hget
   rw [← h2,List.set_getElem_self]
  generalize (ap a)[i]=c at hget hok hstep hsame hupd hkeep
  repeat' (first|(apply ak;exact rfl;apply aj;exact rfl;exact rfl;exact hlt)|(apply ak;exact rfl;apply jz;exact rfl;exact pK;exact hget)|(apply ak (d:=31);exact rfl;apply dz (c:=c - 32);exact rfl;exact rfl;exact wrap_u8 (by omega) (by omega))|(apply lp;exact rfl;exact rfl;exact pK;exact rfl;(simp;omega))|refine sT ?_|refine sS ?_|refine sW ?_|refine sN ?_|refine sWN ?_|refine sM fun _=> ?_|(refine sC ?_ ?_<;>intro hb<;>try omega)|(refine sCW ?_ ?_<;>intro hb<;>try omega)|fail)
  ·
   rw [show 0+i*1=i by omega,← hstep ⟨by assumption,by assumption⟩,hupd]
   exact ⟨i+1,hlt,by omega,sB,sB,mS⟩
  ·
   exact ⟨i+1,hlt,by omega,sB,sB,(by rw [← hkeep _ rfl (hsame (by omega))];exact mS)⟩
  ·
   exact ⟨i+1,hlt,by omega,sB,sB,(by rw [← hkeep _ rfl (hsame (by omega))];exact mS)⟩
 ·
  have e2:i=a.size:=by omega
  subst e2
  rw [QY (by omega),QK (by omega),Qr]
  repeat' (first|(apply ak (d:=34);exact rfl;apply qH;exact rfl;exact pK;(rw [Rc];omega))|refine sT ?_|refine sS ?_|refine sM fun _=> ?_|(refine sC ?_ ?_<;>intro hb<;>try omega)|fail)
  (refine rT1 ?_)
  rfl
structure DecP (l:List Int) (neg:Bool) (fr n:Nat) (D:List Int) (r:Int):Prop where
 negE:neg=decide (l.head? =some 45)
 frE:fr=if neg then 1 else 0
 nE:n=aD aF (l.drop fr)
 pos:n≠0
 len:D.length=n+4
 at1: ∀ k,k<n→D[k]? =l[fr+k]?
 at2: ∀ k,n≤k→k<n+4→D[k]? =some (l.getD (fr+k+1) 48)
 rnd:r=l.getD (fr+n+5) 48
 end_: ∀ k,fr+n<k→k<l.length→aF (l.getD k 0)=true
 res:fY l=if cE<bu D 0+(if 53≤r then 1 else 0) then (0,3) else (if neg then -(bu D 0+(if 53≤r then 1 else 0)) else bu D 0+(if 53≤r then 1 else 0),0)
theorem Ep (l:List Int) (i k:Nat) (d:Int):(l.drop i).getD k d=l.getD (i+k) d:=by
 rw [QI,QI,RL]
theorem DecP.dig {l:List Int} {neg:Bool} {fr n:Nat} {D:List Int} {r:Int} (h:DecP l neg fr n D r) {k:Nat} {c:Int} (hk:D[k]? =some c):48≤c∧c≤57:=by
 have hlt:k<n+4:=by
  have:=(QB.1 hk).1
  rw [h.len] at this;exact this
 rcases Sf k n with h1|h1
 ·
  rw [h.at1 k h1] at hk
  refine (eB c).1 (jB (l.drop fr) k c (by rw [← h.nE];exact h1) ?_)
  rw [RL];exact hk
 ·
  rw [h.at2 k h1 hlt] at hk
  injection hk with hk
  rcases Sf (fr+k+1) l.length with h2|h2
  ·
   have:=h.end_ (fr+k+1) (by omega) h2
   rw [QI,Ql h2] at this hk
   simp only [SF] at this hk
   rw [hk] at this
   exact (eB c).1 this
  ·
   rw [QI,RP h2] at hk
   simp only [Option.getD_none] at hk
   omega
theorem H4 (l:List Int) (neg:Bool) (hneg:neg=decide (l.head? =some 45)) (fr:Nat) (hfr:fr=if neg then 1 else 0) (n:Nat) (hn:n=aD aF (l.drop fr)) (e:Nat) (he:e=if l[fr+n]? =some 46 then fr+n+1+aD aF (l.drop (fr+n+1)) else fr+n):
  ((n=0∨e≠l.length∨e=fr+n+1)∧fY l=(0,4))∨(n≠0∧e=l.length∧e≠fr+n+1∧ ∃ D r,DecP l neg fr n D r):=by
 have hls:(if neg then l.tail else l)=l.drop fr:=by
  subst hfr
  cases neg<;>simp
 have hnl:n≤(l.drop fr).length:=hn ▸ bU aF _
 rw [Qz] at hnl
 have hfl:fr≤l.length:=by
  subst hfr
  cases neg with
  |false=>simp
  |true=>
   have:l.head? =some 45:=of_decide_eq_true hneg.symm
   cases l with
   |nil=>cases this
   |cons=>simp
 obtain ⟨rest,hrest⟩: ∃ rest,(l.drop fr).drop n=rest:=⟨_,rfl⟩
 have hr2:l.drop (fr+n)=rest:=by rw [← RN];exact hrest
 have hrl:rest.length=l.length - (fr+n):=by rw [← hr2,Qz]
 have hhead:rest.head? =l[fr+n]? :=by rw [← hr2,List.head?_drop]
 have htail:rest.tail=l.drop (fr+n+1):=by rw [← hr2,Ta]
 have hrt:aD aF rest.tail≤rest.tail.length:=bU _ _
 rw [Tz] at hrt
 rw [← hhead,← htail] at he
 obtain ⟨q,hq⟩: ∃ q,aD aF rest.tail=q:=⟨_,rfl⟩
 rw [hq] at he hrt
 have hdec: ∀ fc,(decide (1<rest.length) && (decide (rest.head? =some 46) && decide (q+1=rest.length)))=fc→fY l=if n=0∨(fc=false∧rest≠ []) then (0,4)
   else if cE<bu ((l.drop fr).take n++((if fc then rest.tail else [])++ [48,48,48,48,48]).take 4) 0+(if 53≤((if fc then rest.tail else [])++ [48,48,48,48,48]).getD 4 0 then 1 else 0) then (0,3)
   else (if neg then -(bu ((l.drop fr).take n++((if fc then rest.tail else [])++ [48,48,48,48,48]).take 4) 0+(if 53≤((if fc then rest.tail else [])++ [48,48,48,48,48]).getD 4 0 then 1 else 0)) else bu ((l.drop fr).take n++((if fc then rest.tail else [])++ [48,48,48,48,48]).take 4) 0+(if 53≤((if fc then rest.tail else [])++ [48,48,48,48,48]).getD 4 0 then 1 else 0),0):=by
  intro fc hfc
  unfold fY
  rw [← hneg]
  simp only [hls,← hn,hrest,hq,hfc]
 by_cases h0:n=0
 ·
  left
  refine ⟨.inl h0,?_⟩
  rw [hdec _ rfl,if_pos (.inl h0)]
 by_cases h46:rest.head? =some 46
 ·
  rw [if_pos h46] at he
  have hpos:0<rest.length:=by
   cases rest with
   |nil=>cases h46
   |cons=>simp
  by_cases hfin:1<rest.length∧q+1=rest.length
  ·
   right
   refine ⟨h0,by omega,by omega,?_⟩
   have hfrac:(decide (1<rest.length) && (decide (rest.head? =some 46) && decide (q+1=rest.length)))=true:=by simp [h46,hfin.1,hfin.2]
   have hd:=hdec _ hfrac
   simp only [if_true] at hd
   rw [if_neg (by simp [h0])] at hd
   have hall: ∀ k,fr+n<k→k<l.length→aF (l.getD k 0)=true:=fun k h1 h2=>by
    obtain ⟨j,rfl⟩: ∃ j,k=fr+n+1+j:=⟨k - (fr+n+1),by omega⟩
    have hj:j<aD aF rest.tail:=by omega
    refine jB rest.tail j _ hj ?_
    rw [htail,RL,QI,Ql h2];rfl
   have hp5: ∀ k,k<5→(rest.tail++ [48,48,48,48,48])[k]? =some (l.getD (fr+n+k+1) 48):=fun k hk=>by
    rw [show fr+n+k+1=fr+n+1+k by omega,← Ep,← htail]
    rw [QI]
    rcases Sf k rest.tail.length with h|h
    ·
     rw [RC h,Ql h];rfl
    ·
     rw [Rj h,RP h]
     have:k - rest.tail.length<5:=by omega
     rcases (by omega:k - rest.tail.length=0∨k - rest.tail.length=1∨k - rest.tail.length=2∨k - rest.tail.length=3∨k - rest.tail.length=4) with h|h|h|h|h<;>rw [h]<;>rfl
   refine ⟨(l.drop fr).take n++(rest.tail++ [48,48,48,48,48]).take 4,(rest.tail++ [48,48,48,48,48]).getD 4 0,hneg,hfr,hn,h0,?_,?_,?_,?_,hall,hd⟩
   ·
    simp only [Qk,QD,Qz,QF,SQ]
    omega
   ·
    intro k hk
    rw [RC (by simp;omega),Sx hk,RL]
   ·
    intro k h1 h2
    rw [Rj (by simp;omega)]
    rw [QD,Qz,Sr (by omega),Sx (by omega),hp5 _ (by omega)]
    congr 2;omega
   ·
    rw [QI,hp5 4 (by omega)];rfl
  ·
   left
   have hfrac:(decide (1<rest.length) && (decide (rest.head? =some 46) && decide (q+1=rest.length)))=false:=by
    simp only [h46,decide_true,QS,RF,decide_eq_false_iff_not]
    omega
   refine ⟨by omega,?_⟩
   rw [hdec _ hfrac,if_pos (.inr ⟨rfl,fun h=>by rw [h] at hpos;exact Nat.lt_irrefl _ hpos⟩)]
 ·
  rw [if_neg h46] at he
  have hfrac:(decide (1<rest.length) && (decide (rest.head? =some 46) && decide (q+1=rest.length)))=false:=by simp [h46]
  have hd:=hdec _ hfrac
  simp only [QZ,if_false] at hd
  by_cases hnil:rest= []
  ·
   right
   have hlen:fr+n=l.length:=by rw [hnil] at hrl;simp at hrl;omega
   refine ⟨h0,by omega,by omega,?_⟩
   rw [if_neg (by simp [h0,hnil])] at hd
   have hp5: ∀ k,k<5→(([]:List Int)++ [48,48,48,48,48])[k]? =some (l.getD (fr+n+k+1) 48):=fun k hk=>by
    have e0:l.getD (fr+n+k+1) 48=48:=by rw [QI,RP (by omega)];rfl
    rw [e0]
    rcases (by omega:k=0∨k=1∨k=2∨k=3∨k=4) with h|h|h|h|h<;>rw [h]<;>rfl
   refine ⟨(l.drop fr).take n++(([]:List Int)++ [48,48,48,48,48]).take 4,(([]:List Int)++ [48,48,48,48,48]).getD 4 0,hneg,hfr,hn,h0,?_,?_,?_,?_,fun k h1 h2=>by omega,hd⟩
   ·
    simp;omega
   ·
    intro k hk
    rw [RC (by simp;omega),Sx hk,RL]
   ·
    intro k h1 h2
    rw [Rj (by simp;omega)]
    rw [QD,Qz,Sr (by omega),Sx (by omega),hp5 _ (by omega)]
    congr 2;omega
   ·
    rw [QI,hp5 4 (by omega)];rfl
  ·
   left
   have:0<rest.length:=RQ.2 hnil
   refine ⟨by omega,?_⟩
   rw [hd,if_pos (.inr ⟨trivial,hnil⟩)]
end Go.SL
