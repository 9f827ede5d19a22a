/-
  Lemmas and walks, put together: Lq Lr Q1 Rw.
-/
import Derived.Test.YthefeclkaaocnaaGreatDoorKl16
import Derived.Test.YthefeclkaaocnaaGreatDoorKl17
set_option linter.unusedSimpArgs false
set_option linter.unusedVariables false
set_option maxRecDepth 20000
namespace Go.SL
open Go
theorem dN (c:Int):aC c=true↔48≤c∧c≤57:=by simp [aC]
theorem fT (c:Int):bH c=true↔(65≤c∧c≤90)∨(97≤c∧c≤122):=by simp [bH]
theorem IL (c:Int):bH c=false↔ ¬ ((65≤c∧c≤90)∨(97≤c∧c≤122)):=by rw [← fT];simp
theorem yD (c:Int):bH (upC c)=bH c:=by
 rw [Mp,fT,fT,upC]
 by_cases h:97≤c∧c≤122
 ·
  rw [if_pos h];omega
 ·
  rw [if_neg h]
theorem GG (c:Int):aC (upC c)=aC c:=by
 rw [Mp,dN,dN,upC]
 by_cases h:97≤c∧c≤122
 ·
  rw [if_pos h];omega
 ·
  rw [if_neg h]
theorem HS (c:Int):upC (upC c)=upC c:=by
 simp only [upC]
 split
 ·
  rw [if_neg (by omega)]
 ·
  rfl
theorem HT {c:Int} (h:aC c=true):upC c=c:=by
 simp only [aC,LM,decide_eq_true_eq] at h
 rw [upC,if_neg (by omega)]
theorem ng: ∀ l:List Int,(l.map upC).takeWhile bH=(l.takeWhile bH).map upC
 | []=>rfl
 |c::r=>by
  simp only [Mh,NY,yD]
  split
  ·
   rw [ng r];rfl
  ·
   rfl
theorem nW: ∀ l:List Int,(l.map upC).dropWhile bH=(l.dropWhile bH).map upC
 | []=>rfl
 |c::r=>by
  simp only [Mh,List.dropWhile_cons,yD]
  split
  ·
   rw [nW r]
  ·
   rfl
theorem pJ: ∀ (l:List Int) (v:Int),bk (l.map upC) v=bk l v
 | [],_=>rfl
 |c::r,v=>by simp only [Mh,bk,HS,pJ r]
theorem G3: ∀ l:List Int,(l.map upC).all aC=l.all aC
 | []=>rfl
 |c::r=>by simp only [Mh,NA,GG,G3 r]
theorem rI: ∀ {l:List Int},l.all aC=true→l.map upC=l
 | [],_=>rfl
 |c::r,h=>by
  simp only [NA,LM] at h
  simp only [Mh,HT h.1,rI h.2]
theorem IQ (l:List Int):((l.map upC).head? =some 48)↔(l.head? =some 48):=by
 cases l with
 |nil=>simp
 |cons c r=>
  simp only [Mh,List.head?_cons,Option.some.injEq,upC]
  split<;>omega
theorem G7 (l:List Int):bT (l.map upC)=bT l:=by
 unfold bT
 simp only [ng,nW,List.map_eq_nil_iff,IQ,G3,pJ]
 split
 ·
  rfl
 ·
  rename_i h
  have hd:(l.dropWhile bH).all aC=true:=by
   cases hh:(l.dropWhile bH).all aC with
   |true=>rfl
   |false=>exact absurd (.inr (.inr (.inr hh))) h
  rw [rI hd]
theorem oR {p:Int→Bool}: ∀ {l:List Int} {n:Nat},n≤aB p l→aB p (l.take n)=n
 | [],n,h=>by simp [aB] at h;subst h;rfl
 |c::r,0,_=>rfl
 |c::r,n+1,h=>by
  simp only [aB] at h
  split at h
  ·
   rename_i hc
   simp only [Mz,aB,hc,if_true]
   rw [oR (by omega)]
  ·
   omega
theorem nk {p:Int→Bool}: ∀ {l:List Int} {n:Nat},aB p l≤n→aB p (l.take n)=aB p l
 | [],n,_=>by simp
 |c::r,0,h=>by
  simp only [aB] at h
  split at h
  ·
   omega
  ·
   rename_i hc;simp [aB,hc]
 |c::r,n+1,h=>by
  simp only [aB] at h ⊢
  simp only [Mz,aB]
  split at h
  ·
   rename_i hc;simp only [hc,if_true];rw [nk (by omega)]
  ·
   rename_i hc;simp [hc]
theorem lg {l:List Int} (h:bN l≠0): ∃ r,l=46::r∧bN l=aB aC r:=by
 cases l with
 |nil=>exact absurd rfl h
 |cons c r=>
  by_cases hc:c=46
  ·
   subst hc;exact ⟨r,rfl,rfl⟩
  ·
   exact absurd (kv hc) h
theorem zg {l:List Int} {w p:Nat} (hw:aB aC l=w) (hp:bN (l.drop w)=p) (h0:w≠0) (h4:p≤4):
  fC (l.take (if p=0 then w else w+1+p))=if cf<bn (l.take w++(l.drop (w+1)).take p++List.replicate (4 - p) 48) 0 then (0,3) else (bn (l.take w++(l.drop (w+1)).take p++List.replicate (4 - p) 48) 0,0):=by
 have hwl:w≤l.length:=hw ▸ bM aC l
 obtain ⟨c,r,rfl⟩: ∃ c r,l=c::r:=by
  cases l with
  |nil=>simp [aB] at hw;omega
  |cons c r=>exact ⟨c,r,rfl⟩
 have hc:aC c=true:=iQ (c::r) 0 c (by omega) rfl
 have hc45:c≠45:=by simp only [aC,LM,decide_eq_true_eq] at hc;omega
 have hneg: ∀ n,0<n→decide (((c::r).take n).head? =some 45)=false:=by
  intro n hn
  cases n with
  |zero=>omega
  |succ n=>simp [hc45]
 by_cases hp0:p=0
 ·
  subst hp0
  rw [if_pos rfl]
  unfold fC
  have hrun:aB aC ((c::r).take w)=w:=oR (by omega)
  have hdrop:((c::r).take w).drop w= []:=by rw [List.drop_eq_nil_iff,LP];omega
  have htt:((c::r).take w).take w=(c::r).take w:=by rw [List.take_take,Nat.min_self]
  simp only [hneg w (by omega),MG,if_false,hrun,hdrop,htt]
  simp [h0]
 ·
  rw [if_neg hp0]
  obtain ⟨q,hq,hq2⟩:=lg (l:=(c::r).drop w) (by omega)
  have hpq:aB aC q=p:=by omega
  have hpl:p≤q.length:=hpq ▸ bM aC q
  have hlen:(c::r).length=w+1+q.length:=by
   have:=congrArg List.length hq
   rw [LL] at this
   simp only [L9] at this ⊢
   omega
  have hd1:(c::r).drop (w+1)=q:=by
   rw [← MK,hq];rfl
  have hrun:aB aC ((c::r).take (w+1+p))=w:=by rw [nk (by omega)];exact hw
  have hdrop:((c::r).take (w+1+p)).drop w=46::q.take p:=by
   rw [List.drop_take,hq,show w+1+p - w=p+1 by omega];rfl
  have htt:((c::r).take (w+1+p)).take w=(c::r).take w:=by rw [List.take_take,Nf (by omega)]
  have hrp:aB aC (q.take p)=p:=oR (by omega)
  have hlp:(q.take p).length=p:=by rw [LP];omega
  unfold fC
  simp only [hneg (w+1+p) (by omega),MG,if_false,hrun,hdrop,htt,List.tail_cons,hrp,hd1]
  have hfrac:(decide (1<(46::q.take p).length) && (decide ((46::q.take p).head? =some 46) && decide (p+1=(46::q.take p).length)))=true:=by
   simp only [L9,hlp,List.head?_cons,decide_true,Mi,Ms]
   simp;omega
  simp only [hfrac,if_true]
  have h5:(q.take p++ [48,48,48,48,48]).getD 4 0=48:=by
   rw [LW,MC (by omega),hlp]
   rcases (by omega:p=1∨p=2∨p=3∨p=4) with rfl|rfl|rfl|rfl<;>rfl
  have h6:(q.take p++ [48,48,48,48,48]).take 4=q.take p++List.replicate (4 - p) 48:=by
   rw [List.take_append,hlp,Mm (by omega)]
   rcases (by omega:p=1∨p=2∨p=3∨p=4) with rfl|rfl|rfl|rfl<;>rfl
  rw [if_neg (by simp [h0])]
  simp only [h5,h6]
  rw [if_neg (show ¬ (53:Int)≤48 by decide),Int.add_zero,Mk]
theorem rD (l:List Int):eH l=(jh l).map fun x=>(⟨1,x.1,av,aL,0⟩,x.2):=by
 unfold eH jh
 dsimp only
 split
 ·
  rfl
 ·
  rename_i h
  have h0:aB aC l≠0:=fun e=>h (.inl e)
  have h4:bN (l.drop (aB aC l))≤4:=by
   rcases MV 4 (bN (l.drop (aB aC l))) with h4|h4
   ·
    exact absurd (.inr h4) h
   ·
    exact h4
  rw [zg rfl rfl h0 h4]
  split
  ·
   rfl
  ·
   rfl
theorem xm (m:List Int):js (34::34::m)=(js m).map (34:: ·):=by
 rw [js.eq_def]
 simp
theorem xC: ∀ (n:Nat) (l:List Int),l.length≤n→i9 l=(cd l).bind fun k=>(js (l.take k)).map fun t=>(t,k+1):=by
 intro n
 induction n with
 |zero=>intro l h;have:l= []:=Me (by omega);subst this;rfl
 |succ n ih=>
  intro l h
  cases l with
  |nil=>rfl
  |cons c r=>
   simp only [L9] at h
   by_cases hc:c=34
   ·
    subst hc
    cases r with
    |nil=>rfl
    |cons d r' =>
     simp only [L9] at h
     by_cases hd:d=34
     ·
      subst hd
      rw [i9.eq_def,cd.eq_def]
      simp only [ne_eq,not_true,if_false,if_true]
      rw [ih r' (by omega)]
      cases hk:cd r' with
      |none=>rfl
      |some k=>
       simp only [ME,Option.bind_some]
       rw [Mz,Mz,xm]
       cases js (r'.take k)<;>rfl
     ·
      rw [i9.eq_def,cd.eq_def]
      simp [hd,js]
   ·
    rw [i9.eq_def,jm hc]
    simp only [ne_eq,hc,not_false_eq_true,if_true]
    rw [ih r (by omega)]
    cases hk:cd r with
    |none=>rfl
    |some k=>
     simp only [ME,Option.bind_some]
     rw [Mz,oQ hc]
     cases js (r.take k)<;>rfl
theorem El: ∀ (n:Nat) (l:List Int) (k:Nat),l.length≤n→cd l=some k→l[k]? =some 34∧ ∃ t,js (l.take k)=some t∧t.length≤k:=by
 intro n
 induction n with
 |zero=>intro l k h hk;have:l= []:=Me (by omega);subst this;cases hk
 |succ n ih=>
  intro l k h hk
  cases l with
  |nil=>cases hk
  |cons c r=>
   simp only [L9] at h
   by_cases hc:c=34
   ·
    subst hc
    cases r with
    |nil=>cases hk;exact ⟨rfl,[],rfl,LK _⟩
    |cons d r' =>
     simp only [L9] at h
     by_cases hd:d=34
     ·
      subst hd
      rw [cd.eq_def] at hk
      simp only [ne_eq,not_true,if_false,if_true] at hk
      cases hk' :cd r' with
      |none=>rw [hk'] at hk;cases hk
      |some j=>
       rw [hk'] at hk
       cases hk
       obtain ⟨h1,t,h2,h3⟩:=ih r' j (by omega) hk'
       refine ⟨h1,34::t,?_,by simp only [L9];omega⟩
       rw [Mz,Mz,xm,h2];rfl
     ·
      rw [cd.eq_def] at hk
      simp [hd] at hk
      subst hk
      exact ⟨rfl,[],rfl,LK _⟩
   ·
    rw [jm hc] at hk
    cases hk' :cd r with
    |none=>rw [hk'] at hk;cases hk
    |some j=>
     rw [hk'] at hk
     cases hk
     obtain ⟨h1,t,h2,h3⟩:=ih r j (by omega) hk'
     refine ⟨h1,c::t,?_,by simp only [L9];omega⟩
     rw [Mz,oQ hc,h2];rfl
theorem Fs {r:List Int} (hp:(34::r).all (fun c=>bp c)=true) (hl:r.length≤256):kU (34::r)=(i9 r).map fun x=>(⟨2,0,mkB x.1,aL,0⟩,x.2+1):=by
 unfold kU
 rw [xC r.length r (LK _)]
 simp only [MN,ne_eq,not_true,if_false,NG,MP]
 cases hk:cd r with
 |none=>rfl
 |some k=>
  obtain ⟨h1,t,h2,h3⟩:=El r.length r k (LK _) hk
  obtain ⟨hkl,h1⟩:=LV.1 h1
  have e1:(34::r).take (k+2)=34::r.take (k+1):=rfl
  have e2:r.take (k+1)=r.take k++ [34]:=by rw [LQ hkl,h1]
  have hall:(34::r.take (k+1)).all (fun c=>bp c)=true:=by
   rw [← e1]
   rw [MJ] at hp ⊢
   exact fun x hx=>hp x (MH hx)
  have e3:eY (34::r.take (k+1))=(t,0):=by
   unfold eY
   rw [hall]
   rw [if_neg (by rw [e2];simp [List.getLast?_cons])]
   have:((34::r.take (k+1)).drop 1).dropLast=r.take k:=by rw [NG,MP,e2,NW]
   rw [this,h2]
   simp only
   rw [if_neg (by omega)]
  simp only [e1,e3,Option.bind_some,h2,ME]
  simp
theorem Fh (l:List Int):upW l=(l.take (aB cC l)).map upC:=rfl
theorem Ln (l:List Int):bT (upW l)=bT (l.take (aB cC l)):=by rw [Fh,G7]
def il (l:List Int):Option (Tk × Nat):=match jl l with
 |some x=>some x
 |none=>fZ l
theorem rY {l:List Int} (h:l.headD 0≠35): ∀ (ns:List (List Int)) (k:Int),(∀ s∈ns,s.head? =some 35)→iW l ns k=none
 | [],_,_=>rfl
 |s::r,k,hs=>by
  have h1:=hs s LI
  rw [iW,if_neg,rY h r _ fun s hs' =>hs s (LX _ hs')]
  intro e
  cases s with
  |nil=>cases h1
  |cons a s=>
   cases h1
   cases l with
   |nil=>cases e
   |cons c l=>
    simp only [L9,Mz,Mh,List.cons.injEq] at e
    simp only [MN] at h
    have:=e.1
    simp only [upC] at this
    split at this<;>omega
theorem kF {l:List Int} (h:l.headD 0≠35):jl l=none:=by
 unfold jl
 rw [rY h dg 1 (by decide)]
 rfl
def nF:List Int:= [60,62,43,45,42,47,94,38,61,37]
theorem rz {l:List Int} (h:l.headD 0∉nF): ∀ ns:List (List Int × Int),(∀ s∈ns,∃ c,s.1.head? =some c∧c∈nF)→opL l ns=none
 | [],_=>rfl
 |(s,k)::r,hs=>by
  obtain ⟨a,h1,h2⟩:=hs (s,k) LI
  rw [opL,if_neg,rz h r fun s hs' =>hs s (LX _ hs')]
  intro e
  cases s with
  |nil=>cases h1
  |cons b s=>
   cases h1
   cases l with
   |nil=>cases e
   |cons c l=>
    simp only [L9,Mz,List.cons.injEq] at e
    simp only [MN] at h
    exact h (e.1 ▸ h2)
theorem mF {l:List Int} (h:l.headD 0∉nF) (h1:l.headD 0≠40) (h2:l.headD 0≠41) (h3:l.headD 0≠44):fZ l=none:=by
 unfold fZ
 rw [rz h dU (by decide)]
 simp only [h1,h2,h3,if_false]
theorem v8 {l:List Int} (h:aC (l.headD 0)=false):eH l=none:=by
 unfold eH
 have:aB aC l=0:=by
  cases l with
  |nil=>rfl
  |cons c r=>simp only [MN] at h;simp [aB,h]
 simp [this]
theorem qX {l:List Int} (h:l.headD 0≠34):kU l=none:=by
 unfold kU
 rw [if_pos h]
theorem mA {l:List Int} (h:bH (l.headD 0)=false):fK l=none:=by
 unfold fK
 rw [if_pos h]
def bz (l:List Int):Option (Tk × Nat):=
 if aC (l.headD 0) then (jh l).map fun x=>(⟨1,x.1,av,aL,0⟩,x.2)
 else if l.headD 0=34 then (i9 l.tail).map fun x=>(⟨2,0,mkB x.1,aL,0⟩,x.2+1)
 else if bH (l.headD 0) then fK l
 else il l
theorem pG (c:Int):c∈nF↔c=60∨c=62∨c=43∨c=45∨c=42∨c=47∨c=94∨c=38∨c=61∨c=37:=by simp [nF]
theorem Dx {l:List Int} (hp:l.all (fun c=>bp c)=true) (hl:l.length≤256):dF l=bz l:=by
 have hF:dF l=match eH l with
  |some x=>some x
  |none=>match kU l with
   |some x=>some x
   |none=>match fK l with
    |some x=>some x
    |none=>il l:=by
  unfold dF kW kE il
  cases eH l<;>simp only [kE]
  cases kU l<;>simp only
  cases fK l<;>simp only
  cases jl l<;>simp only
  cases fZ l<;>rfl
 rw [hF]
 unfold bz
 by_cases h1:aC (l.headD 0)=true
 ·
  have h1' :=(dN _).1 h1
  rw [if_pos h1,← rD,qX (by omega),mA ((IL _).2 (by omega)),il,kF (by omega),mF (by rw [pG];omega) (by omega) (by omega) (by omega)]
  cases eH l<;>rfl
 ·
  rw [if_neg h1]
  have h1' :aC (l.headD 0)=false:=by simpa using h1
  rw [v8 h1']
  by_cases h2:l.headD 0=34
  ·
   rw [if_pos h2]
   cases l with
   |nil=>cases h2
   |cons c r=>
    simp only [MN] at h2
    subst h2
    rw [Fs hp (by simp only [L9] at hl;omega),List.tail_cons,mA (by rw [MN];decide),il,kF (by rw [MN];decide),mF (by rw [MN];decide) (by rw [MN];decide) (by rw [MN];decide) (by rw [MN];decide)]
    cases i9 r<;>rfl
  ·
   rw [if_neg h2,qX h2]
   by_cases h3:bH (l.headD 0)=true
   ·
    have h3' :=(fT _).1 h3
    rw [if_pos h3,il,kF (by omega),mF (by rw [pG];omega) (by omega) (by omega) (by omega)]
    cases fK l<;>rfl
   ·
    rw [if_neg h3,mA (by simpa using h3)]
theorem Ab {l:List Int} (hp:l.all (fun c=>bp c)=true) (hl:l.length≤256): ∀ f i,bf dF l f i=bf bz l f i:=by
 intro f
 induction f with
 |zero=>intro i;rfl
 |succ f ih=>
  intro i
  simp only [bf]
  have h1:(l.drop i).all (fun c=>bp c)=true:=by
   rw [MJ] at hp ⊢
   exact fun x hx=>hp x (Nr hx)
  rw [Dx h1 (by rw [LL];omega)]
  simp only [ih]
theorem Aa (l:List Int):bG dF l=bG bz l:=by
 unfold bG
 split
 ·
  rfl
 ·
  rename_i hl
  cases h:l.findIdx? (fun c=> !bp c) with
  |some i=>rfl
  |none=>
   simp only
   rw [Ab _ (by omega)]
   rw [MU] at h
   rw [MJ]
   intro x hx
   have:=h x hx
   simpa using this
def Chain:List Tk→Prop
 | []=>True
 |t::r=>(1≤t.kind∧t.kind≤11)∧(t.kind=7→(r.headD cM).kind=9)∧Chain r
theorem Bl {l:List Int} {t:Tk} {n:Nat} (h:jl l=some (t,n)):t.kind=4:=by
 unfold jl at h
 obtain ⟨x,_,hx⟩:=My.1 h
 cases hx;rfl
theorem Aq {l:List Int} {t:Tk} {n:Nat} (h:fZ l=some (t,n)):8≤t.kind∧t.kind≤11:=by
 unfold fZ at h
 split at h
 ·
  cases h;simp
 ·
  split at h
  ·
   cases h;simp
  ·
   split at h
   ·
    cases h;simp
   ·
    split at h
    ·
     cases h;simp
    ·
     cases h
theorem Ak {l:List Int} {t:Tk} {n:Nat} (h:il l=some (t,n)):(1≤t.kind∧t.kind≤11)∧t.kind≠7:=by
 unfold il at h
 split at h
 ·
  rename_i x hx
  cases h
  have:=Bl hx
  omega
 ·
  have:=Aq h
  omega
theorem zK {l:List Int} {t:Tk} {n:Nat} (h:fK l=some (t,n)):(1≤t.kind∧t.kind≤11)∧(t.kind=7→(l.drop n).headD 0=40):=by
 unfold fK at h
 split at h
 ·
  cases h
 ·
  split at h
  ·
   rename_i h1
   cases h
   exact ⟨by simp,fun _=>h1⟩
  ·
   split at h
   ·
    cases h;simp
   ·
    split at h
    ·
     cases h;simp
    ·
     split at h
     ·
      cases h
     ·
      split at h
      ·
       cases h
       simp only
       split<;>simp
      ·
       cases h;simp
theorem xz {l:List Int} {t:Tk} {n:Nat} (h:bz l=some (t,n)):(1≤t.kind∧t.kind≤11)∧(t.kind=7→(l.drop n).headD 0=40):=by
 unfold bz at h
 split at h
 ·
  obtain ⟨x,_,hx⟩:=My.1 h
  cases hx;simp
 ·
  split at h
  ·
   obtain ⟨x,_,hx⟩:=My.1 h
   cases hx;simp
  ·
   split at h
   ·
    exact zK h
   ·
    have:=Ak h
    exact ⟨this.1,fun e=>absurd e this.2⟩
theorem kT (l:List Int):Fits l (bz l):=by
 intro t n h
 by_cases hd:aC (l.headD 0)=true
 ·
  unfold bz at h
  rw [if_pos hd,← rD] at h
  exact pH l t n h
 ·
  unfold bz at h
  rw [if_neg hd] at h
  split at h
  ·
   rename_i hq
   cases l with
   |nil=>cases hq
   |cons c r=>
    obtain ⟨⟨x,m⟩,hx,he⟩:=My.1 h
    cases he
    rw [List.tail_cons,xC r.length r (LK _)] at hx
    obtain ⟨k,hk,hk2⟩:=Option.bind_eq_some_iff.1 hx
    obtain ⟨y,_,hy⟩:=My.1 hk2
    cases hy
    have:=lU r.length r k (LK _) hk
    simp only [L9]
    omega
  ·
   split at h
   ·
    exact tU l t n h
   ·
    unfold il at h
    split at h
    ·
     rename_i x hx
     cases h
     exact uO l t n hx
    ·
     exact uk l t n h
theorem xy {l:List Int} (h:l.headD 0=40): ∃ n,bz l=some (⟨9,0,av,aL,0⟩,n):=by
 unfold bz
 rw [h,if_neg (by decide),if_neg (by decide),if_neg (by decide),il,kF (by omega)]
 simp only
 unfold fZ
 rw [rz (by rw [h];decide) dU (by decide)]
 simp only [h,if_true]
 exact ⟨1,rfl⟩
theorem vM {l:List Int} {f i:Nat} {r:List Tk} (h:bf bz l (f+1) i= .ok r) (h1:(l.drop i).headD 0=40):(r.headD cM).kind=9:=by
 simp only [bf] at h
 cases hd:l.drop i with
 |nil=>rw [hd] at h1;cases h1
 |cons c q=>
  rw [hd] at h1 h
  simp only [MN] at h1
  subst h1
  obtain ⟨n,hn⟩:=xy (l:=40::q) rfl
  simp only [hn] at h
  rw [if_neg (by decide)] at h
  cases hr:bf bz l f (i+n) with
  |error e=>rw [hr] at h;cases h
  |ok r' =>rw [hr] at h;cases h;rfl
theorem tu {l:List Int}: ∀ (f i:Nat) (r:List Tk),l.length - i≤f→bf bz l f i= .ok r→Chain r:=by
 intro f
 induction f with
 |zero=>intro i r _ h;cases h;trivial
 |succ f ih=>
  intro i r hf h
  simp only [bf] at h
  cases hd:l.drop i with
  |nil=>rw [hd] at h;cases h;trivial
  |cons c q=>
   rw [hd] at h
   have hlen:(l.drop i).length=q.length+1:=by rw [hd];rfl
   rw [LL] at hlen
   simp only at h
   split at h
   ·
    exact ih (i+1) r (by omega) h
   ·
    cases ht:bz (c::q) with
    |none=>rw [ht] at h;cases h
    |some x=>
     obtain ⟨t,n⟩:=x
     rw [ht] at h
     simp only at h
     have hfit:=kT _ t n ht
     cases hr:bf bz l f (i+n) with
     |error e=>rw [hr] at h;cases h
     |ok r' =>
      rw [hr] at h
      cases h
      have hk:=xz ht
      refine ⟨hk.1,fun h7=> ?_,ih (i+n) r' (by omega) hr⟩
      have h40:=hk.2 h7
      rw [← hd,MK] at h40
      cases f with
      |zero=>
       have:l.drop (i+n)= []:=by rw [List.drop_eq_nil_iff];omega
       rw [this] at h40;cases h40
      |succ f=>exact vM hr h40
theorem tr (l:List Int):Chain (bG bz l).1:=by
 unfold bG
 split
 ·
  trivial
 ·
  split
  ·
   trivial
  ·
   split
   ·
    rename_i r hr
    exact tu _ _ _ (by omega) hr
   ·
    trivial
theorem Chain.drop: ∀ {l:List Tk} (k:Nat),Chain l→Chain (l.drop k)
 |l,0,h=>h
 | [],k+1,h=>h
 |_::_,k+1,h=>Chain.drop k h.2.2
theorem Chain.name {l:List Tk} {fin:Int} (h:Chain l) (h7:(hdT fin l).kind=7):(hdT fin l.tail).kind=9:=by
 cases l with
 |nil=>cases h7
 |cons t r=>
  have h9:=h.2.1 h7
  cases r with
  |nil=>cases h9
  |cons u r=>exact h9
theorem Chain.kind {l:List Tk} {fin:Int} (h:Chain l):(hdT fin l).kind=0↔l= []:=by
 cases l with
 |nil=>exact ⟨fun _=>rfl,fun _=>rfl⟩
 |cons t r=>
  have:=h.1
  constructor
  ·
   intro e
   simp only [hdT,MN] at e
   omega
  ·
   intro e;cases e
end Go.SL
namespace Go.SL
open Go Go.Proofs
attribute [local irreducible] W WL WQ WG WA WX WLI WR WT WC VOp RW thn blk bS scp bq bF cj aS FnIn FnP ceP
instance fldTk1:FldT Tryz.prog 295 1 2 1:=⟨_,_,Tryz.underlying295,rfl,rfl,rfl⟩
instance fldTk4:FldT Tryz.prog 295 4 3 7:=⟨_,_,Tryz.underlying295,rfl,rfl,rfl⟩
def rC (sa:ByteArray) (A:Option Nat) (n cap k:Nat) (B:Option Nat) (m cb:Nat) (at_ e:Int):List Value:= [.string sa,sl A n cap,.int .i64 (k:Int),sl B m cb,.int .i64 at_,.int .i64 e]
def rB (g:Nat) (sa:ByteArray) (A:Option Nat) (cap:Nat) (toks:List Tk) (k:Nat) (B:Option Nat) (cb:Nat) (out:List Nd) (at_ e:Int):List Blk:=
 [.box g 342 (rC sa A toks.length cap k B out.length cb at_ e),.own A 295 8 toks.length cap (toks.flatMap aZ),.own B 174 11 out.length cb (out.flatMap bY)]
theorem K5 {A:Option Nat} {cap:Nat} {toks:List Tk} {w0 w:World} {H:List Blk} (hm:Mem w0 w H) (hi:In (.own A 295 8 toks.length cap (toks.flatMap aZ)) H) {k:Nat} (hk:k<toks.length): ∃ ga,A=some ga∧Ro w ga 0 (toks.flatMap aZ):=by
 obtain ⟨_,_,_,h4⟩:=(hm.on _ hi.mem).1
 cases A with
 |none=>obtain ⟨h5,_⟩:=h4;omega
 |some ga=>exact ⟨ga,rfl,Ro.of_own hm hi⟩
theorem yc (g:Nat) (sa:ByteArray) (hsa:sa.size≤1000) (A:Option Nat) (cap:Nat) (toks:List Tk) (ht1:toks.length≤1000) (k:Nat) (B:Option Nat) (m cb:Nat) (at_ e:Int) (w:World) (hr:Ro w g 0 (rC sa A toks.length cap k B m cb at_ e))
  (ht:k<toks.length→ ∃ ga,A=some ga∧Ro w ga 0 (toks.flatMap aZ)):ay Tryz.prog 258 [.pointer (some ⟨g,0,none⟩)] w (.agg (aZ (hdT (sa.size:Int) (toks.drop k))).toArray):=by
 refine aq Tryz.func258 rfl Tryz.ntmps258 rfl ?_
 unfold rC at hr
 by_cases hlt:k<toks.length
 ·
  rw [CN hlt]
  obtain ⟨ga,rfl,hra⟩:=ht hlt
  have hra' :=hra.elem uR k hlt
  repeat' (first|(apply fN (id:=1);kernel_rfl;kernel_rfl)|(apply aK;exact rfl;apply aI (o:=0) (off:=1);exact hr;exact rfl;exact rfl)|(apply aK;exact rfl;apply aI (o:=0) (off:=2);exact hr;exact rfl;exact rfl)|refine sT ?_|refine sS ?_|refine sQ ?_|refine sM fun _=> ?_|(refine sC ?_ ?_<;>intro hb<;>try omega)|(refine sCQ ?_ ?_<;>intro hb<;>try omega)|fail)
  all_goals try (exfalso;omega)
  rename_i g2
  refine j6 (id:=2) [10] [] [] (by kernel_rfl) (by kernel_rfl) (by kernel_rfl) mS ?_
  repeat' (first|(apply dm;(iterate 3 exact rfl);apply aI (o:=0) (off:=1);exact hr;exact rfl;exact rfl)|(apply dm;(iterate 3 exact rfl);apply aI (o:=0) (off:=2);exact hr;exact rfl;exact rfl)|(apply dm;(iterate 3 exact rfl);apply aj (j:=k);exact rfl;exact rfl;exact hlt)|(apply dm;(iterate 3 exact rfl);apply aA;exact rfl;exact hra';exact rfl)|refine sT ?_|refine sS ?_|refine sW ?_|refine sM fun _=> ?_|(refine sC ?_ ?_<;>intro hb<;>try omega)|(refine sCW ?_ ?_<;>intro hb<;>try omega)|fail)
  all_goals try (exfalso;omega)
  (refine eRC ?_)
  rfl
 ·
  rw [qq (by omega)]
  repeat' (first|(apply fN (id:=1);kernel_rfl;kernel_rfl)|(apply aK;exact rfl;apply aI (o:=0) (off:=1);exact hr;exact rfl;exact rfl)|(apply aK;exact rfl;apply aI (o:=0) (off:=2);exact hr;exact rfl;exact rfl)|(apply ak;exact rfl;apply aI (o:=0) (off:=0);exact hr;exact rfl;exact rfl)|refine sT ?_|refine sS ?_|refine sQ ?_|refine sM fun _=> ?_|(refine sC ?_ ?_<;>intro hb<;>try omega)|(refine sCQ ?_ ?_<;>intro hb<;>try omega)|fail)
  all_goals try (exfalso;omega)
  (refine eRC ?_)
  rfl
theorem rq {g:Nat} {sa:ByteArray} (hsa:sa.size≤1000) {A:Option Nat} {cap:Nat} {toks:List Tk} (ht1:toks.length≤1000) {k:Nat} {B:Option Nat} {cb:Nat} {out:List Nd} {at_ e:Int} {t:Tk} (hd:hdT (sa.size:Int) (toks.drop k)=t) {H:List Blk} {w0:World} (hH:MSub (rB g sa A cap toks k B cb out at_ e) H) (w:World) (hm:Mem w0 w H):
  ay Tryz.prog 258 [.pointer (some ⟨g,0,none⟩)] w (.agg (aZ t).toArray):=by
 have hm' :=hH.use hm
 rw [← hd]
 exact yc g sa hsa A cap toks ht1 k B out.length cb at_ e w (Ro.of_box hm' .hd) fun hlt=>K5 hm' (.tl .hd) hlt
theorem DM (op:Int) (w:World):ay Tryz.prog 324 [.int .i64 op] w (.tuple #[.int .i64 (fD op),.bool (decide (op=5)),.int .i64 (if fD op=0 then 2 else 0)]):=by
 refine aq Tryz.func324 rfl Tryz.ntmps324 rfl ?_
 repeat' (first|refine sT ?_|refine sM fun _=> ?_|(refine sC ?_ ?_<;>intro hb<;>try omega)|fail)
 all_goals ((refine rT3 ?_);simp_all [fD];try omega)
theorem J7 (q:Int) {g:Nat} {sa:ByteArray} (hsa:sa.size≤1000) {A:Option Nat} {cap:Nat} {toks:List Tk} (ht1:toks.length≤1000) {k:Nat} {B:Option Nat} {cb:Nat} {out:List Nd} {at_ e:Int} {t:Tk} (hd:hdT (sa.size:Int) (toks.drop k)=t) {H:List Blk} {w0:World} (hH:MSub (rB g sa A cap toks k B cb out at_ e) H) (w:World) (hm:Mem w0 w H):
  ay Tryz.prog 301 [.pointer (some ⟨g,0,none⟩),.int .i64 q] w (.bool (decide (t.kind=8∧fD t.num=q))):=by
 have hm0:=hH.use hm
 refine aq Tryz.func301 rfl Tryz.ntmps301 rfl ?_
 have hh: ∀ w' H',Mem w w' H' →ay Tryz.prog 258 [.pointer (some ⟨g,0,none⟩)] w' (.agg (aZ t).toArray):=fun w' H' hm' =>by
  rw [← hd]
  refine yc g sa hsa A cap toks ht1 k B out.length cb at_ e w' ((Ro.of_box hm0 .hd).next hm') fun hlt=> ?_
  obtain ⟨ga,h1,h2⟩:=K5 hm0 (.tl .hd) hlt
  exact ⟨ga,h1,h2.next hm'⟩
 repeat' (first|(apply aa (f:=258);exact rfl;exact rfl;(intro w' hm';exact hh w' _ hm'))|(apply aa (f:=324);exact rfl;exact rfl;(intro w' _;exact DM _ w'))|refine sT ?_|refine sS ?_|refine sM fun _=> ?_|(refine sC ?_ ?_<;>intro hb<;>try omega)|fail)
 all_goals ((refine rT1 ?_);simp_all)
theorem eG (g:Nat) (sa:ByteArray) (A:Option Nat) (n cap k:Nat) (B:Option Nat) (m cb:Nat) (at_ e a2 e2:Int) (R:List Blk) (w0:World):
  FnIn Tryz.prog 257 [.pointer (some ⟨g,0,none⟩),.int .i64 a2,.int .i64 e2] w0 (.box g 342 (rC sa A n cap k B m cb at_ e)::R) fun v H=>v= .tuple #[]∧H= .box g 342 (rC sa A n cap k B m cb (if e=0 then a2 else at_) (if e=0 then e2 else e))::R:=by
 refine dM Tryz.func257 rfl Tryz.ntmps257 rfl ?_
 unfold rC
 by_cases he:e=0
 ·
  subst he
  rw [if_pos rfl,if_pos rfl]
  repeat' (first|refine sT ?_|refine sS ?_|refine sM fun _=> ?_|(refine sC ?_ ?_<;>intro hb<;>try omega)|fail)
  all_goals first|(exfalso;omega)|exact gX eIO rfl mS ⟨rfl,rfl⟩
 ·
  rw [if_neg he,if_neg he]
  repeat' (first|refine sT ?_|refine sS ?_|refine sM fun _=> ?_|(refine sC ?_ ?_<;>intro hb<;>try omega)|fail)
  all_goals first|(exfalso;omega)|exact gX eIO rfl mS ⟨rfl,rfl⟩
theorem jP (c:Int) {g:Nat} {sa:ByteArray} (hsa:sa.size≤1000) {A:Option Nat} {cap:Nat} {toks:List Tk} (ht1:toks.length≤1000) {k:Nat} (hk1:k≤2000) {B:Option Nat} {cb:Nat} {out:List Nd} {at_ e:Int} {t:Tk} (hd:hdT (sa.size:Int) (toks.drop k)=t) (hc:t.kind=c) (R:List Blk) (w0:World):
  FnIn Tryz.prog 355 [.pointer (some ⟨g,0,none⟩),.int .u8 c] w0 (rB g sa A cap toks k B cb out at_ e++R) fun v H=>v= .tuple #[]∧H=rB g sa A cap toks (k+1) B cb out at_ e++R:=by
 refine dM Tryz.func355 rfl Tryz.ntmps355 rfl ?_
 have hh:=fun w hm=>rq (g:=g) hsa ht1 hd (B:=B) (cb:=cb) (out:=out) (at_:=at_) (e:=e) (A:=A) (cap:=cap) (w0:=w0) (H:=rB g sa A cap toks k B cb out at_ e++R) ⟨R,.refl _⟩ w hm
 unfold rB rC at hh ⊢
 repeat' (first|(apply ak;exact rfl;apply cJ;exact rfl;exact rfl)|(apply aa (f:=258);exact rfl;exact rfl;exact hh)|refine sT ?_|refine sS ?_|refine sN ?_|refine sM fun _=> ?_|(refine sC ?_ ?_<;>intro hb<;>try omega)|fail)
 all_goals first
  |(exfalso;omega)
  |exact gX eIO rfl (.refl _) ⟨rfl,rfl⟩
theorem rp (c:Int) {g:Nat} {sa:ByteArray} (hsa:sa.size≤1000) {A:Option Nat} {cap:Nat} {toks:List Tk} (ht1:toks.length≤1000) {k:Nat} {B:Option Nat} {cb:Nat} {out:List Nd} {at_ e:Int} {t:Tk} (hd:hdT (sa.size:Int) (toks.drop k)=t) (hc:t.kind≠c) (R:List Blk) (w0:World):
  FnIn Tryz.prog 355 [.pointer (some ⟨g,0,none⟩),.int .u8 c] w0 (rB g sa A cap toks k B cb out at_ e++R) fun v H=>v= .tuple #[]∧H=rB g sa A cap toks k B cb out (if e=0 then t.at_ else at_) (if e=0 then 4 else e)++R:=by
 refine dM Tryz.func355 rfl Tryz.ntmps355 rfl ?_
 have hh:=fun w hm=>rq (g:=g) hsa ht1 hd (B:=B) (cb:=cb) (out:=out) (at_:=at_) (e:=e) (A:=A) (cap:=cap) (w0:=w0) (H:=rB g sa A cap toks k B cb out at_ e++R) ⟨R,.refl _⟩ w hm
 unfold rB at hh ⊢
 repeat' (first|(apply ak;exact rfl;apply cJ;exact rfl;exact rfl)|(apply aa (f:=258);exact rfl;exact rfl;exact hh)|(apply aw (f:=257);exact rfl;exact rfl;exact FnIn.msub (eG g sa A _ cap k B _ cb at_ e _ _ _ _) (MSub.pick .hd (.refl _));rintro _ _ ⟨rfl,rfl⟩)|refine sT ?_|refine sS ?_|refine sN ?_|refine sM fun _=> ?_|(refine sC ?_ ?_<;>intro hb<;>try omega)|fail)
 all_goals first
  |(exfalso;omega)
  |exact gX eIO rfl (.refl _) ⟨rfl,rfl⟩
end Go.SL
namespace Go.SL
open Go
theorem oX: ∀ (l:List Int) {v:Int},(∀ c∈l,48≤c)→0≤v→0≤bn l v
 | [],_,_,h=>h
 |c::r,v,hl,h=>by
  rw [bn]
  refine oX r (fun d hd=>hl d (LX _ hd)) ?_
  have:=hl c LI
  omega
theorem jL {p:Int→Bool}: ∀ {l:List Int} {c:Int},c∈l.take (aB p l)→p c=true
 | [],_,h=>by cases h
 |d::r,c,h=>by
  rw [aB] at h
  split at h
  ·
   rename_i hd
   rw [Mz] at h
   rcases L7.1 h with rfl|h
   ·
    exact hd
   ·
    exact jL h
  ·
   cases h
theorem yq {l:List Int} {v:Int} {n:Nat} (h:jh l=some (v,n)):0≤v:=by
 unfold jh at h
 dsimp only at h
 split at h
 ·
  cases h
 ·
  split at h
  ·
   cases h
  ·
   cases h
   refine oX _ (fun c hc=> ?_) (M7 _)
   rw [Mo,Mo] at hc
   rcases hc with (hc|hc)|hc
   ·
    have:=jL hc
    rw [dN] at this
    exact this.1
   ·
    have hp:bN (l.drop (aB aC l))=0∨ ∃ r,l.drop (aB aC l)=46::r∧bN (l.drop (aB aC l))=aB aC r:=by
     by_cases h0:bN (l.drop (aB aC l))=0
     ·
      exact .inl h0
     ·
      exact .inr (lg h0)
    rcases hp with hp|⟨r,hr,hp⟩
    ·
     rw [hp] at hc;cases hc
    ·
     have hr' :l.drop (aB aC l+1)=r:=by rw [← ND,hr];rfl
     rw [hr',hp] at hc
     have:=jL hc
     rw [dN] at this
     exact this.1
   ·
    rw [List.eq_of_mem_replicate hc];decide
theorem uP (l:List Int): ∀ (ns:List (List Int)) {i c:Int} {n:Nat},0≤i→iW l ns i=some (c,n)→0≤c
 | [],_,_,_,_,h=>by cases h
 |s::r,i,c,n,hi,h=>by
  rw [iW] at h
  split at h
  ·
   cases h;exact hi
  ·
   exact uP l r (by omega) h
theorem CH (l:List Int): ∀ (ns:List (List Int × Int)) {c:Int} {n:Nat},opL l ns=some (c,n)→ ∃ s∈ns,s.2=c
 | [],_,_,h=>by cases h
 |(s,k)::r,c,n,h=>by
  rw [opL] at h
  split at h
  ·
   cases h;exact ⟨_,LI,rfl⟩
  ·
   obtain ⟨x,hx,he⟩:=CH l r h
   exact ⟨x,LX _ hx,he⟩
theorem DB {l:List Int} {t:Tk} {n:Nat} (h:il l=some (t,n)):0≤t.num:=by
 unfold il at h
 split at h
 ·
  rename_i x hx
  cases h
  unfold jl at hx
  obtain ⟨⟨c,m⟩,hy,hz⟩:=My.1 hx
  cases hz
  exact uP l _ (by decide) hy
 ·
  unfold fZ at h
  split at h
  ·
   rename_i hx
   cases h
   obtain ⟨s,hs,he⟩:=CH l _ hx
   have: ∀ s∈dU,0≤s.2:=by decide
   exact he ▸ this s hs
  ·
   split at h
   ·
    cases h;simp
   ·
    split at h
    ·
     cases h;simp
    ·
     split at h
     ·
      cases h;simp
     ·
      cases h
theorem C9 {l:List Int} {t:Tk} {n:Nat} (h:fK l=some (t,n)):0≤t.num:=by
 unfold fK at h
 split at h
 ·
  cases h
 ·
  split at h
  ·
   cases h;simp
  ·
   split at h
   ·
    cases h;simp
   ·
    split at h
    ·
     cases h;simp
    ·
     split at h
     ·
      cases h
     ·
      split at h
      ·
       cases h;simp
      ·
       cases h;simp
theorem Ac {l:List Int} {t:Tk} {n:Nat} (h:bz l=some (t,n)):0≤t.num:=by
 unfold bz at h
 split at h
 ·
  obtain ⟨⟨v,m⟩,hy,hx⟩:=My.1 h
  cases hx
  exact yq hy
 ·
  split at h
  ·
   obtain ⟨x,_,hx⟩:=My.1 h
   cases hx;simp
  ·
   split at h
   ·
    exact C9 h
   ·
    exact DB h
theorem xw {l:List Int}: ∀ (f i:Nat) (r:List Tk),bf bz l f i= .ok r→ ∀ t∈r,0≤t.num:=by
 intro f
 induction f with
 |zero=>intro i r h;cases h;exact fun _ h=>by cases h
 |succ f ih=>
  intro i r h
  simp only [bf] at h
  split at h
  ·
   cases h;exact fun _ h=>by cases h
  ·
   split at h
   ·
    exact ih _ _ h
   ·
    split at h
    ·
     cases h
    ·
     rename_i t n ht
     cases hr:bf bz l f (i+n) with
     |error e=>rw [hr] at h;cases h
     |ok r' =>
      rw [hr] at h
      cases h
      intro u hu
      rcases L7.1 hu with rfl|hu
      ·
       have:=Ac ht
       exact this
      ·
       exact ih _ _ hr u hu
theorem xv (l:List Int): ∀ t∈(bG bz l).1,0≤t.num:=by
 unfold bG
 split
 ·
  exact fun _ h=>by cases h
 ·
  split
  ·
   exact fun _ h=>by cases h
  ·
   split
   ·
    rename_i r hr
    exact xw _ _ _ hr
   ·
    exact fun _ h=>by cases h
def Wf (p:PS):Prop:=(∀ t∈p.l,0≤t.num)∧ ∀ n∈p.out,wfN n
theorem Wf.skip {p:PS} (h:Wf p):Wf p.skip:=⟨fun t ht=>h.1 t (List.mem_of_mem_tail ht),h.2⟩
theorem Wf.put {p:PS} (h:Wf p) {n:Nd} (hn:wfN n):Wf (p.put n):=⟨h.1,fun m hm=>by
 rcases Mo.1 hm with hm|hm
 ·
  exact h.2 m hm
 ·
  rw [Mv.1 hm];exact hn⟩
theorem IR {fin:Int} {l:List Tk} (h: ∀ t∈l,0≤t.num):0≤(hdT fin l).num:=by
 cases l with
 |nil=>exact M7 _
 |cons t r=>exact h t LI
theorem lI (k:Int) (r:Rct) (o:Int):wfN ⟨k,bE,r,o,0,0⟩:=⟨by simp [bE],M7 0,by simp⟩
theorem JG {t:Tk} (h:0≤t.num):wfN (kA t):=by
 unfold kA
 refine ⟨?_,M7 0,by simp⟩
 simp only
 split
 ·
  simp only;omega
 ·
  split
  ·
   simp
  ·
   split
   ·
    simp only;omega
   ·
    simp only;omega
theorem pZ (b:ByteArray):0≤(aV b).1∧(aV b).1≤255:=by
 have hb1:=gP cN b 0 (by omega)
 rw [gN] at hb1
 unfold aV
 split
 ·
  dsimp only;omega
 ·
  dsimp only;omega
theorem r9 {fin:Int} {name:Tk} {fn:Int} {n m:Nat} {p p' :PS} (h:da fin name fn n p=some (.ok (m,p'))) (hw:Wf p) (h0:0≤fn) (h1:fn≤255):Wf p' :=by
 unfold da at h
 dsimp only at h
 split at h
 ·
  cases h
 ·
  split at h
  ·
   cases h
  ·
   split at h
   ·
    cases h
   ·
    cases h
    exact hw.skip.put ⟨by simp [bE],h0,h1⟩
theorem CA (fin:Int): ∀ (f:Nat) (j:Job) (p:PS) (n:Nat) (p' :PS),bB fin f j p=some (.ok (n,p'))→Wf p→Wf p'
 |0,_,_,_,_,h,_=>by cases h
 |f+1,j,p,n,p',h,hw=>by
  have ih:=CA fin f
  cases j with
  |level k=>
   rw [bB] at h
   split at h
   ·
    exact ih _ _ _ _ h hw
   ·
    obtain ⟨n1,p1,h1,h2⟩:=bV h
    exact ih _ _ _ _ h2 (ih _ _ _ _ h1 hw)
  |loop k=>
   rw [bB] at h
   try dsimp only at h
   split at h
   ·
    obtain ⟨n1,p1,h1,h2⟩:=bV h
    exact ih _ _ _ _ h2 ((ih _ _ _ _ h1 hw.skip).put (lI _ _ _))
   ·
    cases h;exact hw
  |sign=>
   rw [bB] at h
   try dsimp only at h
   split at h
   ·
    obtain ⟨n1,p1,h1,h2⟩:=bV h
    cases h2
    exact (ih _ _ _ _ h1 hw.skip).put (lI _ _ _)
   ·
    obtain ⟨n1,p1,h1,h2⟩:=bV h
    split at h2
    ·
     obtain ⟨n2,p2,h3,h4⟩:=bV h2
     cases h4
     exact (ih _ _ _ _ h3 (ih _ _ _ _ h1 hw).skip).put (lI _ _ _)
    ·
     cases h2
     exact ih _ _ _ _ h1 hw
  |pct=>
   rw [bB] at h
   obtain ⟨n1,p1,h1,h2⟩:=bV h
   exact ih _ _ _ _ h2 (ih _ _ _ _ h1 hw)
  |pctl=>
   rw [bB] at h
   try dsimp only at h
   split at h
   ·
    exact ih _ _ _ _ h (hw.skip.put (lI _ _ _))
   ·
    cases h;exact hw
  |prim=>
   rw [bB] at h
   try dsimp only at h
   split at h
   ·
    cases h
    exact hw.skip.put (JG (IR hw.1))
   ·
    split at h
    ·
     cases h
     exact hw.skip.put (lI _ _ _)
    ·
     split at h
     ·
      obtain ⟨n1,p1,h1,h2⟩:=bV h
      split at h2
      ·
       cases h2
      ·
       cases h2
       exact (ih _ _ _ _ h1 hw.skip).skip
     ·
      split at h
      ·
       split at h
       ·
        cases h
       ·
        have hb:=pZ (hdT fin p.l).text
        split at h
        ·
         cases h
        ·
         split at h
         ·
          exact r9 h hw.skip.skip hb.1 hb.2
         ·
          obtain ⟨n1,p1,h1,h2⟩:=bV h
          exact r9 h2 (ih _ _ _ _ h1 hw.skip.skip) hb.1 hb.2
      ·
       cases h
  |args fn i=>
   rw [bB] at h
   try dsimp only at h
   have hgo: ∀ p0:PS,Wf p0→(if (hdT fin p0.l).kind=11 then bB fin f (.args fn (i+1)) p0.skip else some (.ok (i+1,p0)))=some (.ok (n,p'))→Wf p' :=by
    intro p0 hw0 h0
    split at h0
    ·
     exact ih _ _ _ _ h0 hw0.skip
    ·
     cases h0;exact hw0
   split at h
   ·
    obtain ⟨n1,p1,h1,h2⟩:=bV h
    exact hgo p1 (ih _ _ _ _ h1 hw) h2
   ·
    split at h
    ·
     cases h
    ·
     exact hgo _ (hw.skip.put (lI _ _ _)) h
end Go.SL
