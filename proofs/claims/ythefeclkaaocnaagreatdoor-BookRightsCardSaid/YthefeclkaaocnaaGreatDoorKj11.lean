/-
  Lemmas and walks, put together: B1 B2 B3 A2p B4.
-/
import Derived.Test.YthefeclkaaocnaaGreatDoorKj10
set_option linter.unusedSimpArgs false
set_option linter.unusedVariables false
set_option maxRecDepth 20000
namespace Go.SL
open Go Go.Proofs
attribute [local irreducible] W WL WQ WG WA WX WLI WR WT VOp thn blk bG scp bg bT aQ FnIn
theorem kr (c:Int) (w:World):ax Tryz.prog 279 [.int .u8 c] w (.bool (aC c)):=by
 refine aq Tryz.func279 rfl Tryz.ntmps279 rfl ?_
 repeat' (first|refine sT ?_|refine sM fun _=> ?_|(refine sC ?_ ?_<;>intro hb<;>try omega)|fail)
 all_goals ((refine rT1 ?_);((try simp only [← Int.not_lt] at*);simp_all [aC, -Int.not_lt, -Int.not_le,← Int.not_lt]))
theorem p8 (c:Int) (w:World):ax Tryz.prog 281 [.int .u8 c] w (.bool (bN c)):=by
 refine aq Tryz.func281 rfl Tryz.ntmps281 rfl ?_
 repeat' (first|refine sT ?_|refine sM fun _=> ?_|(refine sC ?_ ?_<;>intro hb<;>try omega)|fail)
 all_goals ((refine rT1 ?_);(try simp only [← Int.not_lt] at*);simp_all [bN, -Int.not_lt, -Int.not_le,← Int.not_lt];try omega)
theorem FU (c:Int) (w:World):ax Tryz.prog 312 [.int .u8 c] w (.bool (cL c)):=by
 refine aq Tryz.func312 rfl Tryz.ntmps312 rfl ?_
 repeat' (first|(apply aa;exact rfl;exact rfl;(intro w hm;exact p8 c w))|(apply aa;exact rfl;exact rfl;(intro w hm;exact kr c w))|refine sT ?_|refine sM fun _=> ?_|(refine sC ?_ ?_<;>intro hb<;>try omega)|fail)
 all_goals ((refine rT1 ?_);simp_all [cL])
def iz (p:Int→Bool) (l:List Int):List Int:=l.take (aB p l)
theorem zV {p:Int→Bool} {c:Int} {r:List Int} (h:p c=true):iz p (c::r)=c::iz p r:=by simp [iz,aB,h]
theorem zU {p:Int→Bool} {c:Int} {r:List Int} (h:p c=false):iz p (c::r)= []:=by simp [iz,aB,h]
theorem vK (p:Int→Bool) (l:List Int):(iz p l).length=aB p l:=by
 simp [iz,Ps (bR p l)]
set_option maxHeartbeats 1000000 in
theorem FI (a:ByteArray) (ha:a.size≤1000000) (i0:Nat) (hi0:i0≤a.size) (fis:FuncId) [Callable Tryz.prog fis] (p:Int→Bool) (hf: ∀ c w,ax Tryz.prog fis [.int .u8 c] w (.bool (p c))) (w0:World) (g4 g3 g5:Nat):
  Nt Tryz.prog 330 [.pointer (some ⟨g4,0,none⟩),.pointer (some ⟨g3,0,none⟩),.pointer (some ⟨g5,0,none⟩)] w0 [.box g4 3 [.int .i64 (i0:Int)],.box g3 9 [.string a],.box g5 248 [.func (.func fis) #[] #[]]] (iz p ((ap a).drop i0)) (fun c=> [.int .u8 c]):=by
 intro l I J H0 hy h0
 refine FnIn.msub (H' := [.box g4 3 [.int .i64 (i0:Int)],.box g3 9 [.string a],.box g5 248 [.func (.func fis) #[] #[]]]++H0) ?_ MSub.swap
 refine eC Tryz.func330 rfl Tryz.ntmps330 rfl ?_
 repeat' (first|refine sT ?_|refine sT2 ?_|refine sM fun _=> ?_|(refine sC ?_ ?_<;>intro hb<;>try omega)|fail)
 refine fC (fun y:Nat × List Int × List Blk=> [(0,.func (.yield l) #[] #[]),(1,.pointer (some ⟨g4,0,none⟩)),(2,.pointer (some ⟨g3,0,none⟩)),(3,.pointer (some ⟨g5,0,none⟩)),(5,.int .i64 (y.1:Int))])
  (fun y=> [.box g4 3 [.int .i64 (i0:Int)],.box g3 9 [.string a],.box g5 248 [.func (.func fis) #[] #[]]]++y.2.2)
  (fun y=>y.1≤a.size∧iz p ((ap a).drop i0)=y.2.1++iz p ((ap a).drop y.1)∧I y.2.1 y.2.2) (fun y=>a.size - y.1) (i0,[],H0) ⟨hi0,rfl,h0⟩ sB (MSub.refl _) ?_
 rintro ⟨i,pre,H1⟩ ⟨hi,hus,hI⟩
 dsimp only at hi hus hI ⊢
 by_cases hlt:i<a.size
 ·
  rw [aZ hlt] at hus
  have hfc:=fun w=>hf (bat a i) w
  cases hp:p (bat a i)
  ·
   rw [hp] at hfc
   rw [zU hp,NM] at hus
   repeat' (first|(apply ia;exact rfl;exact rfl;infer_instance;exact rfl;(intro w' _;exact hfc w'))|refine sT ?_|refine sI ?_|refine sQ ?_|refine sT2 ?_|refine sQ2 ?_|refine sN ?_|refine sNQ ?_|refine sD ?_|refine sM fun _=> ?_|(refine sC ?_ ?_<;>intro hb<;>try omega)|(refine sCQ ?_ ?_<;>intro hb<;>try omega)|fail)
   exact iX (.inr rfl) rfl (.refl _) ⟨H1,.inl (hus ▸ hI),MSub.swap⟩
  ·
   rw [hp] at hfc
   rw [zV hp] at hus
   repeat' (first|(apply ia;exact rfl;exact rfl;infer_instance;exact rfl;(intro w' _;exact hfc w'))|(apply Fb (id:=3))|(apply Lw;exact rfl;exact rfl;apply aV;exact rfl;exact rfl;exact hlt)|refine sT ?_|refine sI ?_|refine sQ ?_|refine sT2 ?_|refine sQ2 ?_|refine sN ?_|refine sNQ ?_|refine sD ?_|refine sM fun _=> ?_|(refine sC ?_ ?_<;>intro hb<;>try omega)|(refine sCQ ?_ ?_<;>intro hb<;>try omega)|fail)
   (with_reducible apply BN)
   ·
    exact rfl
   ·
    exact rfl
   ·
    exact rfl
   ·
    exact MSub.swapN
   ·
    exact fun w hm=>hy pre (bat a i) _ hus H1 [] hI w hm
   intro bb H2 hq
   cases bb
   ·
    repeat' (first|refine sT ?_|refine sI ?_|refine sT2 ?_|refine sM fun _=> ?_|(refine sC ?_ ?_<;>intro hb<;>try omega)|fail)
    exact iX eIO rfl (.refl _) ⟨H2,.inr ⟨_,hq⟩,by rw [NM];exact .refl _⟩
   ·
    repeat' (first|refine sT ?_|refine sI ?_|refine sT2 ?_|refine sN ?_|refine sM fun _=> ?_|(refine sC ?_ ?_<;>intro hb<;>try omega)|fail)
    refine ⟨(i+1,_,H2),⟨hlt,hus.trans (by rw [List.append_assoc];rfl),hq⟩,(by dsimp only;omega),sB,?_⟩
    exact MSub.swapN'
 ·
  have e:i=a.size:=by omega
  subst e
  have hl:=av a
  rw [N0 (i:=a.size) (by omega),show iz p []= [] from rfl,NM] at hus
  repeat' (first|refine sT ?_|refine sI ?_|refine sQ ?_|refine sT2 ?_|refine sQ2 ?_|refine sN ?_|refine sNQ ?_|refine sD ?_|refine sM fun _=> ?_|(refine sC ?_ ?_<;>intro hb<;>try omega)|(refine sCQ ?_ ?_<;>intro hb<;>try omega)|fail)
  exact iX (.inr rfl) rfl (.refl _) ⟨H1,.inl (hus ▸ hI),MSub.swap⟩
theorem Ip (a:ByteArray) (i0:Nat) (fis:FuncId) (w:World):
  aQ Tryz.prog 311 [.string a,.int .i64 (i0:Int),.func (.func fis) #[] #[]] w fun v H=> ∃ g4 g3 g5,v= .func (.func 330) #[] #[.pointer (some ⟨g4,0,none⟩),.pointer (some ⟨g3,0,none⟩),.pointer (some ⟨g5,0,none⟩)]∧H= [.box g4 3 [.int .i64 (i0:Int)],.box g3 9 [.string a],.box g5 248 [.func (.func fis) #[] #[]]]:=by
 refine aq Tryz.func311 rfl Tryz.ntmps311 rfl ?_
 repeat' (first|refine sT ?_|refine sM fun _=> ?_|(refine sC ?_ ?_<;>intro hb<;>try omega)|fail)
 rename_i g3 g4 g5
 exact dF (.inl rfl) rfl rfl (H' := [.box g4 3 [.int .i64 (i0:Int)],.box g3 9 [.string a],.box g5 248 [.func (.func fis) #[] #[]]]) mS ⟨g4,g3,g5,rfl,rfl⟩
set_option maxHeartbeats 1000000 in
theorem qP (a:ByteArray) (ha:a.size≤1000000) (i0:Nat) (hi0:i0≤a.size) (fis:FuncId) [Callable Tryz.prog fis] (p:Int→Bool) (hf: ∀ c w,ax Tryz.prog fis [.int .u8 c] w (.bool (p c))) (w:World):
  ax Tryz.prog 278 [.string a,.int .i64 (i0:Int),.func (.func fis) #[] #[]] w (.int .i64 (aB p ((ap a).drop i0):Int)):=by
 refine AA Tryz.func278 rfl Tryz.ntmps278 (by rfl) ?_
 refine yQ ?_
 repeat' (first|(apply aG;exact rfl;exact rfl;(intro w' hm;exact Ip a i0 fis w');(rintro v H' ⟨g4,g3,g5,rfl,rfl⟩))|refine sT ?_|refine sR ?_|refine sM fun _=> ?_|(refine sC ?_ ?_<;>intro hb<;>try omega)|(refine sCR ?_ ?_<;>intro hb<;>try omega)|fail)
 rename_i gn
 have hpl:=vK p ((ap a).drop i0)
 have hll:=av a
 have hrl:=bR p ((ap a).drop i0)
 rw [NP] at hrl
 rw [← hpl]
 refine GJ (ps:= [12]) (us:=iz p ((ap a).drop i0)) (encs:=fun c=> [.int .u8 c]) (Hc:= [.box g4 3 [.int .i64 (i0:Int)],.box g3 9 [.string a],.box g5 248 [.func (.func fis) #[] #[]]]) (HU0:= [.box gn 3 [.int .i64 0]]) rfl (fun _=>rfl) rfl (FI a ha i0 hi0 fis p hf w g4 g3 g5)
  (fun pre HU=>HU= [.box gn 3 [.int .i64 (pre.length:Int)]]) (fun _=>False) MSub.swap rfl ?_ ?_ ?_
 ·
  rintro l pre u post hus _ rfl F F'
  have hlu:=congrArg List.length hus
  simp only [ND,N8] at hlu
  change WR _ _ _ l _ _ ((12,Value.int .u8 u)::_) (.box gn 3 [.int .i64 (pre.length:Int)]::F)
  repeat' (first|refine sT ?_|refine sR ?_|refine sM fun _=> ?_|(refine sC ?_ ?_<;>intro hb<;>try omega)|(refine sCR ?_ ?_<;>intro hb<;>try omega)|fail)
  refine JN ⟨[.box gn 3 [.int .i64 (pre.length:Int)]],MSub.refl _,?_⟩
  change WR _ _ _ l _ _ _ (.box gn 3 [.int .i64 (pre.length:Int)]::F')
  repeat' (first|refine sT ?_|refine sR ?_|refine sN ?_|refine sM fun _=> ?_|(refine sC ?_ ?_<;>intro hb<;>try omega)|(refine sCR ?_ ?_<;>intro hb<;>try omega)|fail)
  refine Kt [.box gn 3 [.int .i64 ((pre.length+1:Nat):Int)]] ?_ (by rw [ND];rfl)
  change MSub (_::F') _
  exact mS
 ·
  rintro D _ rfl
  change bT _ _ _ _ _ (jW D:: .box gn 3 [.int .i64 ((iz p ((ap a).drop i0)).length:Int)]::_)
  repeat' (first|refine sT ?_|refine sR ?_|refine sM fun _=> ?_|(refine sC ?_ ?_<;>intro hb<;>try omega)|(refine sCR ?_ ?_<;>intro hb<;>try omega)|fail)
  refine Jo .hd ?_
  exact dF (.inl rfl) rfl rfl (MSub.nil _) rfl
 ·
  rintro D HU h
  exact h.elim
def Ck:Option (Tk × Nat)→Value
 |some (t,n)=> .tuple #[.agg (aY t).toArray,.int .i64 (n:Int)]
 |none=> .tuple #[.agg (aY cY).toArray,.int .i64 0]
def atT (i:Nat) (o:Option (Tk × Nat)):Option (Tk × Nat):=o.map fun x=>({ x.1 with at_:=(i:Int) },x.2)
def fu (l:List Int):Option (Tk × Nat):=
 let w:=aB aC l
 let p:=bS (l.drop w)
 let n:=if p=0 then w else w+1+p
 if w=0∨4<p then none
 else if (gC (l.take n)).2≠0 then none else some (⟨1,(gC (l.take n)).1,au,aM,0⟩,n)
theorem m8 {c:Int} {r:List Int} (h:c=46):bS (c::r)=aB aC r:=by subst h;rfl
theorem lZ {c:Int} {r:List Int} (h:c≠46):bS (c::r)=0:=by
 unfold bS
 split
 ·
  rename_i heq;injection heq with h1 h2;exact absurd h1 h
 ·
  rfl
set_option maxHeartbeats 1000000 in
theorem FR (a:ByteArray) (ha:a.size≤100000) (i:Nat) (hi:i≤a.size) (g:Nat) (w:World) (hr:Ro w g 0 [.string a]):
  ax Tryz.prog 243 [.pointer (some ⟨g,0,none⟩),.int .i64 (i:Int)] w (Ck (atT i (fu ((ap a).drop i)))):=by
 refine aq Tryz.func243 rfl Tryz.ntmps243 rfl ?_
 have hl:=av a
 have hL1:=qP a (by omega) i hi 279 aC kr
 have hwl:=bR aC ((ap a).drop i)
 rw [NP] at hwl
 generalize hw:aB aC ((ap a).drop i)=n at hL1 hwl
 generalize hpd:bS ((ap a).drop (i+n))=p
 have hN:fu ((ap a).drop i)=if n=0∨4<p then none else if (gC (((ap a).drop i).take (if p=0 then n else n+1+p))).2≠0 then none else some (⟨1,(gC (((ap a).drop i).take (if p=0 then n else n+1+p))).1,au,aM,0⟩,if p=0 then n else n+1+p):=by
  simp only [fu,hw,O0,hpd]
 rw [hN]
 have hL2:=fun h=>qP a (by omega) (i+n+1) h 279 aC kr
 have hcut: ∀ m,ap (sub a i (i+m))=((ap a).drop i).take m:=fun m=>by rw [dW,show i+m - i=m by omega]
 have hple:p≤a.size - (i+n) - 1:=by
  rw [← hpd]
  by_cases h:i+n<a.size
  ·
   rw [aZ h]
   by_cases h46:bat a (i+n)=46
   ·
    rw [m8 h46]
    have:=bR aC ((ap a).drop (i+n+1))
    rw [NP] at this
    omega
   ·
    rw [lZ h46];omega
  ·
   rw [N0 (by omega)];simp [bS]
 have hend: ∀ h:i+n+1<a.size,bat a (i+n)=46→(p=aB aC ((ap a).drop (i+n+1))):=fun h h46=>by
  rw [← hpd,aZ (by omega),m8 h46]
 have hno: ¬ (i+n+1<a.size∧bat a (i+n)=46∧aC (bat a (i+n+1))=true)→p=0:=fun h=>by
  by_cases h1:i+n<a.size
  ·
   by_cases h46:bat a (i+n)=46
   ·
    by_cases h2:i+n+1<a.size
    ·
     rw [hend h2 h46,aZ h2,aB,if_neg fun h3=>h ⟨h2,h46,h3⟩]
    ·
     rw [← hpd,aZ h1,m8 h46,N0 (by omega)];rfl
   ·
    rw [← hpd,aZ h1,lZ h46]
  ·
   rw [← hpd,N0 (by omega)];rfl
 have hyes:i+n+1<a.size→bat a (i+n)=46→aC (bat a (i+n+1))=true→0<p:=fun h h46 h3=>by
  rw [hend h h46,aZ h,aB,if_pos h3];omega
 repeat' (first|(apply ak;exact rfl;apply aH (o:=0) (off:=0);exact hr;exact rfl;exact rfl)|(apply aa;exact rfl;exact rfl;(intro w hm;exact hL1 w))|(apply aa;exact rfl;exact rfl;(intro w hm;exact kr _ w))|(refine Ec (id:=7) [0,1,4] rfl (ι:=Nat × Nat) (fun x=> [(7,.int .i64 (x.1:Int)),(5,.int .i64 (x.2:Int))]) (fun x=>x.1=p∧x.2=if p=0 then n else n+1+p) ?_ ?_)|(apply aa;exact rfl;exact rfl;(intro w hm;exact hL2 (by omega) w))|refine sT ?_|refine sT2 ?_|refine sN ?_|refine sM fun _=> ?_|(refine sC ?_ ?_<;>intro hb<;>try omega)|exact cT|fail)
 ·
  (refine eV ?_)
  rw [if_pos (.inl (by omega))];rfl
 ·
  rename_i h1 h2 h3
  refine bf ((aB aC ((ap a).drop (i+n+1)),n+(1+aB aC ((ap a).drop (i+n+1))))) ?_ sB mS
  have h5:=hyes (by omega) h3 hb
  have h6:=hend (by omega) h3
  rw [← h6]
  exact ⟨rfl,by rw [if_neg (by omega)];omega⟩
 ·
  rename_i h1 h2 h3
  refine bf ((0,n)) ?_ sB mS
  have:=hno fun h=>by rw [hb] at h;cases h.2.2
  exact ⟨this.symm,by rw [if_pos this]⟩
 ·
  refine bf ((0,n)) ?_ sB mS
  have:=hno fun h=>hb h.2.1
  exact ⟨this.symm,by rw [if_pos this]⟩
 ·
  refine bf ((0,n)) ?_ sB mS
  have:=hno fun h=>by omega
  exact ⟨this.symm,by rw [if_pos this]⟩
 rintro ⟨p',m⟩ ⟨rfl,hm⟩
 have hn0:n≠0:=by omega
 dsimp only at hm ⊢
 rw [← hm]
 by_cases h4:4<p'
 ·
  rw [if_pos (.inr h4)]
  repeat' (first|refine sT ?_|refine sT2 ?_|refine sM fun _=> ?_|(refine sC ?_ ?_<;>intro hb<;>try omega)|exact cT|fail)
  all_goals first|(exfalso;omega)|((refine eV ?_);rfl)
 ·
  rw [if_neg (by omega)]
  have him:i+m≤a.size:=by rw [hm];split<;>omega
  have hP:=rM (sub a i (i+m)) (by rw [bW _ him];omega)
  rw [hcut m] at hP
  generalize gC (((ap a).drop i).take m)=q at hP
  repeat' (first|(apply ak;exact rfl;apply aH (o:=0) (off:=0);exact hr;exact rfl;exact rfl)|(apply aa;exact rfl;exact rfl;(intro w hm;exact hP w))|refine sT ?_|refine sT2 ?_|refine sN ?_|refine sM fun _=> ?_|(refine sC ?_ ?_<;>intro hb<;>try omega)|exact cT|fail)
  ·
   (refine eV ?_)
   rw [if_pos hb];rfl
  ·
   (refine eV ?_)
   rw [if_neg hb];rfl
theorem lG (a:ByteArray) (j:Nat):((ap a).drop j).headD 0=bat a j:=by
 rw [bat,List.headD_eq_head?_getD,List.head?_drop,NX]
theorem x8 (a:ByteArray) (ha:a.size≤100000) (j:Nat) (g:Nat) (w:World) (hr:Ro w g 0 [.string a]):
  ax Tryz.prog 283 [.pointer (some ⟨g,0,none⟩),.int .i64 (j:Int)] w (.int .u8 (bat a j)):=by
 refine aq Tryz.func283 rfl Tryz.ntmps283 rfl ?_
 have hl:=av a
 repeat' (first|(apply ak;exact rfl;apply aH (o:=0) (off:=0);exact hr;exact rfl;exact rfl)|refine sT ?_|refine sT2 ?_|refine sN ?_|refine sM fun _=> ?_|(refine sC ?_ ?_<;>intro hb<;>try omega)|exact cT|fail)
 ·
  (refine rT1 ?_)
  rfl
 ·
  (refine rT1 ?_)
  have e:bat a j=0:=by rw [bat,NX,O1 (by omega)];rfl
  rw [e]
def upW (l:List Int):List Int:=(l.take (aB cL l)).map upC
theorem tM (l:List Int):(upW l).length=aB cL l:=by
 have:=bR cL l
 simp [upW];omega
theorem HB {l:List Int} (h:gV l):gV (upW l):=by
 intro c hc
 obtain ⟨d,hd,rfl⟩:=Pu.1 hc
 have:=h d (OO hd)
 unfold upC
 split<;>omega
theorem zT (a:ByteArray) (ha:a.size≤100000) (i:Nat) (hi:i≤a.size) (g:Nat) (w:World) (hr:Ro w g 0 [.string a]):
  ax Tryz.prog 282 [.pointer (some ⟨g,0,none⟩),.int .i64 (i:Int)] w (.string (mkB (upW ((ap a).drop i)))):=by
 refine aq Tryz.func282 rfl Tryz.ntmps282 rfl ?_
 have hl:=av a
 have hL:=qP a (by omega) i hi 312 cL FU
 have hwl:=bR cL ((ap a).drop i)
 rw [NP] at hwl
 unfold upW
 generalize aB cL ((ap a).drop i)=n at hL hwl
 have hU:=qu (sub a i (i+n)) (by rw [bW _ (by omega)];omega)
 have e:upB (sub a i (i+n))=mkB ((((ap a).drop i).take n).map upC):=by rw [upB,dW,show i+n - i=n by omega]
 rw [e] at hU
 repeat' (first|(apply ak;exact rfl;apply aH (o:=0) (off:=0);exact hr;exact rfl;exact rfl)|(apply aa;exact rfl;exact rfl;(intro w hm;exact hL w))|(apply aa;exact rfl;exact rfl;(intro w hm;exact hU w))|refine sT ?_|refine sT2 ?_|refine sN ?_|refine sM fun _=> ?_|(refine sC ?_ ?_<;>intro hb<;>try omega)|exact cT|fail)
 (refine rT1 ?_)
 rfl
def cD:List Int→Option Nat
 | []=>none
 |c::r=>if c≠34 then (cD r).map (· +1) else match r with
  | []=>some 0
  |d::r' =>if d=34 then (cD r').map (· +2) else some 0
theorem kv {c:Int} {r:List Int} (h:c≠34):cD (c::r)=(cD r).map (· +1):=by rw [cD.eq_def];simp [h]
def mQ (l:List Int):Option (Tk × Nat):=
 if l.headD 0≠34 then none
 else match cD (l.drop 1) with
  |none=>none
  |some k=>if (fQ (l.take (k+2))).2≠0 then none else some (⟨2,0,mkB (fQ (l.take (k+2))).1,aM,0⟩,k+2)
set_option maxHeartbeats 1000000 in
theorem Km (a:ByteArray) (ha:a.size≤100000) (i:Nat) (hi:i<a.size) (g:Nat) (w:World) (hr:Ro w g 0 [.string a]):
  ax Tryz.prog 244 [.pointer (some ⟨g,0,none⟩),.int .i64 (i:Int)] w (Ck (atT i (mQ ((ap a).drop i)))):=by
 refine aq Tryz.func244 rfl Tryz.ntmps244 rfl ?_
 have hl:=av a
 unfold mQ
 rw [lG,O0]
 by_cases h34:bat a i=34
 ·
  rw [if_neg (by omega)]
  have hcut: ∀ m,ap (sub a i (i+m))=((ap a).drop i).take m:=fun m=>by rw [dW,show i+m - i=m by omega]
  repeat' (first|(apply ak;exact rfl;apply aH (o:=0) (off:=0);exact hr;exact rfl;exact rfl)|refine sT ?_|refine sT2 ?_|refine sN ?_|refine sM fun _=> ?_|(refine sC ?_ ?_<;>intro hb<;>try omega)|exact cT|fail)
  all_goals try (exfalso;omega)
  rename_i g4
  generalize hC:cD ((ap a).drop (i+1))=C
  refine ay [0,1,4,5] rfl (fun j:Nat=> [(6,.int .i64 (j:Int))]) (fun _=> [.box g4 295 (aY cY)]) (fun j=>i+1≤j∧j≤a.size∧C=(cD ((ap a).drop j)).map (· +(j - (i+1)))) (fun j=>a.size - j) (i+1) ⟨by omega,by omega,by rw [hC];simp⟩ sB mS ?_
  rintro j ⟨hj1,hj2,hj3⟩
  by_cases hlt:j<a.size
  ·
   rw [aZ hlt] at hj3
   by_cases hq:bat a j=34
   ·
    by_cases hn:j+1<a.size∧bat a (j+1)=34
    ·
     rw [aZ hn.1,hq,hn.2] at hj3
     simp only [cD,ne_eq,not_true_eq_false,if_false,if_true,Qf] at hj3
     have hn1:=hn.1
     repeat' (first|(apply ak;exact rfl;apply aH (o:=0) (off:=0);exact hr;exact rfl;exact rfl)|refine sT ?_|refine sT2 ?_|refine sN ?_|refine sM fun _=> ?_|(refine sC ?_ ?_<;>intro hb<;>try omega)|exact cT|fail)
     all_goals try (exfalso;omega)
     refine ⟨j+2,?_,(by first|omega|(dsimp only;omega)),sB,sB,mS⟩
     refine ⟨by omega,by omega,?_⟩
     rw [hj3,show j+1+1=j+2 by omega]
     congr 1
     funext k
     simp only [Function.comp]
     omega
    ·
     have hC0:C=some (j - (i+1)):=by
      rw [hj3,hq]
      by_cases h1:j+1<a.size
      ·
       rw [aZ h1]
       have h2:bat a (j+1)≠34:=fun h=>hn ⟨h1,h⟩
       simp [cD,h2]
      ·
       rw [N0 (i:=j+1) (by omega)]
       simp [cD]
     rw [hC0]
     dsimp only
     have hm:j - (i+1)+2=j+1 - i:=by omega
     rw [hm]
     have hc:=hcut (j+1 - i)
     rw [show i+(j+1 - i)=j+1 by omega] at hc
     have hP:=DE (sub a i (j+1)) (by rw [bW _ (by omega)];omega)
     rw [hc] at hP
     generalize fQ (((ap a).drop i).take (j+1 - i))=q at hP
     repeat' (first|(apply ak;exact rfl;apply aH (o:=0) (off:=0);exact hr;exact rfl;exact rfl)|(apply aa;exact rfl;exact rfl;(intro w hm;exact hP w))|refine sT ?_|refine sT2 ?_|refine sN ?_|refine sM fun _=> ?_|(refine sC ?_ ?_<;>intro hb<;>try omega)|exact cT|fail)
     all_goals first|(exfalso;omega)|((refine eV ?_);first|(rw [if_pos hb];rfl)|(rw [if_neg hb];rfl))
   ·
    rw [kv hq,Qf] at hj3
    repeat' (first|(apply ak;exact rfl;apply aH (o:=0) (off:=0);exact hr;exact rfl;exact rfl)|refine sT ?_|refine sT2 ?_|refine sN ?_|refine sM fun _=> ?_|(refine sC ?_ ?_<;>intro hb<;>try omega)|exact cT|fail)
    all_goals try (exfalso;omega)
    refine ⟨j+1,?_,(by first|omega|(dsimp only;omega)),sB,sB,mS⟩
    refine ⟨by omega,by omega,?_⟩
    rw [hj3]
    congr 1
    funext k
    simp only [Function.comp]
    omega
  ·
   rw [N0 (by omega)] at hj3
   rw [hj3]
   dsimp only [cD,Option.map]
   repeat' (first|(apply ak;exact rfl;apply aH (o:=0) (off:=0);exact hr;exact rfl;exact rfl)|refine sT ?_|refine sT2 ?_|refine sN ?_|refine sM fun _=> ?_|(refine sC ?_ ?_<;>intro hb<;>try omega)|exact cT|fail)
   all_goals try (exfalso;omega)
   (refine eV ?_)
   rfl
 ·
  rw [if_pos (by omega)]
  repeat' (first|(apply ak;exact rfl;apply aH (o:=0) (off:=0);exact hr;exact rfl;exact rfl)|refine sT ?_|refine sT2 ?_|refine sN ?_|refine sM fun _=> ?_|(refine sC ?_ ?_<;>intro hb<;>try omega)|exact cT|fail)
  all_goals try (exfalso;omega)
  (refine eV ?_)
  rfl
theorem KI {l m:List Int} (hl:gV l) (hm:gV m):mkB l=mkB m↔l=m:=⟨fun h=>by rw [← nA hl,← nA hm,h],fun h=>by rw [h]⟩
theorem oQ (a b:ByteArray) (w:World):ax Tryz.prog 234 [.string a,.string b] w (.bool (decide ((ap a).take b.size=ap b))):=by
 refine aq Tryz.func234 rfl Tryz.ntmps234 rfl ?_
 have ha:=av a
 have hb' :=av b
 have e: ∀ h:b.size≤a.size,decide (sub a 0 b.size=b)=decide ((ap a).take b.size=ap b):=fun h=>by
  rw [decide_eq_decide,← sH]
  exact ⟨fun h=>by rw [h],fun h=>uH h⟩
 repeat' (first|refine sT ?_|refine sT2 ?_|refine sM fun _=> ?_|(refine sC ?_ ?_<;>intro hb<;>try omega)|fail)
 ·
  rw [e (by omega)]
  (refine rT1 ?_)
  rfl
 ·
  (refine rT1 ?_)
  rw [decide_eq_false]
  intro h
  have:=congrArg List.length h
  rw [NZ] at this
  omega
theorem yj (a b:ByteArray) (w:World):ax Tryz.prog 288 [.string a,.string b] w (.bool (decide ((ap a).take b.size=ap b))):=by
 refine aq Tryz.func288 rfl Tryz.ntmps288 rfl ?_
 repeat' (first|(apply aa;exact rfl;exact rfl;(intro w hm;exact oQ a b w))|refine sT ?_|refine sM fun _=> ?_|(refine sC ?_ ?_<;>intro hb<;>try omega)|fail)
 (refine rT1 ?_)
 rfl
theorem uC (c:Int) (w:World):ax Tryz.prog 285 [.int .i64 c] w (.bool (decide (1≤c) && decide (c≤5))):=by
 refine aq Tryz.func285 rfl Tryz.ntmps285 rfl ?_
 repeat' (first|refine sT ?_|refine sM fun _=> ?_|(refine sC ?_ ?_<;>intro hb<;>try omega)|fail)
 all_goals ((refine rT1 ?_);simp_all<;>omega)
theorem yt {k:Nat} (h1:1≤k) (h2:k≤5): ∃ s,dI.drop (k - 1)=s::dI.drop k∧cB.getD k au=mkB s∧gV s∧s.length≤10:=by
 rcases (by omega:k=1∨k=2∨k=3∨k=4∨k=5) with rfl|rfl|rfl|rfl|rfl<;>refine ⟨_,rfl,rfl,?_,by decide⟩<;>(intro c hc;simp at hc;omega)
theorem nj (l:List Int):(mkB l).size=l.length:=by simp [mkB,ByteArray.size]
def ku (l:List Int):Option (Tk × Nat):=(jV l dI 1).map fun x=>(⟨4,x.1,au,aM,0⟩,x.2)
set_option maxHeartbeats 1000000 in
theorem KY (a:ByteArray) (ha:a.size≤100000) (i:Nat) (hi:i≤a.size) (g:Nat) (w:World) (hr:Ro w g 0 [.string a]) (hW:Words w):
  ax Tryz.prog 246 [.pointer (some ⟨g,0,none⟩),.int .i64 (i:Int)] w (Ck (atT i (ku ((ap a).drop i)))):=by
 refine aq Tryz.func246 rfl Tryz.ntmps246 rfl ?_
 have hl:=av a
 unfold ku
 generalize hF:jV ((ap a).drop i) dI 1=F
 repeat' (first|refine sT ?_|refine sT2 ?_|refine sM fun _=> ?_|(refine sC ?_ ?_<;>intro hb<;>try omega)|fail)
 rename_i g4
 refine ay [0,1,4,5] rfl (fun k:Nat=> [(6,.int .i64 (k:Int))]) (fun _=> [.box g4 295 (aY cY)]) (fun k=>1≤k∧k≤6∧F=jV ((ap a).drop i) (dI.drop (k - 1)) k) (fun k=>6 - k) 1 ⟨by omega,by omega,hF.symm⟩ sB mS ?_
 rintro k ⟨hk1,hk2,hk3⟩
 by_cases hk:k≤5
 ·
  obtain ⟨s,e1,e2,e3,e4⟩:=yt hk1 hk
  have e5:fW (k:Int)=⟨4,(k:Int),au⟩:=by rw [fW,if_neg (by omega)]
  have hFa:=mq (k:Int)
  rw [e5] at hFa
  have hSh:=fun w' h=>Lj (k:Int) (by omega) (by omega) w' h
  rw [OZ,e2] at hSh
  rw [e1,jV] at hk3
  have hlit:(decide (1≤(k:Int)) && decide ((k:Int)≤5))=true:=by simp;omega
  have hL:=uC (k:Int)
  rw [hlit] at hL
  have hms:=nj s
  have hcut:ap (sub a i (i+s.length))=((ap a).drop i).take s.length:=by rw [dW,show i+s.length - i=s.length by omega]
  have hU:=fun h=>qu (sub a i (i+s.length)) h
  have hdec:upB (sub a i (i+s.length))=mkB s↔(((ap a).drop i).take s.length).map upC=s:=by
   rw [upB,hcut,KI _ e3]
   rw [← hcut,← p9]
   exact l8 _
  rw [← hms] at hU hdec hk3
  repeat' (first|(apply ak;exact rfl;apply aH (o:=0) (off:=0);exact hr;exact rfl;exact rfl)|(apply aa;exact rfl;exact rfl;(intro w hm;exact hL w))|(apply aa;exact rfl;exact rfl;(intro w hm;exact hFa w))|(apply aa;exact rfl;exact rfl;(intro w' hm;exact hSh w' (hW.next hm)))|(apply aa;exact rfl;exact rfl;(intro w hm;exact hU (by rw [bW _ (by omega)];omega) w))|refine sT ?_|refine sT2 ?_|refine sN ?_|refine sM fun _=> ?_|(refine sC ?_ ?_<;>intro hb<;>try omega)|fail)
  ·
   (refine eV ?_)
   rw [hk3,if_pos (hdec.1 hb)]
   rfl
  ·
   refine ⟨k+1,?_,(by first|omega|(dsimp only;omega)),sB,sB,mS⟩
   refine ⟨by omega,by omega,?_⟩
   rw [hk3,if_neg fun h=>hb (hdec.2 h)]
   rfl
  ·
   refine ⟨k+1,?_,(by first|omega|(dsimp only;omega)),sB,sB,mS⟩
   refine ⟨by omega,by omega,?_⟩
   rw [hk3,if_neg]
   ·
    rfl
   ·
    intro h
    have:=congrArg List.length h
    rw [OV,NZ,NP] at this
    omega
 ·
  have e:k=6:=by omega
  subst e
  rw [show dI.drop (6 - 1)= [] from rfl,jV] at hk3
  rw [hk3]
  have hL:=uC 6
  rw [show (decide (1≤(6:Int)) && decide ((6:Int)≤5))=false from rfl] at hL
  repeat' (first|(apply aa;exact rfl;exact rfl;(intro w hm;exact hL w))|refine sT ?_|refine sT2 ?_|refine sM fun _=> ?_|(refine sC ?_ ?_<;>intro hb<;>try omega)|fail)
  all_goals try (exfalso;omega)
  (refine eV ?_)
  rfl
def EF:List Value:=eP.map fun x=> .string (mkB x.1)
def EG:List Value:=eP.map fun x=> .int .i64 x.2
theorem xY (w:World):aQ Tryz.prog 287 [] w fun v H=> ∃ g g',v= .tuple #[sl (some g) 13 13,sl (some g') 13 13]∧H= [.own (some g) 9 1 13 13 EF,.own (some g') 2 1 13 13 EG]:=by
 refine aq Tryz.func287 rfl Tryz.ntmps287 rfl ?_
 repeat' (first|refine sT ?_|refine sM fun _=> ?_|(refine sC ?_ ?_<;>intro hb<;>try omega)|fail)
 rename_i g g'
 refine jh (.inl rfl) rfl rfl rfl (H' := [.own (some g) 9 1 13 13 EF,.own (some g') 2 1 13 13 EG]) ?_ ⟨g,g',rfl,rfl⟩
 exact mS
theorem Mi {k:Nat} (h:k<13): ∃ s n,eP.drop k=(s,n)::eP.drop (k+1)∧EF[k]? =some (.string (mkB s))∧EG[k]? =some (.int .i64 n)∧gV s∧s.length≤2:=by
 rcases (by omega:k=0∨k=1∨k=2∨k=3∨k=4∨k=5∨k=6∨k=7∨k=8∨k=9∨k=10∨k=11∨k=12) with rfl|rfl|rfl|rfl|rfl|rfl|rfl|rfl|rfl|rfl|rfl|rfl|rfl<;>refine ⟨_,_,rfl,rfl,rfl,?_,by decide⟩<;>(intro c hc;simp at hc;omega)
def gX (l:List Int):Option (Tk × Nat):=
 match opL l eP with
 |some (k,n)=>some (⟨8,k,au,aM,0⟩,n)
 |none=>if l.headD 0=40 then some (⟨9,0,au,aM,0⟩,1) else if l.headD 0=41 then some (⟨10,0,au,aM,0⟩,1) else if l.headD 0=44 then some (⟨11,0,au,aM,0⟩,1) else none
set_option maxHeartbeats 1000000 in
theorem Ko (a:ByteArray) (ha:a.size≤100000) (i:Nat) (hi:i<a.size) (g:Nat) (w:World) (hr:Ro w g 0 [.string a]):
  ax Tryz.prog 247 [.pointer (some ⟨g,0,none⟩),.int .i64 (i:Int)] w (Ck (atT i (gX ((ap a).drop i)))):=by
 refine aq Tryz.func247 rfl Tryz.ntmps247 rfl ?_
 have hl:=av a
 unfold gX
 rw [lG]
 generalize hF:opL ((ap a).drop i) eP=F
 repeat' (first|(apply aG;exact rfl;exact rfl;(intro w' hm;exact xY w');(rintro v H' ⟨gs,gn,rfl,rfl⟩))|refine sT ?_|refine sT2 ?_|refine sM fun _=> ?_|(refine sC ?_ ?_<;>intro hb<;>try omega)|fail)
 rename_i g4
 refine ay [0,1,4,5,7,14,15] rfl (fun k:Nat=> [(16,.int .i64 (k:Int))]) (fun _=> [.box g4 295 (aY cY),.own (some gs) 9 1 13 13 EF,.own (some gn) 2 1 13 13 EG]) (fun k=>k≤13∧F=opL ((ap a).drop i) (eP.drop k)) (fun k=>13 - k) 0 ⟨by omega,hF.symm⟩ sB mS ?_
 rintro k ⟨hk2,hk3⟩
 by_cases hk:k<13
 ·
  obtain ⟨s,m,e1,e2,e3,e4,e5⟩:=Mi hk
  rw [e1,opL] at hk3
  have hms:=nj s
  have hP:=yj (sub a i a.size) (mkB s)
  rw [n8,nA e4,hms] at hP
  repeat' (first|(apply ak;exact rfl;apply aH (o:=0) (off:=0);exact hr;exact rfl;exact rfl)|(apply aa;exact rfl;exact rfl;(intro w hm;exact hP w))|(apply ak;exact rfl;apply aj (j:=k);exact rfl;exact rfl;exact hk)|(apply ak;exact rfl;apply bF;exact rfl;exact pK;(rw [show 0+k*1=k by omega];first|exact e2|exact e3))|refine sT ?_|refine sT2 ?_|refine sN ?_|refine sM fun _=> ?_|(refine sC ?_ ?_<;>intro hb<;>try omega)|fail)
  ·
   (refine eV ?_)
   rw [hk3,if_pos hb,hms]
   rfl
  ·
   refine ⟨k+1,?_,(by first|omega|(dsimp only;omega)),sB,sB,mS⟩
   exact ⟨hk,by rw [hk3,if_neg hb]⟩
 ·
  have e:k=13:=by omega
  subst e
  rw [show eP.drop 13= [] from rfl,opL] at hk3
  subst hk3
  repeat' (first|(apply ak;exact rfl;apply aH (o:=0) (off:=0);exact hr;exact rfl;exact rfl)|refine sT ?_|refine sT2 ?_|refine sN ?_|refine sM fun _=> ?_|(refine sC ?_ ?_<;>intro hb<;>try omega)|fail)
  all_goals try (exfalso;omega)
  all_goals
   (refine eV ?_)
   simp_all
   try rfl
end Go.SL
namespace Go.SL
open Go
theorem ui {p:Pc} {c:Int} (h:bN c=true):bV p c=kn p (upC c):=by
 simp only [bN,Pn,NK,decide_eq_true_eq] at h
 rw [bV,if_pos]
 unfold upC
 split<;>omega
theorem gH {p:Pc} {c:Int} (h:aC c=true):bV p c=fU p c:=by
 simp only [aC,NK,decide_eq_true_eq] at h
 exact uj h.1 h.2
theorem l3 {p:Pc} {c:Int} (h:bN c=false) (h2:aC c=false):(bV p c).ok=false:=by
 simp only [bN,aC,PA,OQ,decide_eq_false_iff_not] at h h2
 rw [wI (by omega) (by omega) (by omega)]
theorem CR {p:Pc} (h:p.ok=false) (c:Int):(bV p c).ok=false:=by
 unfold bV
 split
 ·
  simp [kn,h]
 ·
  split
  ·
   simp [fU,h]
  ·
   rfl
theorem nD: ∀ (l:List Int) {p:Pc},p.ok=false→(l.foldl bV p).ok=false
 | [],_,h=>h
 |c::r,_,h=>nD r (CR h c)
theorem Ay: ∀ (l:List Int) (p:Pc),(∀ c∈l,bN c=true)→p.m1=0→l.foldl bV p=⟨p.m0+l.length,0,bh l p.v0,p.v1,p.ok⟩
 | [],p,_,h=>by obtain ⟨a,b,c,d,e⟩:=p;simp only at h;subst h;simp [bh]
 |c::r,p,hl,h=>by
  rw [PH,ui (hl c NI),Ay r _ (fun d hd=>hl d (NQ _ hd)) (by simp [kn,h])]
  simp only [kn,h,bh,decide_true,Qk,N8,Pc.mk.injEq,true_and,and_true]
  refine ⟨by push_cast;omega,?_⟩
  rw [show 26*p.v0+(upC c - 65)+1=26*p.v0+(upC c - 64) by omega]
theorem uM: ∀ (l:List Int) (p:Pc),(∀ c∈l,aC c=true)→0<p.m1→l.foldl bV p=⟨p.m0,p.m1+l.length,p.v0,mD l p.v1,p.ok⟩
 | [],p,_,_=>by obtain ⟨a,b,c,d,e⟩:=p;simp [mD]
 |c::r,p,hl,h=>by
  rw [PH,gH (hl c NI),uM r _ (fun d hd=>hl d (NQ _ hd)) (by simp [fU];omega)]
  simp only [fU,h,mD,decide_true,Bool.or_true,Qk,N8,Pc.mk.injEq,true_and,and_true]
  push_cast;omega
theorem ph: ∀ (l:List Int) (p:Pc),(l.all aC=false)→0<p.m1→(l.foldl bV p).ok=false
 | [],_,h,_=>by simp at h
 |c::r,p,h,hm=>by
  rw [PH]
  cases hd:aC c
  ·
   apply nD
   cases hl:bN c
   ·
    exact l3 hl hd
   ·
    rw [ui hl]
    simp only [kn]
    rw [decide_eq_false (by omega)]
    simp
  ·
   rw [PP,hd,O8] at h
   apply ph r _ h
   rw [gH hd]
   simp only [fU];omega
theorem l7: ∀ (l:List Int) {v:Int},(∀ c∈l,bN c=true)→0≤v→(l≠ []∨1≤v)→1≤bh l v
 | [],v,_,_,h=>by rcases h with h|h;exact absurd rfl h;exact h
 |c::r,v,hl,h0,_=>by
  have hc:=hl c NI
  simp only [bN,Pn,NK,decide_eq_true_eq] at hc
  have hu:65≤upC c:=by unfold upC;split<;>omega
  simp only [bh]
  exact l7 r (fun d hd=>hl d (NQ _ hd)) (by omega) (.inr (by omega))
theorem zy: ∀ (l:List Int) {v:Int},(∀ c∈l,aC c=true)→1≤v→1≤mD l v
 | [],_,_,h=>h
 |c::r,v,hl,h=>by
  have hc:=hl c NI
  simp only [aC,NK,decide_eq_true_eq] at hc
  simp only [mD]
  exact zy r (fun d hd=>hl d (NQ _ hd)) (by omega)
theorem oP {p:Int→Bool}: ∀ {l:List Int} {c:Int},c∈l.takeWhile p→p c=true
 |d::r,c,h=>by
  rw [PF] at h
  split at h
  ·
   rename_i hp
   rcases NS.1 h with rfl|h
   ·
    exact hp
   ·
    exact oP h
  ·
   cases h
theorem JQ (l:List Int):xe l=bX l:=by
 unfold xe bX
 dsimp only
 generalize ha:l.takeWhile bN=a
 generalize hd:l.dropWhile bN=d
 have hl:l=a++d:=by rw [← ha,← hd,List.takeWhile_append_dropWhile]
 have hal: ∀ c∈a,bN c=true:=fun c hc=>oP (ha ▸ hc)
 have hp:rW l=d.foldl bV ⟨a.length,0,bh a 0,0,true⟩:=by
  rw [rW,hl,Qu,Ay a pc0 hal rfl]
  simp [pc0]
 rw [hp]
 cases d with
 |nil=>simp
 |cons c r=>
  have hcl:bN c=false:=by
   cases hq:bN c
   ·
    rfl
   ·
    exfalso
    have hne:l.dropWhile bN≠ []:=by rw [hd];simp
    have:=List.head_dropWhile_not bN hne
    simp only [hd,List.head_cons] at this
    rw [hq] at this;cases this
  rw [PH]
  by_cases ha0:a= []
  ·
   subst ha0
   have:(List.foldl bV (bV ⟨(([]:List Int).length:Int),0,bh [] 0,0,true⟩ c) r).ok=false∨(List.foldl bV (bV ⟨(([]:List Int).length:Int),0,bh [] 0,0,true⟩ c) r).m0=0∨(List.foldl bV (bV ⟨(([]:List Int).length:Int),0,bh [] 0,0,true⟩ c) r).m1=0:=by
    cases hdc:aC c
    ·
     exact .inl (nD r (l3 hcl hdc))
    ·
     cases hr:r.all aC
     ·
      left
      apply ph r _ hr
      rw [gH hdc];simp [fU]
     ·
      right;left
      rw [uM r _ (by simpa using hr) (by rw [gH hdc];simp [fU])]
      rw [gH hdc];simp [fU]
   rw [if_pos this,if_pos (show (([]:List Int)= []∨_) from .inl rfl)]
  ·
   have hlen:0<(a.length:Int):=by
    have:=O2.2 ha0
    omega
   cases hdc:aC c
   ·
    rw [if_pos (.inl (nD r (l3 hcl hdc))),if_pos (.inr (.inr (.inr (by simp [hdc]))))]
   ·
    rw [gH hdc]
    by_cases h48:c=48
    ·
     rw [if_pos (.inl (nD r (by simp [fU,h48]))),if_pos (.inr (.inr (.inl (by simp [h48]))))]
    ·
     cases hr:r.all aC
     ·
      rw [if_pos (.inl (ph r _ hr (by simp [fU]))),if_pos (.inr (.inr (.inr (by simp [hr]))))]
     ·
      have hr' : ∀ x∈r,aC x=true:=by simpa using hr
      have hp2:List.foldl bV (fU ⟨a.length,0,bh a 0,0,true⟩ c) r=⟨a.length,1+r.length,bh a 0,mD (c::r) 0,true⟩:=by
       rw [uM r _ hr' (by simp [fU])]
       simp [fU,h48,mD]
      rw [hp2,if_neg (c:=(a= []∨_)) (by simp [ha0,h48,hdc,hr])]
      have hd2:=hdc
      simp only [aC,NK,decide_eq_true_eq] at hd2
      have h1:=l7 a hal (OW 0) (.inl ha0)
      have h3:1≤mD (c::r) 0:=zy r (v:=min (10*0+(c - 48)) 1025) hr' (by omega)
      generalize mD (c::r) 0=u at h3 ⊢
      split
      ·
       rename_i h
       exfalso
       rcases h with h|h|h
       ·
        cases h
       ·
        exact absurd h (by show ¬ ((a.length:Int)=0);omega)
       ·
        exact absurd h (by show ¬ (1+(r.length:Int)=0);omega)
      ·
       by_cases hb:1024<bh a 0∨1024<u
       ·
        rw [if_pos hb,if_neg]
        simp only [valid,NK,decide_eq_true_eq]
        omega
       ·
        rw [if_neg hb,if_pos]
        simp only [valid,NK,decide_eq_true_eq]
        omega
end Go.SL
namespace Go.SL
open Go Go.Proofs
attribute [local irreducible] W WL WQ WG WA WX WLI WR WT VOp thn blk bG scp bg bT aQ FnIn
def gK (l:List Int):Option (Tk × Nat):=
 if bN (l.headD 0)=false then none
 else if (l.drop (aB cL l)).headD 0=40 then some (⟨7,0,mkB (upW l),aM,0⟩,aB cL l)
 else if mkB (upW l)=mO then some (⟨3,1,au,aM,0⟩,aB cL l)
 else if mkB (upW l)=kS then some (⟨3,0,au,aM,0⟩,aB cL l)
 else if (bX (upW l)).2.2≠0 then none
 else if (l.drop (aB cL l)).headD 0=58∧bN ((l.drop (aB cL l+1)).headD 0)=true∧(bX (upW (l.drop (aB cL l+1)))).2.2=0∧(l.drop (aB cL l+1+aB cL (l.drop (aB cL l+1)))).headD 0≠40 then
  some (⟨if (bX (upW l)).1=(bX (upW (l.drop (aB cL l+1)))).1∧(bX (upW l)).2.1=(bX (upW (l.drop (aB cL l+1)))).2.1 then 5 else 6,0,au,
   ⟨min (bX (upW l)).1 (bX (upW (l.drop (aB cL l+1)))).1,min (bX (upW l)).2.1 (bX (upW (l.drop (aB cL l+1)))).2.1,max (bX (upW l)).1 (bX (upW (l.drop (aB cL l+1)))).1,max (bX (upW l)).2.1 (bX (upW (l.drop (aB cL l+1)))).2.1⟩,0⟩,aB cL l+1+aB cL (l.drop (aB cL l+1)))
 else some (⟨5,0,au,KF (bX (upW l)).1 (bX (upW l)).2.1,0⟩,aB cL l)
theorem fI (a b:Int):(if b<a then b else a)=min a b:=by omega
theorem fJ (a b:Int):(if a<b then b else a)=max a b:=by omega
theorem Bx (l:List Int) (hl:gV l) (hlen:l.length≤100000) (w:World):ax Tryz.prog 284 [.string (mkB l)] w (.tuple #[.agg (cu ⟨(bX l).1,(bX l).2.1⟩).toArray,.int .i64 (bX l).2.2]):=by
 have h:=yE (mkB l) (by rw [nj];exact hlen) w
 rw [nA hl,JQ] at h
 exact h
set_option maxHeartbeats 2000000 in
theorem J2 (a:ByteArray) (ha:a.size≤10000) (i:Nat) (hi:i<a.size) (g:Nat) (w:World) (hr:Ro w g 0 [.string a]):
  ax Tryz.prog 245 [.pointer (some ⟨g,0,none⟩),.int .i64 (i:Int)] w (Ck (atT i (gK ((ap a).drop i)))):=by
 refine aq Tryz.func245 rfl Tryz.ntmps245 rfl ?_
 have hl:=av a
 have hP1:=fun w' h=>zT a (by omega) i (by omega) g w' h
 have hwl:=bR cL ((ap a).drop i)
 have hul:=tM ((ap a).drop i)
 have huk:gV (upW ((ap a).drop i)):=HB fun c hc=>l8 a c (Py hc)
 rw [NP] at hwl
 have hW:gK ((ap a).drop i)=gK ((ap a).drop i):=rfl
 unfold gK at hW ⊢
 clear hW
 rw [lG]
 simp only [O0]
 generalize hn:aB cL ((ap a).drop i)=n at*
 generalize hu:upW ((ap a).drop i)=u at*
 rw [lG]
 have hus:(mkB u).size=n:=by rw [nj,hul]
 have hA1:=Bx u huk (by omega)
 generalize hau:bX u=A1 at hA1
 obtain ⟨c1,r1,e1⟩:=A1
 dsimp only at hA1 ⊢
 have hN1:=fun w' h=>x8 a (by omega) (i+n) g w' h
 have hN2:=fun w' h=>x8 a (by omega) (i+n+1) g w' h
 have hb1l:bat a (i+n)≠0→i+n<a.size:=fun h=>by
  rcases Po (i+n) a.size with h1|h1
  ·
   exact h1
  ·
   exfalso;apply h;rw [bat,NX,O1 (by omega)];rfl
 generalize hb1:bat a (i+n)=b1 at hN1 hb1l
 rw [show i+(n+1)=i+n+1 by omega]
 have hvl:=tM ((ap a).drop (i+n+1))
 have hvk:gV (upW ((ap a).drop (i+n+1))):=HB fun c hc=>l8 a c (Py hc)
 have hvr:=bR cL ((ap a).drop (i+n+1))
 rw [NP] at hvr
 have hP2:=fun w' hi h=>zT a (by omega) (i+n+1) hi g w' h
 generalize hm:aB cL ((ap a).drop (i+n+1))=m at*
 generalize hv:upW ((ap a).drop (i+n+1))=v at*
 rw [lG,lG]
 have hvs:(mkB v).size=m:=by rw [nj,hvl]
 have hA2:=Bx v hvk (by omega)
 generalize hav:bX v=A2 at hA2
 obtain ⟨c2,r2,e2⟩:=A2
 dsimp only at hA2 ⊢
 rw [show i+(n+1+m)=i+n+1+m by omega]
 have hN3:=fun w' h=>x8 a (by omega) (i+n+1+m) g w' h
 generalize hb2:bat a (i+n+1)=b2 at hN2
 generalize hb3:bat a (i+n+1+m)=b3 at hN3
 repeat' (first|(apply ak;exact rfl;apply aH (o:=0) (off:=0);exact hr;exact rfl;exact rfl)|(apply aa;exact rfl;exact rfl;(intro w hm;exact p8 _ w))|(apply ak (d:=28);exact rfl;apply qH;exact rfl;exact hus)|(apply ak (d:=90);exact rfl;apply qH;exact rfl;exact hvs)|(apply ak (d:=126);exact rfl;apply qH;exact rfl;exact hvs)|(apply aa (d:=26);exact rfl;exact rfl;(intro w' hm;exact hP1 w' (hr.next hm)))|(apply aa (d:=77);exact rfl;exact rfl;(intro w' hm;exact hP2 w' (hb1l (by omega)) (hr.next hm)))|(apply aa (d:=34);exact rfl;exact rfl;(intro w' hm;exact hN1 w' (hr.next hm)))|(apply aa (d:=65);exact rfl;exact rfl;(intro w' hm;exact hN1 w' (hr.next hm)))|(apply aa (d:=71);exact rfl;exact rfl;(intro w' hm;exact hN2 w' (hr.next hm)))|(apply aa (d:=92);exact rfl;exact rfl;(intro w' hm;exact hN3 w' (hr.next hm)))|(apply aa;exact rfl;exact rfl;(intro w hm;exact hA1 w))|(apply aa;exact rfl;exact rfl;(intro w hm;exact hA2 w))|(apply ak (d:=99);exact rfl;exact fI _ _ ▸ iW rfl rfl)|(apply ak (d:=104);exact rfl;exact fI _ _ ▸ iW rfl rfl)|(apply ak (d:=109);exact rfl;exact fJ _ _ ▸ gW rfl rfl)|(apply ak (d:=114);exact rfl;exact fJ _ _ ▸ gW rfl rfl)|(apply ak (d:=118);exact rfl;exact HA (a:=⟨c1,r1⟩) (b:=⟨c2,r2⟩) rfl rfl)|(apply aa;exact rfl;exact rfl;(intro w hm;exact MF ⟨c1,r1⟩ w))|refine sT ?_|refine sT2 ?_|refine sN ?_|refine sM fun _=> ?_|(refine sC ?_ ?_<;>intro hb<;>try omega)|fail)
 all_goals
  (refine eV ?_)
  simp_all [mO,kS,Ck,atT,aY,cu,aM,au,KF,eqF,bQ,cY]
end Go.SL
