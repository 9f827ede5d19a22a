/-
  Lemmas and walks, put together: Lr R1 R4 R2 Q2 R6 Q4 R5.
-/
import Derived.Test.YtoanpdoacdpgeaaGreatDoorKo17
set_option linter.unusedSimpArgs false
set_option linter.unusedVariables false
set_option maxRecDepth 20000
namespace Go.SL
open Go
def Chain:List Tk→Prop
 | []=>True
 |t::r=>(1≤t.kind∧t.kind≤11)∧(t.kind=7→(r.headD dl).kind=9)∧Chain r
theorem F2 {l:List Int} {t:Tk} {n:Nat} (h:kW l=some (t,n)):t.kind=4:=by
 unfold kW at h
 obtain ⟨x,_,hx⟩:=Sn.1 h
 cases hx;rfl
theorem E7 {l:List Int} {t:Tk} {n:Nat} (h:iI l=some (t,n)):8≤t.kind∧t.kind≤11:=by
 unfold iI at h
 split at h
 ·
  cases h;simp
 ·
  split at h
  ·
   cases h;simp
  ·
   split at h
   ·
    cases h;simp
   ·
    split at h
    ·
     cases h;simp
    ·
     cases h
theorem E6 {l:List Int} {t:Tk} {n:Nat} (h:jD l=some (t,n)):(1≤t.kind∧t.kind≤11)∧t.kind≠7:=by
 unfold jD at h
 split at h
 ·
  rename_i x hx
  cases h
  have:=F2 hx
  omega
 ·
  have:=E7 h
  omega
theorem Ez {l:List Int} {t:Tk} {n:Nat} (h:gZ l=some (t,n)):(1≤t.kind∧t.kind≤11)∧(t.kind=7→(l.drop n).headD 0=40):=by
 unfold gZ at h
 split at h
 ·
  cases h
 ·
  split at h
  ·
   rename_i h1
   cases h
   exact ⟨by simp,fun _=>h1⟩
  ·
   split at h
   ·
    cases h;simp
   ·
    split at h
    ·
     cases h;simp
    ·
     split at h
     ·
      cases h
     ·
      split at h
      ·
       cases h
       simp only
       split<;>simp
      ·
       cases h;simp
theorem Cd {l:List Int} {t:Tk} {n:Nat} (h:bB l=some (t,n)):(1≤t.kind∧t.kind≤11)∧(t.kind=7→(l.drop n).headD 0=40):=by
 unfold bB at h
 split at h
 ·
  obtain ⟨x,_,hx⟩:=Sn.1 h
  cases hx;simp
 ·
  split at h
  ·
   obtain ⟨x,_,hx⟩:=Sn.1 h
   cases hx;simp
  ·
   split at h
   ·
    exact Ez h
   ·
    have:=E6 h
    exact ⟨this.1,fun e=>absurd e this.2⟩
theorem nu (l:List Int):Fits l (bB l):=by
 intro t n h
 by_cases hd:aG (l.headD 0)=true
 ·
  unfold bB at h
  rw [if_pos hd,← wD] at h
  exact ud l t n h
 ·
  unfold bB at h
  rw [if_neg hd] at h
  split at h
  ·
   rename_i hq
   cases l with
   |nil=>cases hq
   |cons c r=>
    obtain ⟨⟨x,m⟩,hx,he⟩:=Sn.1 h
    cases he
    rw [List.tail_cons,Cf r.length r (Re _)] at hx
    obtain ⟨k,hk,hk2⟩:=Option.bind_eq_some_iff.1 hx
    obtain ⟨y,_,hy⟩:=Sn.1 hk2
    cases hy
    have:=pu r.length r k (Re _) hk
    simp only [Rx]
    omega
  ·
   split at h
   ·
    exact yn l t n h
   ·
    unfold jD at h
    split at h
    ·
     rename_i x hx
     cases h
     exact zg l t n hx
    ·
     exact yM l t n h
theorem Cc {l:List Int} (h:l.headD 0=40): ∃ n,bB l=some (⟨9,0,av,aN,0⟩,n):=by
 unfold bB
 rw [h,if_neg (by decide),if_neg (by decide),if_neg (by decide),jD,mO (by omega)]
 simp only
 unfold iI
 rw [wB (by rw [h];decide) fu (by decide)]
 simp only [h,if_true]
 exact ⟨1,rfl⟩
theorem zS {l:List Int} {f i:Nat} {r:List Tk} (h:bn bB l (f+1) i= .ok r) (h1:(l.drop i).headD 0=40):(r.headD dl).kind=9:=by
 simp only [bn] at h
 cases hd:l.drop i with
 |nil=>rw [hd] at h1;cases h1
 |cons c q=>
  rw [hd] at h1 h
  simp only [SM] at h1
  subst h1
  obtain ⟨n,hn⟩:=Cc (l:=40::q) rfl
  simp only [hn] at h
  rw [if_neg (by decide)] at h
  cases hr:bn bB l f (i+n) with
  |error e=>rw [hr] at h;cases h
  |ok r' =>rw [hr] at h;cases h;rfl
theorem xS {l:List Int}: ∀ (f i:Nat) (r:List Tk),l.length - i≤f→bn bB l f i= .ok r→Chain r:=by
 intro f
 induction f with
 |zero=>intro i r _ h;cases h;trivial
 |succ f ih=>
  intro i r hf h
  simp only [bn] at h
  cases hd:l.drop i with
  |nil=>rw [hd] at h;cases h;trivial
  |cons c q=>
   rw [hd] at h
   have hlen:(l.drop i).length=q.length+1:=by rw [hd];rfl
   rw [RC] at hlen
   simp only at h
   split at h
   ·
    exact ih (i+1) r (by omega) h
   ·
    cases ht:bB (c::q) with
    |none=>rw [ht] at h;cases h
    |some x=>
     obtain ⟨t,n⟩:=x
     rw [ht] at h
     simp only at h
     have hfit:=nu _ t n ht
     cases hr:bn bB l f (i+n) with
     |error e=>rw [hr] at h;cases h
     |ok r' =>
      rw [hr] at h
      cases h
      have hk:=Cd ht
      refine ⟨hk.1,fun h7=> ?_,ih (i+n) r' (by omega) hr⟩
      have h40:=hk.2 h7
      rw [← hd,SH] at h40
      cases f with
      |zero=>
       have:l.drop (i+n)= []:=by rw [List.drop_eq_nil_iff];omega
       rw [this] at h40;cases h40
      |succ f=>exact zS hr h40
theorem xR (l:List Int):Chain (bq bB l).1:=by
 unfold bq
 split
 ·
  trivial
 ·
  split
  ·
   trivial
  ·
   split
   ·
    rename_i r hr
    exact xS _ _ _ (by omega) hr
   ·
    trivial
theorem Chain.drop: ∀ {l:List Tk} (k:Nat),Chain l→Chain (l.drop k)
 |l,0,h=>h
 | [],k+1,h=>h
 |_::_,k+1,h=>Chain.drop k h.2.2
theorem Chain.name {l:List Tk} {fin:Int} (h:Chain l) (h7:(hdT fin l).kind=7):(hdT fin l.tail).kind=9:=by
 cases l with
 |nil=>cases h7
 |cons t r=>
  have h9:=h.2.1 h7
  cases r with
  |nil=>cases h9
  |cons u r=>exact h9
theorem Chain.kind {l:List Tk} {fin:Int} (h:Chain l):(hdT fin l).kind=0↔l= []:=by
 cases l with
 |nil=>exact ⟨fun _=>rfl,fun _=>rfl⟩
 |cons t r=>
  have:=h.1
  constructor
  ·
   intro e
   simp only [hdT,SM] at e
   omega
  ·
   intro e;cases e
end Go.SL
namespace Go.SL
open Go Go.Proofs
attribute [local irreducible] W WL WQ WG WA WX WLI WR WT WC VOp RW thn blk bp scp aR ba bE aF FnIn FnP ceP
section
variable {w0:World} {s:az} {H:List Blk} {ty t' :TypeId} {x y:Operand}
theorem IB {a b:Vl} {c:Bool} (h:decide (a=b)=c) (hx:ev s x=some (.agg (dH a).toArray)) (hy:ev s y=some (.agg (dH b).toArray)):VOp Tryz.prog w0 s H (.binOp .eql 127 x y t') ty (.bool c):=by
 have h1:=EN (w0:=w0) (H:=H) (ty:=ty) (t' :=t') hx hy
 rwa [HM,h] at h1
theorem oT {a b:Rct} {c:Bool} (h:decide (a=b)=c) (hx:ev s x=some (.agg (bL a).toArray)) (hy:ev s y=some (.agg (bL b).toArray)):VOp Tryz.prog w0 s H (.binOp .eql 32 x y t') ty (.bool c):=by
 have h1:=Ph (w0:=w0) (H:=H) (ty:=ty) (t' :=t') hx hy
 rwa [HN,h] at h1
theorem oS {a b:Rct} {c:Bool} (h:decide (a=b)=c) (hx:ev s x=some (.agg (bL a).toArray)) (hy:ev s y=some (.agg (bL b).toArray)):VOp Tryz.prog w0 s H (.binOp .neq 32 x y t') ty (.bool (!c)):=by
 have h1:=Pb (w0:=w0) (H:=H) (ty:=ty) (t' :=t') hx hy
 rwa [HN,h] at h1
end
theorem wj (a b:Rf) (w:World):aA Tryz.prog 114 [.agg (aS a).toArray,.agg (aS b).toArray] w (.bool (bw a b)):=by
 refine aq Tryz.func114 rfl Tryz.ntmps114 rfl ?_
 repeat' (first|refine sT ?_|refine sM fun _=> ?_|(refine sC ?_ ?_<;>intro hb<;>try omega)|fail)
 all_goals ((refine rT1 ?_);((try simp only [← Int.not_lt] at*);simp_all [bw, -Int.not_lt, -Int.not_le,← Int.not_lt]))
theorem iS (a:Rf) (w:World):aA Tryz.prog 320 [.agg (aS a).toArray] w (.agg (bL (CZ a.col a.row)).toArray):=by
 refine aq Tryz.func320 rfl Tryz.ntmps320 rfl ?_
 repeat' (first|refine sT ?_|refine sM fun _=> ?_|(refine sC ?_ ?_<;>intro hb<;>try omega)|fail)
 all_goals ((refine eRC ?_);rfl)
theorem jn {a:ByteArray} {i:Nat} (h:a.size≤i):bat a i=0:=by
 rw [bat,RD,SB (by rw [au];exact h)];rfl
theorem nJ (a:ByteArray) (ha:a.size≤1000000) (i:Nat) (w:World):aA Tryz.prog 281 [.string a,.int .i64 (i:Int)] w (.bool (aG (bat a i))):=by
 refine aq Tryz.func281 rfl Tryz.ntmps281 rfl ?_
 have h0:=fun h:a.size≤i=>jn h
 generalize hc:bat a i=c at h0
 repeat' (first|(apply ak;exact rfl;apply bf (j:=i);exact rfl;exact rfl;omega)|(rw [hc])|refine sT ?_|refine sT2 ?_|refine sM fun _=> ?_|(refine sC ?_ ?_<;>intro hb<;>try omega)|fail)
 all_goals ((refine rT1 ?_);(try rw [h0 (by omega)]);simp_all [aG];try omega)
theorem mE (a:ByteArray) (ha:a.size≤1000000) (i:Nat) (w:World):aA Tryz.prog 284 [.string a,.int .i64 (i:Int)] w (.bool (bT (bat a i))):=by
 refine aq Tryz.func284 rfl Tryz.ntmps284 rfl ?_
 have h0:=fun h:a.size≤i=>jn h
 generalize hc:bat a i=c at h0
 repeat' (first|(apply ak;exact rfl;apply bf (j:=i);exact rfl;exact rfl;omega)|(rw [hc])|refine sT ?_|refine sT2 ?_|refine sM fun _=> ?_|(refine sC ?_ ?_<;>intro hb<;>try omega)|fail)
 all_goals ((refine rT1 ?_);(try rw [h0 (by omega)]);simp_all [bT];try omega)
def De (c:Int):Int:=if bT c then upC c - 64 else 0
theorem qm (c:Int) (h0:0≤c) (h1:c<256) (w:World):aA Tryz.prog 359 [.int .u8 c] w (.int .i64 (De c)):=by
 refine aq Tryz.func359 rfl Tryz.ntmps359 rfl ?_
 repeat' (first|(apply ak (d:=10);exact rfl;apply dP (c:=c - 65);exact rfl;exact rfl;exact wrap_u8 (by omega) (by omega))|(apply ak (d:=20);exact rfl;apply dP (c:=c - 97);exact rfl;exact rfl;exact wrap_u8 (by omega) (by omega))|(apply ak (d:=11);exact rfl;apply bU (c:=c - 65);exact rfl;exact I64.wrap ⟨by omega,by omega⟩)|(apply ak (d:=21);exact rfl;apply bU (c:=c - 97);exact rfl;exact I64.wrap ⟨by omega,by omega⟩)|(apply ak (d:=12);exact rfl;apply lI;exact rfl;exact rfl;exact ⟨by omega,by omega⟩)|(apply ak (d:=22);exact rfl;apply lI;exact rfl;exact rfl;exact ⟨by omega,by omega⟩)|refine sT ?_|refine sM fun _=> ?_|(refine sC ?_ ?_<;>intro hb<;>try omega)|fail)
 all_goals
  (refine rT1 ?_)
  unfold De upC
  first
   |(rw [if_pos ((iA c).2 (by omega)),if_pos (by omega)];congr 1;omega)
   |(rw [if_pos ((iA c).2 (by omega)),if_neg (by omega)];congr 1;omega)
   |(rw [if_neg (by rw [iA];omega)])
set_option maxHeartbeats 1000000 in
theorem kM (a:ByteArray) (ha:a.size≤1000000) (w:World):aA Tryz.prog 188 [.string a] w (.string (upB a)):=by
 refine aq Tryz.func188 rfl Tryz.ntmps188 rfl ?_
 repeat' (first|(apply l9;exact rfl;exact rfl;intro gb cap)|refine sT ?_|refine sM fun _=> ?_|(refine sC ?_ ?_<;>intro hb<;>try omega)|fail)
 refine aw [3] rfl (fun i:Nat=> [(4,.int .i64 (i:Int))]) (fun i=> [.byt gb 5 a.size cap ((((ap a).take i).map upC++(ap a).drop i).map (Value.int .u8))]) (fun i=>i≤a.size) (fun i=>a.size - i) 0 (by omega) sB ?_ ?_
 ·
  rw [pw];simp only [Sj,Sq,QW,SG];exact mS
 intro i hi
 have hl:=au a
 by_cases hlt:i<a.size
 ·
  have hil:i<(ap a).length:=by omega
  have hok:=mM a (ap a)[i] (RN hil)
  have hget:((((ap a).take i).map upC++(ap a).drop i).map (Value.int .u8))[0+i*1]? =some (.int .u8 (ap a)[i]):=by
   rw [RZ,show 0+i*1=i by omega,R0 (by simp;omega)]
   simp [Tb (Nat.le_of_lt hil),SF]
  have hstep:97≤(ap a)[i]∧(ap a)[i]≤122→upC (ap a)[i]=(ap a)[i] - 32:=fun h=>by rw [upC,if_pos h]
  have hsame: ¬ (97≤(ap a)[i]∧(ap a)[i]≤122)→upC (ap a)[i]=(ap a)[i]:=fun h=>by rw [upC,if_neg h]
  have hupd:=vL upC (Value.int .u8) (ap a) i hil
  have hkeep: ∀ v,(((ap a).take i).map upC++(ap a).drop i).map (Value.int .u8)=v→upC (ap a)[i]=(ap a)[i]→v=(((ap a).take (i+1)).map upC++(ap a).drop (i+1)).map (Value.int .u8):=fun v hv hs=>by
   rw [← hupd,hs,← hv]
   rw [show 0+i*1=i by omega] at hget
   obtain ⟨h1,h2⟩:=Rg.1 hget
   rw [← h2,List.set_getElem_self]
  generalize (ap a)[i]=c at hget hok hstep hsame hupd hkeep
  repeat' (first|(apply ak;exact rfl;apply aj;exact rfl;exact rfl;exact hlt)|(apply ak;exact rfl;apply j8;exact rfl;exact pK;exact hget)|(apply ak (d:=31);exact rfl;apply dP (c:=c - 32);exact rfl;exact rfl;exact wrap_u8 (by omega) (by omega))|(apply ma;exact rfl;exact rfl;exact pK;exact rfl;(simp;omega))|refine sT ?_|refine sS ?_|refine sW ?_|refine sN ?_|refine sWN ?_|refine sM fun _=> ?_|(refine sC ?_ ?_<;>intro hb<;>try omega)|(refine sCW ?_ ?_<;>intro hb<;>try omega)|fail)
  ·
   rw [show 0+i*1=i by omega,← hstep ⟨by assumption,by assumption⟩,hupd]
   exact ⟨i+1,hlt,by omega,sB,sB,mS⟩
  ·
   exact ⟨i+1,hlt,by omega,sB,sB,(by rw [← hkeep _ rfl (hsame (by omega))];exact mS)⟩
  ·
   exact ⟨i+1,hlt,by omega,sB,sB,(by rw [← hkeep _ rfl (hsame (by omega))];exact mS)⟩
 ·
  have e2:i=a.size:=by omega
  subst e2
  rw [Sg (by omega),RE (by omega),QZ]
  repeat' (first|(apply ak (d:=34);exact rfl;apply sw;exact rfl;exact pK;(rw [RP];omega))|refine sT ?_|refine sS ?_|refine sM fun _=> ?_|(refine sC ?_ ?_<;>intro hb<;>try omega)|fail)
  (refine rT1 ?_)
  rfl
structure DecP (l:List Int) (neg:Bool) (fr n:Nat) (D:List Int) (r:Int):Prop where
 negE:neg=decide (l.head? =some 45)
 frE:fr=if neg then 1 else 0
 nE:n=aD aG (l.drop fr)
 pos:n≠0
 len:D.length=n+4
 at1: ∀ k,k<n→D[k]? =l[fr+k]?
 at2: ∀ k,n≤k→k<n+4→D[k]? =some (l.getD (fr+k+1) 48)
 rnd:r=l.getD (fr+n+5) 48
 end_: ∀ k,fr+n<k→k<l.length→aG (l.getD k 0)=true
 res:gQ l=if cK<bD D 0+(if 53≤r then 1 else 0) then (0,3) else (if neg then -(bD D 0+(if 53≤r then 1 else 0)) else bD D 0+(if 53≤r then 1 else 0),0)
theorem FW (l:List Int) (i k:Nat) (d:Int):(l.drop i).getD k d=l.getD (i+k) d:=by
 rw [RD,RD,SF]
theorem DecP.dig {l:List Int} {neg:Bool} {fr n:Nat} {D:List Int} {r:Int} (h:DecP l neg fr n D r) {k:Nat} {c:Int} (hk:D[k]? =some c):48≤c∧c≤57:=by
 have hlt:k<n+4:=by
  have:=(Rg.1 hk).1
  rw [h.len] at this;exact this
 rcases SY k n with h1|h1
 ·
  rw [h.at1 k h1] at hk
  refine (fg c).1 (j9 (l.drop fr) k c (by rw [← h.nE];exact h1) ?_)
  rw [SF];exact hk
 ·
  rw [h.at2 k h1 hlt] at hk
  injection hk with hk
  rcases SY (fr+k+1) l.length with h2|h2
  ·
   have:=h.end_ (fr+k+1) (by omega) h2
   rw [RD,QV h2] at this hk
   simp only [S5] at this hk
   rw [hk] at this
   exact (fg c).1 this
  ·
   rw [RD,SB h2] at hk
   simp only [Option.getD_none] at hk
   omega
theorem JJ (l:List Int) (neg:Bool) (hneg:neg=decide (l.head? =some 45)) (fr:Nat) (hfr:fr=if neg then 1 else 0) (n:Nat) (hn:n=aD aG (l.drop fr)) (e:Nat) (he:e=if l[fr+n]? =some 46 then fr+n+1+aD aG (l.drop (fr+n+1)) else fr+n):
  ((n=0∨e≠l.length∨e=fr+n+1)∧gQ l=(0,4))∨(n≠0∧e=l.length∧e≠fr+n+1∧ ∃ D r,DecP l neg fr n D r):=by
 have hls:(if neg then l.tail else l)=l.drop fr:=by
  subst hfr
  cases neg<;>simp
 have hnl:n≤(l.drop fr).length:=hn ▸ bY aG _
 rw [RC] at hnl
 have hfl:fr≤l.length:=by
  subst hfr
  cases neg with
  |false=>simp
  |true=>
   have:l.head? =some 45:=of_decide_eq_true hneg.symm
   cases l with
   |nil=>cases this
   |cons=>simp
 obtain ⟨rest,hrest⟩: ∃ rest,(l.drop fr).drop n=rest:=⟨_,rfl⟩
 have hr2:l.drop (fr+n)=rest:=by rw [← SH];exact hrest
 have hrl:rest.length=l.length - (fr+n):=by rw [← hr2,RC]
 have hhead:rest.head? =l[fr+n]? :=by rw [← hr2,List.head?_drop]
 have htail:rest.tail=l.drop (fr+n+1):=by rw [← hr2,TE]
 have hrt:aD aG rest.tail≤rest.tail.length:=bY _ _
 rw [TZ] at hrt
 rw [← hhead,← htail] at he
 obtain ⟨q,hq⟩: ∃ q,aD aG rest.tail=q:=⟨_,rfl⟩
 rw [hq] at he hrt
 have hdec: ∀ fc,(decide (1<rest.length) && (decide (rest.head? =some 46) && decide (q+1=rest.length)))=fc→gQ l=if n=0∨(fc=false∧rest≠ []) then (0,4)
   else if cK<bD ((l.drop fr).take n++((if fc then rest.tail else [])++ [48,48,48,48,48]).take 4) 0+(if 53≤((if fc then rest.tail else [])++ [48,48,48,48,48]).getD 4 0 then 1 else 0) then (0,3)
   else (if neg then -(bD ((l.drop fr).take n++((if fc then rest.tail else [])++ [48,48,48,48,48]).take 4) 0+(if 53≤((if fc then rest.tail else [])++ [48,48,48,48,48]).getD 4 0 then 1 else 0)) else bD ((l.drop fr).take n++((if fc then rest.tail else [])++ [48,48,48,48,48]).take 4) 0+(if 53≤((if fc then rest.tail else [])++ [48,48,48,48,48]).getD 4 0 then 1 else 0),0):=by
  intro fc hfc
  unfold gQ
  rw [← hneg]
  simp only [hls,← hn,hrest,hq,hfc]
 by_cases h0:n=0
 ·
  left
  refine ⟨.inl h0,?_⟩
  rw [hdec _ rfl,if_pos (.inl h0)]
 by_cases h46:rest.head? =some 46
 ·
  rw [if_pos h46] at he
  have hpos:0<rest.length:=by
   cases rest with
   |nil=>cases h46
   |cons=>simp
  by_cases hfin:1<rest.length∧q+1=rest.length
  ·
   right
   refine ⟨h0,by omega,by omega,?_⟩
   have hfrac:(decide (1<rest.length) && (decide (rest.head? =some 46) && decide (q+1=rest.length)))=true:=by simp [h46,hfin.1,hfin.2]
   have hd:=hdec _ hfrac
   simp only [if_true] at hd
   rw [if_neg (by simp [h0])] at hd
   have hall: ∀ k,fr+n<k→k<l.length→aG (l.getD k 0)=true:=fun k h1 h2=>by
    obtain ⟨j,rfl⟩: ∃ j,k=fr+n+1+j:=⟨k - (fr+n+1),by omega⟩
    have hj:j<aD aG rest.tail:=by omega
    refine j9 rest.tail j _ hj ?_
    rw [htail,SF,RD,QV h2];rfl
   have hp5: ∀ k,k<5→(rest.tail++ [48,48,48,48,48])[k]? =some (l.getD (fr+n+k+1) 48):=fun k hk=>by
    rw [show fr+n+k+1=fr+n+1+k by omega,← FW,← htail]
    rw [RD]
    rcases SY k rest.tail.length with h|h
    ·
     rw [RH h,QV h];rfl
    ·
     rw [R0 h,SB h]
     have:k - rest.tail.length<5:=by omega
     rcases (by omega:k - rest.tail.length=0∨k - rest.tail.length=1∨k - rest.tail.length=2∨k - rest.tail.length=3∨k - rest.tail.length=4) with h|h|h|h|h<;>rw [h]<;>rfl
   refine ⟨(l.drop fr).take n++(rest.tail++ [48,48,48,48,48]).take 4,(rest.tail++ [48,48,48,48,48]).getD 4 0,hneg,hfr,hn,h0,?_,?_,?_,?_,hall,hd⟩
   ·
    simp only [QT,RF,RC,Rx,SP]
    omega
   ·
    intro k hk
    rw [RH (by simp;omega),Te hk,SF]
   ·
    intro k h1 h2
    rw [R0 (by simp;omega)]
    rw [RF,RC,Tb (by omega),Te (by omega),hp5 _ (by omega)]
    congr 2;omega
   ·
    rw [RD,hp5 4 (by omega)];rfl
  ·
   left
   have hfrac:(decide (1<rest.length) && (decide (rest.head? =some 46) && decide (q+1=rest.length)))=false:=by
    simp only [h46,decide_true,RX,Sw,decide_eq_false_iff_not]
    omega
   refine ⟨by omega,?_⟩
   rw [hdec _ hfrac,if_pos (.inr ⟨rfl,fun h=>by rw [h] at hpos;exact Nat.lt_irrefl _ hpos⟩)]
 ·
  rw [if_neg h46] at he
  have hfrac:(decide (1<rest.length) && (decide (rest.head? =some 46) && decide (q+1=rest.length)))=false:=by simp [h46]
  have hd:=hdec _ hfrac
  simp only [Sa,if_false] at hd
  by_cases hnil:rest= []
  ·
   right
   have hlen:fr+n=l.length:=by rw [hnil] at hrl;simp at hrl;omega
   refine ⟨h0,by omega,by omega,?_⟩
   rw [if_neg (by simp [h0,hnil])] at hd
   have hp5: ∀ k,k<5→(([]:List Int)++ [48,48,48,48,48])[k]? =some (l.getD (fr+n+k+1) 48):=fun k hk=>by
    have e0:l.getD (fr+n+k+1) 48=48:=by rw [RD,SB (by omega)];rfl
    rw [e0]
    rcases (by omega:k=0∨k=1∨k=2∨k=3∨k=4) with h|h|h|h|h<;>rw [h]<;>rfl
   refine ⟨(l.drop fr).take n++(([]:List Int)++ [48,48,48,48,48]).take 4,(([]:List Int)++ [48,48,48,48,48]).getD 4 0,hneg,hfr,hn,h0,?_,?_,?_,?_,fun k h1 h2=>by omega,hd⟩
   ·
    simp;omega
   ·
    intro k hk
    rw [RH (by simp;omega),Te hk,SF]
   ·
    intro k h1 h2
    rw [R0 (by simp;omega)]
    rw [RF,RC,Tb (by omega),Te (by omega),hp5 _ (by omega)]
    congr 2;omega
   ·
    rw [RD,hp5 4 (by omega)];rfl
  ·
   left
   have:0<rest.length:=SJ.2 hnil
   refine ⟨by omega,?_⟩
   rw [hd,if_pos (.inr ⟨trivial,hnil⟩)]
theorem Cy (b:Bool) (w:World):aA Tryz.prog 189 [.bool b] w (.agg (dH (mi b)).toArray):=by
 refine aq Tryz.func189 rfl Tryz.ntmps189 rfl ?_
 repeat' (first|refine sT ?_|refine sM fun _=> ?_|(refine sC ?_ ?_<;>intro hb<;>try omega)|fail)
 all_goals ((refine eRC ?_);simp_all [mi,dH,av])
theorem qo (c:Int) (w:World):aA Tryz.prog 191 [.int .i64 c] w (.agg (dH (gH c)).toArray):=by
 refine aq Tryz.func191 rfl Tryz.ntmps191 rfl ?_
 repeat' (first|refine sT ?_|refine sM fun _=> ?_|(refine sC ?_ ?_<;>intro hb<;>try omega)|fail)
 all_goals ((refine eRC ?_);simp only [gH];(first|rw [if_pos (by omega)]|rw [if_neg (by omega)]);rfl)
theorem Fq (n:Int) (h: -9223372036854775808≤n) (w:World):aA Tryz.prog 193 [.int .i64 n] w (.agg (dH (wM n)).toArray):=by
 refine aq Tryz.func193 rfl Tryz.ntmps193 rfl ?_
 have hf: ∀ w,aA Tryz.prog 191 [.int .i64 3] w (.agg #[.int .u8 4,.int .i64 3,.string av]):=fun w=>qo 3 w
 repeat' (first|(apply aa;exact rfl;exact rfl;(intro w hm;exact hf w))|refine sT ?_|refine sM fun _=> ?_|(refine sC ?_ ?_<;>intro hb<;>try omega)|fail)
 ·
  (refine eRC ?_)
  rw [wM,if_pos (by omega)];rfl
 ·
  (refine eRC ?_)
  rw [wM,if_neg (by omega)];rfl
def NZ (c:Int):ByteArray:=if 1≤c∧c≤7 then cH.getD c.toNat av else av
theorem yQ (c:Int) (w:World):aA Tryz.prog 234 [.int .i64 c] w (.string (NZ c)):=by
 refine aq Tryz.func234 rfl Tryz.ntmps234 rfl ?_
 repeat' (first|refine sT ?_|refine sS ?_|refine sM fun _=> ?_|(refine sC ?_ ?_<;>intro hb<;>try omega)|fail)
 all_goals first
  |((refine rT1 ?_);subst_vars;rfl)
  |((refine rT1 ?_);rw [NZ,if_neg (by omega)];rfl)
theorem Fu (a:ByteArray) (ha:a.size≤1000000) (w:World):aA Tryz.prog 190 [.string a] w (.tuple #[.int .i64 (iL a).1,.int .i64 (iL a).2]):=by
  refine aq Tryz.func190 rfl Tryz.ntmps190 rfl ?_
  have hU:=fun w=>kM a ha w
  unfold iL
  generalize upB a=u at hU
  obtain ⟨X,hX⟩: ∃ X,ju u (cH.drop 1) 1=X:=⟨_,rfl⟩
  rw [hX]
  repeat' (first|refine sT ?_|refine sS ?_|refine sM fun _=> ?_|(refine sC ?_ ?_<;>intro hb<;>try omega)|fail)
  refine aw [0,2,3] rfl (fun i:Nat=> [(4,.int .i64 ((i:Int)+1))]) (fun _=> []) (fun i=>i≤7∧X=ju u (cH.drop (i+1)) ((i:Int)+1)) (fun i=>7 - i) 0 ⟨by omega,hX.symm⟩ sB (.refl _) ?_
  rintro i ⟨hi,hc⟩
  by_cases hlt:i<7
  · rw [tK (by omega),ju] at hc
    have hN: ∀ w,aA Tryz.prog 234 [.int .i64 ((i:Int)+1)] w (.string (cH.getD (i+1) av)):=fun w=>by
      have:=yQ ((i:Int)+1) w
      rw [NZ,if_pos (by omega)] at this
      exact this
    generalize cH.getD (i+1) av=x at hN hc
    repeat' (first|(apply aa (f:=234);exact rfl;exact rfl;(intro w' hm;exact hN w'))|(apply aa;exact rfl;exact rfl;(intro w hm;exact hU w))|refine sT ?_|refine sS ?_|refine sJ ?_|refine sM fun _=> ?_|(refine sC ?_ ?_<;>intro hb<;>try omega)|fail)
    all_goals first
      |(refine dS eIO rfl rfl rfl (.nil _) ?_;rw [hc,if_pos (by assumption)];done)
      | (refine ⟨i + 1, ⟨by omega, ?_⟩, by omega, ?_, ?_, .nil _⟩
         · rw [hc,if_neg (by assumption)];rfl
         · exact sB
         · exact sB)
  · have e:i=7:=by omega
    subst e
    repeat' (first|refine sT ?_|refine sS ?_|refine sM fun _=> ?_|(refine sC ?_ ?_<;>intro hb<;>try omega)|fail)
    all_goals (refine dS eIO rfl rfl rfl (.nil _) ?_;rw [hc];rfl)
theorem Fl (c:Int) (h1:1≤c) (h2:c≤5) (w:World):aA Tryz.prog 321 [.agg (dH ⟨4,c,av⟩).toArray] w (.string (cH.getD c.toNat av)):=by
 refine aq Tryz.func321 rfl Tryz.ntmps321 rfl ?_
 have he:decide ((⟨4,c,av⟩:Vl)=gH 7)=false:=by rw [← HM];simp [eqV,gH];omega
 have hv:qc ⟨4,c,av⟩=0:=by
  have h6:decide (c≤6)=true:=decide_eq_true (by omega)
  simp [qc,vv,h1,h6]
 have hc:=fun w=>yP ⟨4,c,av⟩ (by dsimp only;omega) w
 rw [hv] at hc
 have hN:=fun w=>yQ c w
 rw [show NZ c=cH.getD c.toNat av from if_pos ⟨h1,by omega⟩] at hN
 repeat' (first|(apply (eE (id:=1) [1] []);kernel_rfl;kernel_rfl;kernel_rfl)|(apply aa;exact rfl;exact rfl;(intro w hm;exact qo 7 w))|(apply dm;(iterate 3 exact rfl);apply IB (a:=⟨4,c,av⟩) (b:=gH 7) he;exact rfl;exact rfl)|(apply aa;exact rfl;exact rfl;(intro w hm;exact hc w))|(apply aa;exact rfl;exact rfl;(intro w hm;exact hN w))|refine sT ?_|refine sW ?_|refine sM fun _=> ?_|(refine sC ?_ ?_<;>intro hb<;>try omega)|(refine sCW ?_ ?_<;>intro hb<;>try omega)|fail)
 all_goals ((refine rT1 ?_);rfl)
structure Cx where
 g:Nat
 sa:ByteArray
 A:Option Nat
 cap:Nat
 toks:List Tk
 hsa:sa.size≤256
 ht:toks.length≤256
 hc:Chain toks
def Cx.fin (x:Cx):Int:=(x.sa.size:Int)
def Cx.B (x:Cx) (k:Nat) (B:Option Nat) (cb:Nat) (out:List Nd) (at_ e:Int):List Blk:=rB x.g x.sa x.A x.cap x.toks k B cb out at_ e
def RR (x:Cx) (j m:Nat) (R:List Blk) (r:Out) (v:Value) (H:List Blk):Prop:=v= .tuple #[]∧match r with
 | .ok (_,p')=> ∃ k' B' cb',k' ≤x.toks.length∧p'.l=x.toks.drop k' ∧j≤k' ∧p'.out.length+j≤m+k' ∧H=x.B k' B' cb' p'.out 0 0++R
 | .error e=> ∃ k' B' cb' out',e.2≠0∧k' ≤x.toks.length+1∧j≤k' ∧out'.length+j≤m+k' ∧H=x.B k' B' cb' out' e.1 e.2++R
def OP (F:Int→PS→Option Out) (fid:FuncId) (args:List Value):Prop:=
 ∀ (x:Cx) (k:Nat) (p:PS) (B:Option Nat) (cb:Nat) (r:Out) (R:List Blk) (w0:World),k≤x.toks.length→p.l=x.toks.drop k→p.out.length≤k→F x.fin p=some r→
  FnIn Tryz.prog fid (.pointer (some ⟨x.g,0,none⟩)::args) w0 (x.B k B cb p.out 0 0++R) (RR x k p.out.length R r)
def py (f:Nat) (j:Job) (fid:FuncId) (args:List Value):Prop:=OP (fun fin p=>bz fin f j p) fid args
theorem Cx.lt {x:Cx} {k:Nat} {t:Tk} (hd:hdT x.fin (x.toks.drop k)=t) (h:t.kind≠0):k<x.toks.length:=by
 rcases SY k x.toks.length with h1|h1
 ·
  exact h1
 ·
  rw [uW h1] at hd
  subst hd
  exact absurd rfl h
theorem Cx.skip {x:Cx} {k:Nat} {p:PS} (h:p.l=x.toks.drop k):p.skip.l=x.toks.drop (k+1):=by
 simp only [PS.skip];rw [h,TE]
theorem Cx.next {x:Cx} {k:Nat} {t:Tk} (hd:hdT x.fin (x.toks.drop k)=t) {B:Option Nat} {cb:Nat} {out:List Nd} {at_ e:Int} {H:List Blk} {w0:World} (hH:MSub (x.B k B cb out at_ e) H) (w:World) (hm:Mem w0 w H):
  aA Tryz.prog 197 [.pointer (some ⟨x.g,0,none⟩)] w (.agg (bi t).toArray):=wq (RB x.hsa (by decide)) (RB x.ht (by decide)) hd hH w hm
theorem Cx.op {x:Cx} {k:Nat} {t:Tk} (hd:hdT x.fin (x.toks.drop k)=t) (q:Int) {B:Option Nat} {cb:Nat} {out:List Nd} {at_ e:Int} {H:List Blk} {w0:World} (hH:MSub (x.B k B cb out at_ e) H) (w:World) (hm:Mem w0 w H):
  aA Tryz.prog 241 [.pointer (some ⟨x.g,0,none⟩),.int .i64 q] w (.bool (decide (t.kind=8∧gR t.num=q))):=Pu q (RB x.hsa (by decide)) (RB x.ht (by decide)) hd hH w hm
theorem Gg (q:Int):(gR q=6)↔(q=5):=by
 unfold gR
 repeat' split
 all_goals omega
theorem Mq (q:Int):(gR q=7)↔(q=13):=by
 unfold gR
 repeat' split
 all_goals omega
theorem kf {fn:Func} {fr:Fr} {w0:World} {R H:List Blk} {x:Cx} {j m n k' :Nat} {p' :PS} {B' :Option Nat} {cb' :Nat} {e:Exit} {s:az} (he:e= .ret∨e= .normal) (hf:fn.results= #[]) (h1:k' ≤x.toks.length) (h2:p'.l=x.toks.drop k') (h3:j≤k') (h4:p'.out.length+j≤m+k') (hs:MSub (x.B k' B' cb' p'.out 0 0++R) H):
  aR Tryz.prog fn fr w0 (RR x j m R (.ok (n,p'))) e s H:=gC he hf hs ⟨rfl,k',B',cb',h1,h2,h3,h4,rfl⟩
theorem fH {fn:Func} {fr:Fr} {w0:World} {R H:List Blk} {x:Cx} {j m k' :Nat} {x' :Int × Int} {out' :List Nd} {B' :Option Nat} {cb' :Nat} {e:Exit} {s:az} (he:e= .ret∨e= .normal) (hf:fn.results= #[]) (h0:x'.2≠0) (h1:k' ≤x.toks.length+1) (h3:j≤k') (h4:out'.length+j≤m+k') (hs:MSub (x.B k' B' cb' out' x'.1 x'.2++R) H):
  aR Tryz.prog fn fr w0 (RR x j m R (.error x')) e s H:=gC he hf hs ⟨rfl,k',B',cb',out',h0,h1,h3,h4,rfl⟩
set_option maxHeartbeats 2000000 in
theorem Lb (f:Nat) (ihS:py f .sign 240 []) (ihP:py f .pct 287 []):py (f+1) .sign 240 []:=by
  intro x k p B cb r R w0 hk hp hout hrun
  refine eQ Tryz.func240 rfl Tryz.ntmps240 rfl ?_
  have hxt:=x.ht
  dsimp only at hrun
  rw [bz] at hrun
  dsimp only at hrun
  obtain ⟨t,ht⟩: ∃ t,hdT x.fin p.l=t:=⟨_,rfl⟩
  rw [ht] at hrun
  have hd:hdT x.fin (x.toks.drop k)=t:=hp ▸ ht
  have hN:=fun w hm=>Cx.next hd (B:=B) (cb:=cb) (out:=p.out) (at_:=0) (e:=0) (w0:=w0) (H:=x.B k B cb p.out 0 0++R) ⟨R,.refl _⟩ w hm
  by_cases hk2:t.kind=8∧t.num=2
  · rw [if_pos hk2] at hrun
    have hlt:=Cx.lt hd (by omega)
    obtain ⟨r1,hr1,⟨e,rfl,rfl⟩|⟨n1,p1,rfl,hr2⟩⟩:=bG hrun
    · repeat' (first|(apply aa (f:=197);exact rfl;exact rfl;exact hN)|(apply ax (f:=240);exact rfl;exact rfl;exact FnIn.msub (ihS x (k+1) p.skip B cb _ _ w0 hlt (Cx.skip hp) (TR hout) hr1) (MSub.pick pK (MSub.pick pK (MSub.pick pK (MSub.refl _))));rintro _ _ ⟨rfl,k1,B1,cb1,o1,h1,h2,h3,h4,rfl⟩;replace h4:o1.length+(k+1)≤p.out.length+k1:=h4)|(apply aU;(iterate 3 exact rfl);exact pK;exact pK;exact rfl;(simp [bN,Value.oneCell']);omega;(simp only [maxLen];omega);intro g8 c8)|refine sT ?_|refine sS ?_|refine sN ?_|refine sM fun _=> ?_|(refine sC ?_ ?_<;>intro hb<;>try omega)|fail)
      all_goals first
        |(exfalso;omega)
        | (refine fH (k' := k1) (out' := o1 ++ [dG 4 0]) (B' := some g8) (cb' := c8) eIO rfl h1 h2 (by omega) (by rw [QT, QX]; omega) ?_
           simp only [Cx.B,rB,QT,QX,Rn,Rm,Ry,QZ,QU,QW]
           exact mS)
    · cases hr2
      repeat' (first|(apply aa (f:=197);exact rfl;exact rfl;exact hN)|(apply ax (f:=240);exact rfl;exact rfl;exact FnIn.msub (ihS x (k+1) p.skip B cb _ _ w0 hlt (Cx.skip hp) (TR hout) hr1) (MSub.pick pK (MSub.pick pK (MSub.pick pK (MSub.refl _))));rintro _ _ ⟨rfl,k1,B1,cb1,h1,h2,h3,h4,rfl⟩;replace h4:p1.out.length+(k+1)≤p.out.length+k1:=h4)|(apply aU;(iterate 3 exact rfl);exact pK;exact pK;exact rfl;(simp [bN,Value.oneCell']);omega;(simp only [maxLen];omega);intro g8 c8)|refine sT ?_|refine sS ?_|refine sN ?_|refine sM fun _=> ?_|(refine sC ?_ ?_<;>intro hb<;>try omega)|fail)
      all_goals first
        |(exfalso;omega)
        | (refine kf (k' := k1) (p' := p1.put (dG 4 0)) (B' := some g8) (cb' := c8) eIO rfl h1 h2 (by omega) (by simp only [PS.put, QT, QX]; omega) ?_
           simp only [PS.put,Cx.B,rB,QT,QX,Rn,Rm,Ry,QZ,QU,QW]
           exact mS)
  rw [if_neg hk2] at hrun
  obtain ⟨r1,hr1,⟨e,rfl,rfl⟩|⟨n1,p1,rfl,hr2⟩⟩:=bG hrun
  · repeat' (first|(apply aa (f:=197);exact rfl;exact rfl;exact hN)|(apply ax (f:=287);exact rfl;exact rfl;exact FnIn.msub (ihP x k p B cb _ _ w0 hk hp hout hr1) (MSub.pick pK (MSub.pick pK (MSub.pick pK (MSub.refl _))));rintro _ _ ⟨rfl,k1,B1,cb1,o1,h1,h2,h3,h4,rfl⟩)|refine sT ?_|refine sS ?_|refine sN ?_|refine sM fun _=> ?_|(refine sC ?_ ?_<;>intro hb<;>try omega)|fail)
    all_goals first
      |(exfalso;omega)
      |exact absurd (by assumption) h1
      | (refine fH (k' := k1) (out' := o1) (B' := B1) (cb' := cb1) eIO rfl h1 h2 h3 h4 ?_
         simp only [Cx.B,rB,QU,QW]
         exact mS)
  · obtain ⟨u,hu⟩: ∃ u,hdT x.fin p1.l=u:=⟨_,rfl⟩
    rw [hu] at hr2
    by_cases hk3:u.kind=8∧u.num=5
    · rw [if_pos hk3] at hr2
      obtain ⟨r2,hr3,⟨e,rfl,rfl⟩|⟨n2,p2,rfl,hr4⟩⟩:=bG hr2
      · repeat' (first|(apply aa (f:=197);exact rfl;exact rfl;exact hN)|(apply ax (f:=287);exact rfl;exact rfl;exact FnIn.msub (ihP x k p B cb _ _ w0 hk hp hout hr1) (MSub.pick pK (MSub.pick pK (MSub.pick pK (MSub.refl _))));rintro _ _ ⟨rfl,k1,B1,cb1,h1,h2,h3,h4,rfl⟩;have hd1:hdT x.fin (x.toks.drop k1)=u:=h2 ▸ hu;have hlt1:=Cx.lt hd1 (by omega))|(apply aa (f:=241);exact rfl;exact rfl;exact fun w hm=>Cx.op hd1 6 (B:=B1) (cb:=cb1) (out:=p1.out) (at_:=0) (e:=0) (MSub.pick pK (MSub.pick pK (MSub.pick pK (MSub.nil _)))) w hm)|(apply ax (f:=240);exact rfl;exact rfl;exact FnIn.msub (ihS x (k1+1) p1.skip B1 cb1 _ _ w0 hlt1 (Cx.skip h2) (by simp only [PS.skip];omega) hr3) (MSub.pick pK (MSub.pick pK (MSub.pick pK (MSub.refl _))));rintro _ _ ⟨rfl,k2,B2,cb2,o2,j1,j2,j3,j4,rfl⟩;replace j4:o2.length+(k1+1)≤p1.out.length+k2:=j4)|(apply aU;(iterate 3 exact rfl);exact pK;exact pK;exact rfl;(simp [bN,Value.oneCell']);omega;(simp only [maxLen];omega);intro g8 c8)|refine sT ?_|refine sS ?_|refine sN ?_|refine sM fun _=> ?_|(refine sC ?_ ?_<;>intro hb<;>try omega)|fail)
        all_goals first
          |(exfalso;omega)
          |(exfalso;simp_all [Gg];done)
          | (refine fH (k' := k2) (out' := o2 ++ [dG 6 5]) (B' := some g8) (cb' := c8) eIO rfl j1 j2 (by omega) (by rw [QT, QX]; omega) ?_
             simp only [Cx.B,rB,QT,QX,Rn,Rm,Ry,QZ,QU,QW]
             exact mS)
      · cases hr4
        repeat' (first|(apply aa (f:=197);exact rfl;exact rfl;exact hN)|(apply ax (f:=287);exact rfl;exact rfl;exact FnIn.msub (ihP x k p B cb _ _ w0 hk hp hout hr1) (MSub.pick pK (MSub.pick pK (MSub.pick pK (MSub.refl _))));rintro _ _ ⟨rfl,k1,B1,cb1,h1,h2,h3,h4,rfl⟩;have hd1:hdT x.fin (x.toks.drop k1)=u:=h2 ▸ hu;have hlt1:=Cx.lt hd1 (by omega))|(apply aa (f:=241);exact rfl;exact rfl;exact fun w hm=>Cx.op hd1 6 (B:=B1) (cb:=cb1) (out:=p1.out) (at_:=0) (e:=0) (MSub.pick pK (MSub.pick pK (MSub.pick pK (MSub.nil _)))) w hm)|(apply ax (f:=240);exact rfl;exact rfl;exact FnIn.msub (ihS x (k1+1) p1.skip B1 cb1 _ _ w0 hlt1 (Cx.skip h2) (by simp only [PS.skip];omega) hr3) (MSub.pick pK (MSub.pick pK (MSub.pick pK (MSub.refl _))));rintro _ _ ⟨rfl,k2,B2,cb2,j1,j2,j3,j4,rfl⟩;replace j4:p2.out.length+(k1+1)≤p1.out.length+k2:=j4)|(apply aU;(iterate 3 exact rfl);exact pK;exact pK;exact rfl;(simp [bN,Value.oneCell']);omega;(simp only [maxLen];omega);intro g8 c8)|refine sT ?_|refine sS ?_|refine sN ?_|refine sM fun _=> ?_|(refine sC ?_ ?_<;>intro hb<;>try omega)|fail)
        all_goals first
          |(exfalso;omega)
          |(exfalso;simp_all [Gg];done)
          | (refine kf (k' := k2) (p' := p2.put (dG 6 5)) (B' := some g8) (cb' := c8) eIO rfl j1 j2 (by omega) (by simp only [PS.put, QT, QX]; omega) ?_
             simp only [PS.put,Cx.B,rB,QT,QX,Rn,Rm,Ry,QZ,QU,QW]
             exact mS)
    · rw [if_neg hk3] at hr2
      cases hr2
      repeat' (first|(apply aa (f:=197);exact rfl;exact rfl;exact hN)|(apply ax (f:=287);exact rfl;exact rfl;exact FnIn.msub (ihP x k p B cb _ _ w0 hk hp hout hr1) (MSub.pick pK (MSub.pick pK (MSub.pick pK (MSub.refl _))));rintro _ _ ⟨rfl,k1,B1,cb1,h1,h2,h3,h4,rfl⟩;have hd1:hdT x.fin (x.toks.drop k1)=u:=h2 ▸ hu)|(apply aa (f:=241);exact rfl;exact rfl;exact fun w hm=>Cx.op hd1 6 (B:=B1) (cb:=cb1) (out:=p1.out) (at_:=0) (e:=0) (MSub.pick pK (MSub.pick pK (MSub.pick pK (MSub.nil _)))) w hm)|refine sT ?_|refine sS ?_|refine sN ?_|refine sM fun _=> ?_|(refine sC ?_ ?_<;>intro hb<;>try omega)|fail)
      all_goals first
        |(exfalso;omega)
        |(exfalso;simp_all [Gg];done)
        | (refine kf (k' := k1) (p' := p1) (B' := B1) (cb' := cb1) eIO rfl h1 h2 h3 h4 ?_
           simp only [Cx.B,rB,QU,QW]
           exact mS)
theorem jg (p:Int→Bool): ∀ l:List Int,l.takeWhile p=l.take (aD p l)∧l.dropWhile p=l.drop (aD p l)
 | []=>⟨rfl,rfl⟩
 |c::r=>by
  simp only [List.takeWhile_cons,List.dropWhile_cons,aD]
  split
  ·
   exact ⟨by rw [(jg p r).1];rfl,by rw [(jg p r).2];rfl⟩
  ·
   exact ⟨rfl,rfl⟩
theorem z1 (a:ByteArray) (ha:a.size≤1000000) (h0:0<a.size) (hlet: ∀ c∈ap a,bT c=true) (w:World):aA Tryz.prog 360 [.string a] w (.tuple #[.int .i64 (if 1024<bu (ap a) 0 then 0 else bu (ap a) 0),.int .i64 (if 1024<bu (ap a) 0 then 3 else 0)]):=by
 refine aq Tryz.func360 rfl Tryz.ntmps360 rfl ?_
 have hl:=au a
 have hpos:=mL (ap a) hlet (SQ 0) (.inl (fun h=>by rw [h] at hl;simp at hl;omega))
 obtain ⟨X,hX⟩: ∃ X,bu (ap a) 0=X:=⟨_,rfl⟩
 rw [hX] at hpos ⊢
 repeat' (first|refine sT ?_|refine sS ?_|refine sT2 ?_|refine sM fun _=> ?_|(refine sC ?_ ?_<;>intro hb<;>try omega)|fail)
 refine aw [0] rfl (fun x:Nat × Int=> [(5,.int .i64 (x.1:Int)),(4,.int .i64 x.2)]) (fun _=> []) (fun x=>x.1≤a.size∧0≤x.2∧x.2≤1025∧X=bu ((ap a).drop x.1) x.2) (fun x=>a.size - x.1) (0,0) ⟨by simp,by simp,by simp,hX.symm⟩ sB (.refl _) ?_
 rintro ⟨i,v⟩ ⟨hi,hv0,hv1,hx⟩
 dsimp only at hi hv0 hv1 hx ⊢
 by_cases hlt:i<a.size
 ·
  have hc:=hlet (bat a i) (TD (gL hlt))
  have hok:=tH a i
  rw [bk hlt,bu] at hx
  have hN:=fun w=>qm (bat a i) hok.1 hok.2 w
  have hN1:De (bat a i)=upC (bat a i) - 64:=by rw [De,if_pos hc]
  have hN2:1≤upC (bat a i) - 64∧upC (bat a i) - 64≤26:=by
   have:=(iA _).1 hc
   unfold upC
   split<;>omega
  rw [hN1] at hN
  obtain ⟨d,hd⟩: ∃ d,upC (bat a i) - 64=d:=⟨_,rfl⟩
  rw [hd] at hx hN hN2
  repeat' (first|(apply ak (d:=14);exact rfl;apply bf (j:=i);exact rfl;exact rfl;exact hlt)|(apply ak (d:=21);exact rfl;apply bf (j:=i);exact rfl;exact rfl;exact hlt)|(apply aa (f:=359);exact rfl;exact rfl;(intro w' hm;exact hN w'))|(apply ak (d:=18);exact rfl;apply yC;exact rfl;exact rfl;exact ⟨by omega,by omega⟩)|(apply ak (d:=23);exact rfl;apply lI;exact rfl;exact rfl;exact ⟨by omega,by omega⟩)|refine sT ?_|refine sS ?_|refine sT2 ?_|refine sN ?_|refine sM fun _=> ?_|(refine sC ?_ ?_<;>intro hb<;>try omega)|fail)
  all_goals first
   |(exfalso;omega)
   |(rw [AF];exact ⟨(i+1,min (26*v+d) 1025),⟨hlt,by dsimp only;omega,by dsimp only;omega,hx⟩,by dsimp only;omega,sB,sB,.nil _⟩)
 ·
  have e:i=a.size:=by omega
  subst e
  rw [RE (by omega),bu] at hx
  subst hx
  repeat' (first|refine sT ?_|refine sS ?_|refine sT2 ?_|refine sM fun _=> ?_|(refine sC ?_ ?_<;>intro hb<;>try omega)|fail)
  all_goals first
   |(exfalso;omega)
   |((refine rT2 ?_);first|(rw [if_pos (by omega),if_pos (by omega)])|(rw [if_neg (by omega),if_neg (by omega)]))
theorem JT (l:List Int):cy l=if l.take (aD bT l)= []∨l.drop (aD bT l)= []∨(l.drop (aD bT l)).head? =some 48∨(l.drop (aD bT l)).all aG=false then (0,0,4)
  else if 1024<bu (l.take (aD bT l)) 0∨1024<mW (l.drop (aD bT l)) 0 then (0,0,3) else (bu (l.take (aD bT l)) 0,mW (l.drop (aD bT l)) 0,0):=by
 unfold cy
 rw [(jg bT l).1,(jg bT l).2]
theorem Dd {c:Int}:(0<De c)↔bT c=true:=by
 unfold De upC
 cases h:bT c with
 |false=>simp
 |true=>
  have:=(iA c).1 h
  simp only [if_true,iff_true]
  by_cases h2:97≤c∧c≤122
  ·
   rw [if_pos h2];omega
  ·
   rw [if_neg h2];omega
set_option maxHeartbeats 1000000 in
theorem Fv (a:ByteArray) (ha:a.size≤100000) (w:World):aA Tryz.prog 344 [.string a] w (.tuple #[.agg (aS ⟨(cy (ap a)).1,(cy (ap a)).2.1⟩).toArray,.int .i64 (cy (ap a)).2.2]):=by
 refine aq Tryz.func344 rfl Tryz.ntmps344 rfl ?_
 have hl:=au a
 have hA:=JT (ap a)
 obtain ⟨A,hAr⟩: ∃ A,aD bT (ap a)=A:=⟨_,rfl⟩
 have hAle:A≤a.size:=by have:=bY bT (ap a);omega
 rw [hAr] at hA
 repeat' (first|refine sT ?_|refine sS ?_|refine sT2 ?_|refine sM fun _=> ?_|(refine sC ?_ ?_<;>intro hb<;>try omega)|fail)
 rename_i g2
 refine aw [0,2] rfl (fun i:Nat=> [(4,.int .i64 (i:Int))]) (fun _=> [.box g2 50 [.int .i64 0,.int .i64 0]]) (fun i=>i≤a.size∧A=i+aD bT ((ap a).drop i)) (fun i=>a.size - i) 0 ⟨by omega,by rw [SG,Rt,hAr]⟩ sB (.refl _) ?_
 rintro i ⟨hi,hx⟩
 by_cases hlt:i<a.size∧bT (bat a i)=true
 ·
  have hok:=tH a i
  have hN:=fun w=>qm (bat a i) hok.1 hok.2 w
  have hp:=Dd.2 hlt.2
  rw [bk hlt.1,aD,if_pos hlt.2] at hx
  repeat' (first|(apply ak (d:=16);exact rfl;apply bf (j:=i);exact rfl;exact rfl;omega)|(apply aa (f:=359);exact rfl;exact rfl;(intro w' hm;exact hN w'))|refine sT ?_|refine sS ?_|refine sT2 ?_|refine sN ?_|refine sM fun _=> ?_|(refine sC ?_ ?_<;>intro hb<;>try omega)|fail)
  all_goals first
   |(exfalso;omega)
   |exact ⟨i+1,⟨by omega,by omega⟩,by omega,sB,sB,.refl _⟩
 have hAi:A=i:=by
  rw [hx]
  by_cases h:i<a.size
  ·
   rw [bk h,aD,if_neg (fun h2=>hlt ⟨h,h2⟩)];rfl
  ·
   rw [qW (by omega)];rfl
 subst hAi
 have hexit:A<a.size→De (bat a A)≤0:=fun h=>by
  have: ¬ 0<De (bat a A):=fun h2=>hlt ⟨h,Dd.1 h2⟩
  omega
 have hN:=fun w=>qm (bat a A) (tH a A).1 (tH a A).2 w
 have htk:(ap a).take A= []↔A=0:=by
  rw [List.take_eq_nil_iff]
  constructor
  ·
   rintro (h|h)
   ·
    exact h
   ·
    rw [h] at hl;simp at hl;omega
  ·
   exact .inl
 have hdr:(ap a).drop A= []↔A=a.size:=by rw [List.drop_eq_nil_iff];omega
 have hhd:A<a.size→(((ap a).drop A).head? =some 48↔bat a A=48):=fun h=>by rw [bk h];simp
 by_cases hbad:A=0∨A=a.size∨bat a A=48
 ·
  have hres:cy (ap a)=(0,0,4):=by
   rw [hA,if_pos]
   rcases hbad with h|h|h
   ·
    exact .inl (htk.2 h)
   ·
    exact .inr (.inl (hdr.2 h))
   ·
    by_cases hA2:A<a.size
    ·
     exact .inr (.inr (.inl ((hhd hA2).2 h)))
    ·
     exact .inr (.inl (hdr.2 (by omega)))
  rw [hres]
  repeat' (first|(apply ak (d:=16);exact rfl;apply bf (j:=A);exact rfl;exact rfl;omega)|(apply ak (d:=33);exact rfl;apply bf (j:=A);exact rfl;exact rfl;omega)|(apply aa (f:=359);exact rfl;exact rfl;(intro w' hm;exact hN w'))|refine sT ?_|refine sS ?_|refine sT2 ?_|refine sN ?_|refine sM fun _=> ?_|(refine sC ?_ ?_<;>intro hb<;>try omega)|fail)
  all_goals first
   |(exfalso;omega)
   |((refine jb ?_);rfl)
 have hA1:0<A:=by omega
 have hA2:A<a.size:=by omega
 have hn48:bat a A≠48:=fun h=>hbad (.inr (.inr h))
 simp only [htk,hdr,hhd hA2,show ¬ A=0 by omega,show ¬ A=a.size by omega,hn48,false_or] at hA
 repeat' (first|(apply ak (d:=16);exact rfl;apply bf (j:=A);exact rfl;exact rfl;omega)|(apply ak (d:=33);exact rfl;apply bf (j:=A);exact rfl;exact rfl;omega)|(apply aa (f:=359);exact rfl;exact rfl;(intro w' hm;exact hN w'))|refine sT ?_|refine sS ?_|refine sT2 ?_|refine sN ?_|refine sM fun _=> ?_|(refine sC ?_ ?_<;>intro hb<;>try omega)|fail)
 all_goals try (exfalso;omega)
 refine aw [0,2,4] rfl (fun x:Nat × Int=> [(6,.int .i64 (x.1:Int)),(5,.int .i64 x.2)]) (fun _=> [.box g2 50 [.int .i64 0,.int .i64 0]]) (fun x=>A≤x.1∧x.1≤a.size∧0≤x.2∧x.2≤1025∧mW ((ap a).drop A) 0=mW ((ap a).drop x.1) x.2∧((ap a).drop A).all aG=((ap a).drop x.1).all aG) (fun x=>a.size - x.1) (A,0) ⟨by simp,by dsimp only;omega,by simp,by simp,rfl,rfl⟩ sB (.refl _) ?_
 rintro ⟨i,v⟩ ⟨hi0,hi,hv0,hv1,hr,hall⟩
 dsimp only at hi0 hi hv0 hv1 hr hall ⊢
 by_cases hlt2:i<a.size
 ·
  have hok:=tH a i
  rw [bk hlt2] at hr hall
  rw [mW] at hr
  rw [Tw] at hall
  have hd:=fg (bat a i)
  by_cases hdg:aG (bat a i)=true
  ·
   obtain ⟨hd1,hd2⟩:=hd.1 hdg
   rw [hdg,RX] at hall
   obtain ⟨d,hdd⟩: ∃ d,bat a i - 48=d:=⟨_,rfl⟩
   rw [hdd] at hr
   repeat' (first|(apply ak (d:=46);exact rfl;apply bf (j:=i);exact rfl;exact rfl;exact hlt2)|(apply ak (d:=51);exact rfl;apply bf (j:=i);exact rfl;exact rfl;exact hlt2)|(apply ak (d:=59);exact rfl;apply bf (j:=i);exact rfl;exact rfl;exact hlt2)|(apply ak (d:=56);exact rfl;apply yC;exact rfl;exact rfl;exact ⟨by omega,by omega⟩)|(apply ak (d:=60);exact rfl;apply dP (c:=d);exact rfl;exact rfl;(rw [hdd];exact wrap_u8 (by omega) (by omega)))|(apply ak (d:=61);exact rfl;apply bU (c:=d);exact rfl;exact I64.wrap ⟨by omega,by omega⟩)|(apply ak (d:=62);exact rfl;apply lI;exact rfl;exact rfl;exact ⟨by omega,by omega⟩)|refine sT ?_|refine sS ?_|refine sT2 ?_|refine sN ?_|refine sM fun _=> ?_|(refine sC ?_ ?_<;>intro hb<;>try omega)|fail)
   all_goals first
    |(exfalso;omega)
    |(rw [AF];exact ⟨(i+1,min (10*v+d) 1025),⟨by dsimp only;omega,hlt2,by dsimp only;omega,by dsimp only;omega,hr,hall⟩,by dsimp only;omega,sB,sB,.refl _⟩)
  ·
   have hdf:aG (bat a i)=false:=by simpa using hdg
   rw [hdf,Sr] at hall
   rw [if_pos hall] at hA
   have hno: ¬ (48≤bat a i∧bat a i≤57):=fun h=>hdg (hd.2 h)
   rw [hA]
   repeat' (first|(apply ak (d:=46);exact rfl;apply bf (j:=i);exact rfl;exact rfl;exact hlt2)|(apply ak (d:=51);exact rfl;apply bf (j:=i);exact rfl;exact rfl;exact hlt2)|(apply ak (d:=59);exact rfl;apply bf (j:=i);exact rfl;exact rfl;exact hlt2)|(apply ak (d:=56);exact rfl;apply yC;exact rfl;exact rfl;exact ⟨by omega,by omega⟩)|refine sT ?_|refine sS ?_|refine sT2 ?_|refine sN ?_|refine sM fun _=> ?_|(refine sC ?_ ?_<;>intro hb<;>try omega)|fail)
   all_goals first
    |(exfalso;omega)
    |((refine jb ?_);rfl)
 ·
  have e2:i=a.size:=by omega
  subst e2
  have e3:(ap a).drop a.size= []:=RE (by omega)
  rw [e3,List.all_nil] at hall
  rw [e3,mW] at hr
  rw [hall,hr] at hA
  simp only [Bool.true_eq_false,if_false] at hA
  have hsub:ap (sub a 0 A)=(ap a).take A:=uU a A
  have hC:=fun w=>z1 (sub a 0 A) (by rw [cw a hAle];omega) (by rw [cw a hAle];omega) (fun c hc=>by
   rw [hsub] at hc
   obtain ⟨k,hk⟩:=TV.1 hc
   have hkl:k<A:=by
    have:=(Rg.1 hk).1
    rw [RF] at this;omega
   rw [Te hkl] at hk
   exact j9 (ap a) k c (by omega) hk) w
  rw [hsub] at hC
  generalize bu ((ap a).take A) 0=L at hC hA
  rw [hA]
  repeat' (first|(apply ak (d:=67);exact rfl;apply EH (hi:=A);exact rfl;exact rfl;exact hAle)|(apply aa (f:=360);exact rfl;exact rfl;(intro w' hm;exact hC w'))|refine sT ?_|refine sS ?_|refine sT2 ?_|refine sN ?_|refine sM fun _=> ?_|(refine sC ?_ ?_<;>intro hb<;>try omega)|fail)
  all_goals
   (refine jb ?_)
   by_cases h1:1024<L<;>by_cases h2:1024<v<;>first|(exfalso;simp only [h1,if_true,if_false] at*;omega)|(simp only [h1,h2,if_true,if_false,or_true,true_or,or_self];rfl)
set_option maxHeartbeats 2000000 in
theorem ru (f:Nat) (fn:Int) (n:Nat) (h0:1≤fn) (h5:fn≤50) (ih:py f (.level 1) 195 [.int .i64 1]):OP (Bd f fn n) 365 [.int .u8 fn,.int .i64 n]:=by
  intro x k p B cb r R w0 hk hp hout hrun
  refine eQ Tryz.func365 rfl Tryz.ntmps365 rfl ?_
  have hxt:=x.ht
  unfold Bd at hrun
  obtain ⟨t,ht⟩: ∃ t,hdT x.fin p.l=t:=⟨_,rfl⟩
  rw [ht] at hrun
  have hd:hdT x.fin (x.toks.drop k)=t:=hp ▸ ht
  have hN:=fun w hm=>Cx.next hd (B:=B) (cb:=cb) (out:=p.out) (at_:=0) (e:=0) (w0:=w0) (H:=x.B k B cb p.out 0 0++R) ⟨R,.refl _⟩ w hm
  by_cases hk2:t.kind≠6
  · rw [if_pos hk2] at hrun
    obtain ⟨r1,hr1,hr2⟩:=bG hrun
    have hrr: ∀ v H,RR x k p.out.length R r1 v H→RR x k p.out.length R r v H:=by
      rintro v H ⟨hv,h⟩
      rcases hr2 with ⟨e,rfl,rfl⟩|⟨n1,p1,rfl,hr2⟩
      · exact ⟨hv,h⟩
      · cases hr2;exact ⟨hv,h⟩
    repeat' (first|(apply aa (f:=197);exact rfl;exact rfl;exact hN)|(apply ax (f:=195);exact rfl;exact rfl;exact FnIn.msub (ih x k p B cb r1 _ w0 hk hp hout hr1) (MSub.pick pK (MSub.pick pK (MSub.pick pK (MSub.refl _))));rintro v1 H1 hR)|refine sT ?_|refine sS ?_|refine sN ?_|refine sM fun _=> ?_|(refine sC ?_ ?_<;>intro hb<;>try omega)|fail)
    all_goals try (exfalso;omega)
    obtain ⟨rfl,hR⟩:=hR
    rcases hr2 with ⟨e,rfl,rfl⟩|⟨n1,p1,rfl,hr2⟩
    · obtain ⟨k1,B1,cb1,o1,j1,j2,j3,j4,rfl⟩:=hR
      refine fH (k' :=k1) (out' :=o1) (B' :=B1) (cb' :=cb1) eIO rfl j1 j2 j3 j4 ?_
      simp only [Cx.B,rB,Rj,QU,QW]
      exact mS
    · cases hr2
      obtain ⟨k1,B1,cb1,j1,j2,j3,j4,rfl⟩:=hR
      refine kf (k' :=k1) (p' :=p1) (B' :=B1) (cb' :=cb1) eIO rfl j1 j2 j3 j4 ?_
      simp only [Cx.B,rB,Rj,QU,QW]
      exact mS
  rw [if_neg hk2] at hrun
  have hlt:=Cx.lt hd (by omega)
  have hW:=fun w=>wg fn (n:Int) w
  have hwk:=vo (fn:=fn) (by simp [cO,h0,h5]) (n:Int)
  have hwe:((j0 fn n).1=false∨(j0 fn n).2≠0)↔fI fn n=false:=by
    rw [hwk]
    dsimp only
    constructor
    · rintro (h|h)
      · exact h
      · have h2:(n:Int)<0∨(bO fn).2≤(n:Int):=Classical.byContradiction fun hn=>h (if_neg hn)
        unfold fI
        rw [if_pos h2]
    · exact .inl
  clear hwk
  by_cases hwk:(j0 fn n).1=false∨(j0 fn n).2≠0
  · rw [if_pos hwk] at hrun
    cases hrun
    rw [hwe.1 hwk] at hW
    repeat' (first|(apply aa (f:=197);exact rfl;exact rfl;exact hN)|(apply aa (f:=352);exact rfl;exact rfl;(intro w' _;exact hW w'))|(apply ax (f:=196);exact rfl;exact rfl;exact FnIn.msub (fQ x.g x.sa x.A _ x.cap k B _ cb 0 0 _ _ _ _) (MSub.pick pK (.refl _));rintro _ _ ⟨rfl,rfl⟩)|refine sT ?_|refine sS ?_|refine sN ?_|refine sM fun _=> ?_|(refine sC ?_ ?_<;>intro hb<;>try omega)|fail)
    all_goals first
      |(exfalso;omega)
      | (refine fH (x' := (t.at_, 4)) (k' := k) (out' := p.out) (B' := B) (cb' := cb) eIO rfl (by simp) (by omega) (Re _) (Re _) ?_
         simp only [Cx.B,rB,Rj,QU,QW]
         exact mS)
  · rw [if_neg hwk] at hrun
    cases hrun
    have hwt:fI fn n=true:=by
      cases h:fI fn n with
      |true=>rfl
      |false=>exact absurd (hwe.2 h) hwk
    rw [hwt] at hW
    repeat' (first|(apply aa (f:=197);exact rfl;exact rfl;exact hN)|(apply aa (f:=352);exact rfl;exact rfl;(intro w' _;exact hW w'))|refine sT ?_|refine sS ?_|refine sN ?_|refine sM fun _=> ?_|(refine sC ?_ ?_<;>intro hb<;>try omega)|fail)
    all_goals try (exfalso;omega)
    refine jH 13 rfl (by kernel_rfl) ?_
    ((with_reducible apply aP (i:=0));exact rfl;exact rfl;decide+kernel;decide+kernel;decide+kernel;exact nP;(intro _ _;exact vP))
    ((with_reducible apply aP (i:=1));exact rfl;exact rfl;decide+kernel;decide+kernel;decide+kernel;exact nP;(intro _ _;exact vP))
    ((with_reducible apply aP (i:=2));exact rfl;exact rfl;decide+kernel;decide+kernel;decide+kernel;exact nP;(intro _ _;exact vP))
    ((with_reducible apply aP (i:=3));exact rfl;exact rfl;decide+kernel;decide+kernel;decide+kernel;exact nP;(intro _ _;exact vP))
    ((with_reducible apply aP (i:=5));exact rfl;exact rfl;decide+kernel;decide+kernel;decide+kernel;exact nP;(intro _ _;exact vP))
    repeat' (first|(apply da (i:=4) (j:=6);exact rfl;exact rfl;decide+kernel)|(apply da (i:=4) (j:=7);exact rfl;exact rfl;decide+kernel)|(apply da (i:=4) (j:=8);exact rfl;exact rfl;decide+kernel)|(apply aH (i:=4);exact rfl;decide+kernel)|(apply aH (i:=5);exact rfl;decide+kernel)|(apply aH (i:=6);exact rfl;decide+kernel)|(apply aH (i:=7);exact rfl;decide+kernel)|(apply aH (i:=8);exact rfl;decide+kernel)|(apply aH (i:=9);exact rfl;decide+kernel)|(apply aH (i:=10);exact rfl;decide+kernel)|(apply aH (i:=11);exact rfl;decide+kernel)|(apply aH (i:=12);exact rfl;decide+kernel)|(apply jG;decide+kernel)|(apply aU;(iterate 3 exact rfl);exact pK;exact pK;exact rfl;(simp [bN,Value.oneCell']);omega;(simp only [maxLen];omega);intro g8 c8)|refine sT ?_|refine sS ?_|refine sN ?_|refine sM fun _=> ?_|(refine sC ?_ ?_<;>intro hb<;>try omega)|fail)
    all_goals first
      |(exfalso;omega)
      | (refine kf (k' := k + 1) (p' := p.skip.put ⟨3, bI, t.rect, 0, 0, 0⟩) (B' := some g8) (cb' := c8) eIO rfl hlt (Cx.skip hp) (Tz k) (by simp only [PS.put, PS.skip, QT, QX]; omega) ?_
         simp only [PS.put,PS.skip,Cx.B,rB,QT,QX,Rn,Rm,Ry,QZ,Rj,QU,QW]
         exact mS)
theorem wG {D:List Int} {k:Nat} {c:Int} (h:D[k]? =some c):bD (D.take (k+1)) 0=10*bD (D.take k) 0+(c - 48):=by
 obtain ⟨h1,rfl⟩:=Rg.1 h
 rw [Ra h1,qq]
theorem pN {D:List Int} (hd: ∀ (k:Nat) c,D[k]? =some c→48≤c∧c≤57) (k:Nat):0≤bD (D.take k) 0∧bD (D.take k) 0≤bD D 0:=by
 have h48: ∀ c∈D,48≤c:=fun c hc=>by
  obtain ⟨i,hi,rfl⟩:=SW hc
  exact (hd i _ (QV hi)).1
 have h1:0≤bD (D.take k) 0:=lT _ (fun c hc=>h48 c (Sy hc)) (SQ _)
 refine ⟨h1,?_⟩
 conv=>rhs;rw [← Ss k D,rD]
 exact lT _ (fun c hc=>h48 c (Th hc)) h1
set_option maxHeartbeats 2000000 in
theorem I0 (a:ByteArray) (ha:a.size≤1000000) (w:World):aA Tryz.prog 192 [.string a] w (.tuple #[.int .i64 (gQ (ap a)).1,.int .i64 (gQ (ap a)).2]):=by
  refine aq Tryz.func192 rfl Tryz.ntmps192 rfl ?_
  have hl:=au a
  have hm:cK=9223372036854775807:=rfl
  obtain ⟨neg,hneg⟩: ∃ neg,neg=decide ((ap a).head? =some 45):=⟨_,rfl⟩
  have hb0:=rJ a 45
  obtain ⟨fr,hfr⟩: ∃ fr,fr=if neg then 1 else 0:=⟨_,rfl⟩
  obtain ⟨n,hn⟩: ∃ n,n=aD aG ((ap a).drop fr):=⟨_,rfl⟩
  obtain ⟨e,he⟩: ∃ e,e=if (ap a)[fr+n]? =some 46 then fr+n+1+aD aG ((ap a).drop (fr+n+1)) else fr+n:=⟨_,rfl⟩
  have hcase:=JJ (ap a) neg hneg fr hfr n hn e he
  have hfrl:fr≤a.size:=by
    rw [hfr]
    cases neg with
    |false=>exact Rd _
    |true=>have:=(hb0.1 (of_decide_eq_true hneg.symm)).1;simp only [if_true];omega
  have hnl:fr+n≤a.size:=by
    have:=bY aG ((ap a).drop fr)
    rw [RC] at this
    omega
  have hD1:=rp a ha fr
  rw [← hn] at hD1
  have hD2:=rp a ha (fr+n+1)
  have hyes:0<a.size→bat a 0=45→fr=1:=fun h1 h2=>by
    have:neg=true:=by rw [hneg];exact decide_eq_true (hb0.2 ⟨h1,h2⟩)
    rw [hfr,this];rfl
  have hno:(0<a.size→bat a 0≠45)→fr=0:=fun h=>by
    have:neg=false:=by rw [hneg];exact decide_eq_false (fun h' =>h (hb0.1 h').1 (hb0.1 h').2)
    rw [hfr,this];rfl
  have hnegE:decide ((fr:Int)=1)=neg:=by
    rw [hfr]
    cases neg<;>rfl
  have h46: ∀ j,j<a.size→((ap a)[j]? =some 46↔bat a j=46):=fun j hj=>by rw [gL hj];simp
  have h46' :a.size≤fr+n→ ¬ (ap a)[fr+n]? =some 46:=fun h=>by rw [SB (by omega)];simp
  repeat' (first|(refine zK (id:=2) (ι:=Unit) (fun _=> [(0,.string a),(4,.int .i64 (fr:Int))]) (fun _=> []) (fun _=>True) ?_ ?_)|refine sT ?_|refine sS ?_|refine sT2 ?_|refine sM fun _=> ?_|(refine sC ?_ ?_<;>intro hb<;>try omega)|exact cT|fail)
  · rw [hyes (by omega) (by assumption)]
    refine cG (()) ?_ sB mS
    trivial
  · rw [hno (fun _=>by assumption)]
    refine cG (()) ?_ sB mS
    trivial
  · rw [hno (fun h=>by omega)]
    refine cG (()) ?_ sB mS
    trivial
  rintro ⟨⟩ -
  repeat' (first|(apply aa (d:=22);exact rfl;exact rfl;(intro w' hm;exact hD1 w'))|(refine zK (id:=6) (ι:=Unit) (fun _=> [(0,.string a),(4,.int .i64 (fr:Int)),(5,.int .i64 ((fr+n:Nat):Int)),(6,.int .i64 (e:Int))]) (fun _=> []) (fun _=>True) ?_ ?_)|(apply ak;exact rfl;apply bf (j:=fr+n);exact rfl;exact rfl;omega)|(apply aa (d:=37);exact rfl;exact rfl;(intro w' hm;exact hD2 w'))|refine sT ?_|refine sS ?_|refine sT2 ?_|refine sN ?_|refine sM fun _=> ?_|(refine sC ?_ ?_<;>intro hb<;>try omega)|exact cT|fail)
  · rw [he,if_pos ((h46 _ (by omega)).2 (by assumption))]
    refine cG (()) ?_ sB mS
    trivial
  · rw [he,if_neg (fun h=>absurd ((h46 _ (by omega)).1 h) (by assumption))]
    refine cG (()) ?_ sB mS
    trivial
  · rw [he,if_neg (h46' (by omega))]
    refine cG (()) ?_ sB mS
    trivial
  rintro ⟨⟩ -
  clear hD1 hD2 hyes hno h46 h46' hb0
  rcases hcase with ⟨hbad,hd⟩|⟨h0,he1,he2,D,r,hP⟩
  · repeat' (first|refine sT ?_|refine sS ?_|refine sT2 ?_|refine sN ?_|refine sM fun _=> ?_|(refine sC ?_ ?_<;>intro hb<;>try omega)|exact cT|fail)
    all_goals first
      |((refine rT2 ?_);rw [hd];done)
      |(exfalso;omega)
  have hD4:=hP.len
  have hat: ∀ i,fr≤i→i<fr+n+5→i≠fr+n→ ∃ c,D[if i<fr+n then i - fr else i - fr - 1]? =some c∧48≤c∧c≤57∧(i<a.size→bat a i=c)∧(a.size≤i→c=48):=fun i h1 h2 h3=>by
    by_cases h:i<fr+n
    · rw [if_pos h]
      have hk:=hP.at1 (i - fr) (by omega)
      rw [show fr+(i - fr)=i by omega,gL (by omega)] at hk
      exact ⟨_,hk,(hP.dig hk).1,(hP.dig hk).2,fun _=>rfl,fun h=>by omega⟩
    · rw [if_neg h]
      have hk:=hP.at2 (i - fr - 1) (by omega) (by omega)
      rw [show fr+(i - fr - 1)+1=i by omega] at hk
      refine ⟨_,hk,(hP.dig hk).1,(hP.dig hk).2,fun h4=> ?_,fun h4=> ?_⟩
      · rw [RD,gL h4];rfl
      · rw [RD,SB (by omega)];rfl
  have hge:=pN (fun k c h=>hP.dig (k:=k) h)
  have hres:=hP.res
  have hr:=hP.rnd
  repeat' (first|refine sT ?_|refine sS ?_|refine sT2 ?_|refine sN ?_|refine sM fun _=> ?_|(refine sC ?_ ?_<;>intro hb<;>try omega)|exact cT|fail)
  all_goals try (exfalso;omega)
  rename_i g7
  refine aw [0,4,5,7] rfl (fun i:Nat=> [(8,.int .i64 (i:Int))]) (fun i=> [.box g7 286 (fU (bD (D.take (if i≤fr+n then i - fr else i - fr - 1)) 0))]) (fun i=>fr≤i∧i≤fr+n+5∧bD (D.take (if i≤fr+n then i - fr else i - fr - 1)) 0≤10*cK+9) (fun i=>fr+n+5 - i) fr ⟨by omega,by omega,?_⟩ sB ?_ ?_
  · rw [if_pos (by omega),Nat.sub_self,Sj];decide
  · rw [if_pos (by omega),Nat.sub_self,Sj]
    exact .refl _
  rintro i ⟨h1,h2,h3⟩
  obtain ⟨k,hk⟩: ∃ k,(if i≤fr+n then i - fr else i - fr - 1)=k:=⟨_,rfl⟩
  rw [hk] at h3 ⊢
  have hgk:=hge k
  obtain ⟨V,hV⟩: ∃ V,bD (D.take k) 0=V:=⟨_,rfl⟩
  rw [hV] at h3 hgk ⊢
  by_cases hend:i=fr+n+5
  · have hVD:V=bD D 0:=by
      rw [← hV,Sg]
      rw [hD4,← hk,if_neg (by omega)];omega
    have hsi:=fun v neg h h' w=>mC v neg h h' w
    subst hend
    have hpl: ∀ w,aA Tryz.prog 236 [.agg (fU V).toArray,.agg #[.int .u64 0,.int .u64 1]] w (.agg (fU (V+1)).toArray):=fun w=>by
      have:=uT V 1 hgk.1 (by omega) (by omega) w
      rwa [lD (v:=1) (by omega) (by omega)] at this
    have hS0:=fun w=>mC V neg hgk.1 (by omega) w
    have hS1:=fun w=>mC (V+1) neg (by omega) (by omega) w
    rw [← hVD] at hres
    have hrin:fr+n+5<a.size→bat a (fr+n+5)=r:=fun hin=>by
      rw [hr,RD,gL hin];rfl
    have hrout:a.size≤fr+n+5→r=48:=fun h=>by
      rw [hr,RD,SB (by omega)];rfl
    clear hr hP hat hge hV hVD
    repeat' (first|(apply ak (d:=57);exact rfl;apply dO (b:=5);exact rfl;exact rfl;(simp only [maxLen] at*;omega))|(apply ak (d:=93);exact rfl;apply dO (b:=5);exact rfl;exact rfl;(simp only [maxLen] at*;omega))|(apply ak (d:=100);exact rfl;apply dO (b:=5);exact rfl;exact rfl;(simp only [maxLen] at*;omega))|(apply ak (d:=101);exact rfl;apply bf (j:=fr+n+5);exact rfl;exact rfl;omega)|(rw [hrin (by omega)])|(apply aa (f:=236);exact rfl;exact rfl;(intro w' hm;exact hpl w'))|(rw [hnegE])|(apply aa (f:=238);exact rfl;exact rfl;(intro w' hm;first|exact hS1 w' |exact hS0 w'))|refine sT ?_|refine sS ?_|refine sT2 ?_|refine sN ?_|refine sM fun _=> ?_|(refine sC ?_ ?_<;>intro hb<;>try omega)|exact cT|fail)
    all_goals first
      |(exfalso;omega)
      | ((refine rT2 ?_)
         rw [hres]
         by_cases h53:53≤r
         · rw [if_pos h53]
           first|(exfalso;omega)|(rw [if_pos (by omega)];done)|(have hnb: ¬ cK<V+1:=(by omega);simp only [if_neg hnb];done)
         · rw [if_neg h53,Up]
           first|(exfalso;omega)|(rw [if_pos (by omega)];done)|(have hnb: ¬ cK<V:=(by omega);simp only [if_neg hnb];done))
  · have hlt5:i<fr+n+5:=by omega
    have hgeD:=hgk.2
    by_cases hbig:cK<V
    · have hout:gQ (ap a)=(0,3):=by
        rw [hres,if_pos]
        split<;>omega
      obtain ⟨vh,hvh⟩: ∃ z,V / 18446744073709551616=z:=⟨_,rfl⟩
      obtain ⟨vl,hvl⟩: ∃ z,V % 18446744073709551616=z:=⟨_,rfl⟩
      have hat' :=hat i h1 hlt5
      unfold fU
      rw [hvh,hvl]
      clear hres hP hat hge
      repeat' (first|(apply ak (d:=57);exact rfl;apply dO (b:=5);exact rfl;exact rfl;(simp only [maxLen] at*;omega))|(apply ak (d:=72);exact rfl;apply bf (j:=i);exact rfl;exact rfl;omega)|(apply ak (d:=73);exact rfl;apply dP (c:=bat a i - 48);exact rfl;exact rfl;(obtain ⟨c,_,hc1,hc2,hc3,_⟩:=hat' (by omega);rw [hc3 (by omega)];exact wrap_u8 (by omega) (by omega)))|(apply ak (d:=74);exact rfl;apply EQ;exact rfl)|refine sT ?_|refine sS ?_|refine sT2 ?_|refine sN ?_|refine sM fun _=> ?_|(refine sC ?_ ?_<;>intro hb<;>try omega)|exact cT|fail)
      all_goals first
        |(exfalso;omega)
        |((refine rT2 ?_);rw [hout];done)
    · have hsm:fU V= [.int .u64 0,.int .u64 V]:=lD hgk.1 (by omega)
      by_cases hip:i=fr+n
      · subst hip
        rw [hsm]
        repeat' (first|(apply ak (d:=57);exact rfl;apply dO (b:=5);exact rfl;exact rfl;(simp only [maxLen] at*;omega))|(apply ak (d:=60);exact rfl;apply dO (b:=1);exact rfl;exact rfl;(simp only [maxLen] at*;omega))|refine sT ?_|refine sS ?_|refine sT2 ?_|refine sN ?_|refine sM fun _=> ?_|(refine sC ?_ ?_<;>intro hb<;>try omega)|exact cT|fail)
        all_goals first
          |(exfalso;omega)
          |skip
        have hk2:(if fr+n+1≤fr+n then fr+n+1 - fr else fr+n+1 - fr - 1)=k:=by
          rw [← hk,if_neg (by omega),if_pos (by omega)];omega
        refine ⟨fr+n+1,⟨by omega,by omega,?_⟩,by omega,sB,sB,?_⟩
        · rw [hk2,hV];exact h3
        · rw [hk2,hV,hsm]
          exact mS
      · obtain ⟨c,hc0,hc1,hc2,hc3,hc4⟩:=hat i h1 hlt5 hip
        have hkk:(if i<fr+n then i - fr else i - fr - 1)=k:=by
          rw [← hk]
          by_cases h:i<fr+n
          · rw [if_pos h,if_pos (by omega)]
          · rw [if_neg h,if_neg (by omega)]
        have hk2:(if i+1≤fr+n then i+1 - fr else i+1 - fr - 1)=k+1:=by
          rw [← hkk]
          by_cases h:i<fr+n
          · rw [if_pos h,if_pos (by omega)];omega
          · rw [if_neg h,if_neg (by omega)];omega
        rw [hkk] at hc0
        have hnext:=wG hc0
        rw [hV] at hnext
        obtain ⟨d,hd⟩: ∃ d,c - 48=d:=⟨_,rfl⟩
        rw [hd] at hnext
        have hT:=fun w=>E0 V hgk.1 (by omega) w
        have hP2: ∀ w,aA Tryz.prog 236 [.agg (fU (10*V)).toArray,.agg #[.int .u64 0,.int .u64 d]] w (.agg (fU (10*V+d)).toArray):=fun w=>by
          have:=uT (10*V) d (by omega) (by omega) (by omega) w
          rwa [lD (v:=d) (by omega) (by omega)] at this
        have hend2: ∀ (s:az) (H:List Blk),Sub [(8,.int .i64 ((i+1:Nat):Int))] s→Sub [(0,.string a),(4,.int .i64 (fr:Int)),(5,.int .i64 ((fr+n:Nat):Int)),(7,.pointer (some ⟨g7,0,none⟩))] s→MSub [.box g7 286 (fU (10*V+d))] H→ ∃ i',(fr≤i' ∧i' ≤fr+n+5∧bD (D.take (if i' ≤fr+n then i' - fr else i' - fr - 1)) 0≤10*cK+9)∧fr+n+5 - i' <fr+n+5 - i∧Sub [(8,.int .i64 (i' :Int))] s∧Sub [(0,.string a),(4,.int .i64 (fr:Int)),(5,.int .i64 ((fr+n:Nat):Int)),(7,.pointer (some ⟨g7,0,none⟩))] s∧MSub [.box g7 286 (fU (bD (D.take (if i' ≤fr+n then i' - fr else i' - fr - 1)) 0))] H:=fun s H a1 a2 a3=>by
          refine ⟨i+1,⟨by omega,by omega,?_⟩,by omega,a1,a2,?_⟩
          · rw [hk2,hnext];omega
          · rw [hk2,hnext];exact a3
        clear hres hP hat hge hr
        rw [hsm]
        by_cases hin:i<a.size
        · have hbc:=hc3 hin
          repeat' (first|(apply ak (d:=57);exact rfl;apply dO (b:=5);exact rfl;exact rfl;(simp only [maxLen] at*;omega))|(apply ak (d:=60);exact rfl;apply dO (b:=1);exact rfl;exact rfl;(simp only [maxLen] at*;omega))|(apply ak (d:=72);exact rfl;apply bf (j:=i);exact rfl;exact rfl;exact hin)|(rw [hbc])|(apply ak (d:=73);exact rfl;apply dP (c:=d);exact rfl;exact rfl;(rw [hd];exact wrap_u8 (by omega) (by omega)))|(apply ak (d:=74);exact rfl;apply bU (c:=d);exact rfl;(rw [IntKind.wrap_u64];omega))|(apply aa (f:=237);exact rfl;exact rfl;(intro w' hm;exact hT w'))|(apply aa (f:=236);exact rfl;exact rfl;(intro w' hm;exact hP2 w'))|refine sT ?_|refine sS ?_|refine sT2 ?_|refine sN ?_|refine sM fun _=> ?_|(refine sC ?_ ?_<;>intro hb<;>try omega)|exact cT|fail)
          all_goals first
            |(exfalso;omega)
            |exact hend2 _ _ sB sB mS
        · have hd0:d=0:=by have:=hc4 (by omega);omega
          subst hd0
          repeat' (first|(apply ak (d:=57);exact rfl;apply dO (b:=5);exact rfl;exact rfl;(simp only [maxLen] at*;omega))|(apply ak (d:=60);exact rfl;apply dO (b:=1);exact rfl;exact rfl;(simp only [maxLen] at*;omega))|(apply aa (f:=237);exact rfl;exact rfl;(intro w' hm;exact hT w'))|(apply aa (f:=236);exact rfl;exact rfl;(intro w' hm;exact hP2 w'))|refine sT ?_|refine sS ?_|refine sT2 ?_|refine sN ?_|refine sM fun _=> ?_|(refine sC ?_ ?_<;>intro hb<;>try omega)|exact cT|fail)
          all_goals first
            |(exfalso;omega)
            |exact hend2 _ _ sB sB mS
end Go.SL
