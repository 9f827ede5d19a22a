/-
  Lemmas and walks, put together: Pg2 C2 D5 C3 C4 W17 W18.
-/
import Derived.Test.YtoanpdoacdpgeaaGreatDoorKq10
import Derived.Test.YtoanpdoacdpgeaaGreatDoorKq11
import Derived.Test.YtoanpdoacdpgeaaGreatDoorKq12
set_option linter.unusedSimpArgs false
set_option linter.unusedVariables false
set_option maxRecDepth 20000
namespace Go.SL
open Go
def sV (a:Rf) (L:List Rl):Nat→Nat
 |0=>0
 |n+1=>if fj ((L[n]?.map (·.rect)).getD aL) a=true then n else sV a L n
def gy (L:List Rl) (a:Rf):Nat:=sV a L L.length
theorem BT (a:Rf) (L:List Rl): ∀ n,sV a L n≤n - 1
 |0=>QV _
 |n+1=>by
  rw [sV];split
  ·
   exact QV _
  ·
   have:=BT a L n;omega
theorem KT {a:Rf} {L:List Rl} (h:L≠ []):gy L a<L.length:=by
 have:=BT a L L.length
 have h2:0<L.length:=Sx.2 h
 unfold gy;omega
theorem GK {r:Rct} {L:List Rl} (h:L≠ []):gY r L<L.length:=by
 have:=w9 r L L.length
 have h2:0<L.length:=Sx.2 h
 unfold gY;omega
theorem dc {r:Rct}:aD r=true↔1≤r.c1∧r.c1≤r.c2∧r.c2≤1024∧1≤r.r1∧r.r1≤r.r2∧r.r2≤1024:=by
 unfold aD valid
 simp only [QZ,decide_eq_true_eq]
 omega
theorem dW {r:Rct} {a:Rf}:fj r a=true↔r.c1≤a.col∧a.col≤r.c2∧r.r1≤a.row∧a.row≤r.r2:=by
 unfold fj
 simp only [QZ,decide_eq_true_eq,and_assoc]
theorem nk (a b:Rct):(gV a b).c1=max a.c1 b.c1:=by unfold gV;simp only;split<;>omega
theorem ni (a b:Rct):(gV a b).r1=max a.r1 b.r1:=by unfold gV;simp only;split<;>omega
theorem nj (a b:Rct):(gV a b).c2=min a.c2 b.c2:=by unfold gV;simp only;split<;>omega
theorem ng (a b:Rct):(gV a b).r2=min a.r2 b.r2:=by unfold gV;simp only;split<;>omega
theorem xK {a b:Rct} (ha:aD a=true) (hb:aD b=true) {x:Rf} (h1:fj a x=true) (h2:fj b x=true):dU a b=(gV a b,true):=by
 unfold dU
 rw [if_pos]
 simp only [Tu,List.all_nil,ha,hb,TZ,Sy]
 rw [dc] at*
 rw [dW] at h1 h2
 rw [nk,ni,nj,ng]
 omega
theorem Rct.ext' {a b:Rct} (h1:a.c1=b.c1) (h2:a.r1=b.r1) (h3:a.c2=b.c2) (h4:a.r2=b.r2):a=b:=by
 cases a;cases b;simp only at*;subst h1 h2 h3 h4;rfl
theorem Ey {c R:Rct} (hc:aD c=true) (hR:aD R=true):jv c R=true↔R.c1≤c.c1∧c.c2≤R.c2∧R.r1≤c.r1∧c.r2≤R.r2:=by
 have hc' :=dc.1 hc
 constructor
 ·
  intro h
  unfold jv at h
  rw [QZ,decide_eq_true_eq] at h
  obtain ⟨h1,h2⟩:=h
  unfold dU at h1 h2
  split at h1
  ·
   rename_i hall
   rw [if_pos hall] at h2
   have e1:=congrArg Rct.c1 h2
   have e2:=congrArg Rct.r1 h2
   have e3:=congrArg Rct.c2 h2
   have e4:=congrArg Rct.r2 h2
   simp only [nk,ni,nj,ng] at e1 e2 e3 e4
   omega
  ·
   cases h1
 ·
  intro h
  have h1:fj c ⟨c.c1,c.r1⟩=true:=dW.2 (by simp only;omega)
  have h2:fj R ⟨c.c1,c.r1⟩=true:=dW.2 (by simp only;omega)
  unfold jv
  rw [xK hc hR h1 h2,QZ,decide_eq_true_eq]
  exact ⟨rfl,Rct.ext' (by rw [nk];omega) (by rw [ni];omega) (by rw [nj];omega) (by rw [ng];omega)⟩
structure CellOf (r:Rct) (A B:List Rl) (y x:Int × Int):Prop where
 row:y∈cG r.r1 r.r2 (aX r A++aX r B)
 col:x∈cG r.c1 r.c2 (aY r A++aY r B)
def fk (y x:Int × Int):Rct:=⟨x.1,y.1,x.2,y.2⟩
theorem CellOf.ok {r:Rct} {A B:List Rl} {y x:Int × Int} (h:CellOf r A B y x) (hr:aD r=true):aD (fk y x)=true:=by
 have h1:=eG h.row
 have h2:=eG h.col
 rw [dc] at*
 simp only [fk];omega
theorem CellOf.inside {r:Rct} {A B:List Rl} {y x:Int × Int} (h:CellOf r A B y x) (hr:aD r=true) {a:Rf} (ha:fj (fk y x) a=true) {R:Rl} (hm:R∈A∨R∈B) (hR:aD R.rect=true):jv (fk y x) R.rect=fj R.rect a:=by
 have h1:=eG h.row
 have h2:=eG h.col
 have ha' :=dW.1 ha
 simp only [fk] at ha'
 rw [RP,Ey (h.ok hr) hR,dW]
 simp only [fk]
 constructor
 ·
  intro h3;omega
 ·
  intro h3
  have har:fj r a=true:=dW.2 (by omega)
  have haR:fj R.rect a=true:=dW.2 h3
  have hmt:=xK hR hr haR har
  have hcol:((gV R.rect r).c1,(gV R.rect r).c2)∈aY r A++aY r B:=by
   rw [Rs]
   rcases hm with hm|hm
   ·
    exact .inl (RY.2 ⟨R,hm,by rw [hmt];simp⟩)
   ·
    exact .inr (RY.2 ⟨R,hm,by rw [hmt];simp⟩)
  have hrow:((gV R.rect r).r1,(gV R.rect r).r2)∈aX r A++aX r B:=by
   rw [Rs]
   rcases hm with hm|hm
   ·
    exact .inl (RY.2 ⟨R,hm,by rw [hmt];simp⟩)
   ·
    exact .inr (RY.2 ⟨R,hm,by rw [hmt];simp⟩)
  have k1:=yn h.col hcol (by simp only [nk];omega) (by simp only [nj];omega)
  have k2:=yn h.row hrow (by simp only [ni];omega) (by simp only [ng];omega)
  simp only [nk,nj,ni,ng] at k1 k2
  omega
theorem uk {c:Rct} {a:Rf} {L:List Rl} (h: ∀ R∈L,jv c R.rect=fj R.rect a): ∀ n,n≤L.length→mC c L n=sV a L n
 |0,_=>rfl
 |n+1,hn=>by
  have hlt:n<L.length:=by omega
  rw [mC,sV,QQ hlt,uk h n (by omega)]
  simp only [Se,Te]
  have e:=h _ (RQ hlt)
  simp only [e]
theorem CellOf.which {r:Rct} {A B:List Rl} {y x:Int × Int} (h:CellOf r A B y x) (hr:aD r=true) (hA: ∀ R∈A,aD R.rect=true) {a:Rf} (ha:fj (fk y x) a=true):(mY A B y x).a=gy A a:=
 uk (fun R hR=>h.inside hr ha (.inl hR) (hA R hR)) _ (QV _)
theorem tR {α:Type} {p:List α→Prop} (h0:p []) (h1: ∀ l a,p l→p (l++ [a])) (l:List α):p l:=by
 have h: ∀ m:List α,p m.reverse:=fun m=>by
  induction m with
  |nil=>exact h0
  |cons a m ih=>rw [List.reverse_cons];exact h1 _ _ ih
 have:=h l.reverse
 rwa [List.reverse_reverse] at this
theorem PB {l:List Pz} {p:Pz} {k:Nat}:k∈(jR l p).map (·.a)↔k∈l.map (·.a)∨k=p.a:=by
 unfold jR
 cases h:l.getLast? with
 |none=>
  rw [List.getLast?_eq_none_iff.1 h];simp
 |some q=>
  have hne:l≠ []:=fun e=>by rw [e] at h;cases h
  have hq:l.getLast hne=q:=by rw [List.getLast?_eq_some_getLast hne] at h;exact Option.some.inj h
  have he:=SM hne
  rw [hq] at he
  dsimp only
  split
  ·
   rename_i hs
   rw [RX,Rs]
   conv=>rhs;rw [← he]
   rw [RX,Rs]
   simp only [Rz,Sl,RA]
   rw [← hs.1]
   exact ⟨.inl,fun h=>h.elim id .inr⟩
  ·
   rw [RX,Rs];simp
theorem Oo {A B:List Rl} {y:Int × Int} {k:Nat} (xs:List (Int × Int)):k∈(jO A B y xs).map (·.a)↔ ∃ x∈xs,k=(mY A B y x).a:=by
 induction xs using tR with
 |h0=>simp [jO]
 |h1 xs x ih=>
  rw [kX,PB,ih]
  simp only [Rs,RA]
  constructor
  ·
   rintro (⟨z,hz,h⟩|h)
   ·
    exact ⟨z,.inl hz,h⟩
   ·
    exact ⟨x,.inr rfl,h⟩
  ·
   rintro ⟨z,hz|rfl,h⟩
   ·
    exact .inl ⟨z,hz,h⟩
   ·
    exact .inr h
theorem y8 {r:Rct} {A B:List Rl} {k:Nat}:k∈(dJ r A B).map (·.a)↔ ∃ y x,CellOf r A B y x∧k=(mY A B y x).a:=by
 unfold dJ
 rw [List.map_flatMap,RY]
 constructor
 ·
  rintro ⟨y,hy,h⟩
  obtain ⟨x,hx,h2⟩:=(Oo _).1 h
  exact ⟨y,x,⟨hy,hx⟩,h2⟩
 ·
  rintro ⟨y,x,h,h2⟩
  exact ⟨y,h.row,(Oo _).2 ⟨x,h.col,h2⟩⟩
theorem LW {l:List (BitVec 64)} {i:Nat} (hi:i<64):(tJ l).getLsbD i=true↔ ∀ x∈l,x.getLsbD i=true:=by
 have h: ∀ (l:List (BitVec 64)) (s:BitVec 64),(l.foldl (· &&& ·) s).getLsbD i=true↔s.getLsbD i=true∧ ∀ x∈l,x.getLsbD i=true:=by
  intro l
  induction l with
  |nil=>intro s;simp
  |cons a l ih=>
   intro s
   rw [Td,ih,Tg,QZ]
   simp only [Rd,forall_eq_or_imp,and_assoc]
 unfold tJ
 rw [h,BitVec.getLsbD_allOnes]
 simp [hi]
theorem Km {f:Rl→BitVec 64} {r:Rct} {L:List Rl} (hr:aD r=true) (hL: ∀ R∈L,aD R.rect=true) {i:Nat} (hi:i<64):
  (vk f r L).getLsbD i=true↔ ∀ a,fj r a=true→((L[gy L a]?.map f).getD 0#64).getLsbD i=true:=by
 unfold vk
 rw [LW hi]
 have hm:(∀ x∈(dJ r L []).map (fun p=>(L[p.a]?.map f).getD 0#64),x.getLsbD i=true)↔ ∀ k∈(dJ r L []).map (·.a),((L[k]?.map f).getD 0#64).getLsbD i=true:=by
  simp only [RD,forall_exists_index,and_imp,forall_apply_eq_imp_iff₂]
 rw [hm]
 constructor
 ·
  intro h a ha
  have ha' :=dW.1 ha
  obtain ⟨y,hy,hy1,hy2⟩:=tz (lo:=r.r1) (hi:=r.r2) (ps:=aX r L++aX r []) (v:=a.row) (by omega) (by omega)
  obtain ⟨x,hx,hx1,hx2⟩:=tz (lo:=r.c1) (hi:=r.c2) (ps:=aY r L++aY r []) (v:=a.col) (by omega) (by omega)
  have hc:CellOf r L [] y x:=⟨hy,hx⟩
  have hag:fj (fk y x) a=true:=dW.2 (by simp only [fk];omega)
  have:=h _ (y8.2 ⟨y,x,hc,rfl⟩)
  rwa [hc.which hr hL hag] at this
 ·
  intro h k hk
  obtain ⟨y,x,hc,rfl⟩:=y8.1 hk
  have hok:=dc.1 (hc.ok hr)
  have h1:=eG hc.row
  have h2:=eG hc.col
  simp only [fk] at hok
  have hag:fj (fk y x) ⟨x.1,y.1⟩=true:=dW.2 (by simp only [fk];omega)
  rw [hc.which hr hL hag]
  exact h ⟨x.1,y.1⟩ (dW.2 (by simp only;omega))
def KL (p q:Pz):Prop:=p.rect.r1<q.rect.r1∨(p.rect.r1=q.rect.r1∧p.rect.c1<q.rect.c1)
theorem K3 {l:List Pz} {p:Pz} {y c:Int} (hp:p.rect.r1=y) (hl: ∀ q∈l,q.rect.r1=y∧q.rect.c1<p.rect.c1) (hc:p.rect.c1≤c) (hs:l.Pairwise KL):(jR l p).Pairwise KL∧ ∀ q∈jR l p,q.rect.r1=y∧q.rect.c1≤c:=by
 unfold jR
 cases h:l.getLast? with
 |none=>
  exact ⟨Tt _ _,fun q hq=>by rw [RA.1 hq];exact ⟨hp,hc⟩⟩
 |some q=>
  have hne:l≠ []:=fun e=>by rw [e] at h;cases h
  have hq:l.getLast hne=q:=by rw [List.getLast?_eq_some_getLast hne] at h;exact Option.some.inj h
  have he:=SM hne
  rw [hq] at he
  have hql:q∈l:=by rw [← hq];exact List.getLast_mem hne
  dsimp only
  split
  ·
   rw [← he] at hs
   obtain ⟨s1,_,s3⟩:=Sq.1 hs
   refine ⟨Sq.2 ⟨s1,Tt _ _,fun a ha b hb=> ?_⟩,fun a ha=> ?_⟩
   ·
    rw [RA.1 hb]
    exact s3 a ha q (RA.2 rfl)
   ·
    rcases Rs.1 ha with ha|ha
    ·
     have:=hl a (List.dropLast_subset l ha);omega
    ·
     rw [RA.1 ha]
     have:=hl q hql;simp only;omega
  ·
   refine ⟨Sq.2 ⟨hs,Tt _ _,fun a ha b hb=> ?_⟩,fun a ha=> ?_⟩
   ·
    rw [RA.1 hb]
    have:=hl a ha
    exact .inr ⟨by omega,this.2⟩
   ·
    rcases Rs.1 ha with ha|ha
    ·
     have:=hl a ha;omega
    ·
     rw [RA.1 ha];exact ⟨hp,hc⟩
theorem pg {A B:List Rl} {y:Int × Int} (xs:List (Int × Int)) (hs:xs.Pairwise fun p q=>p.1<q.1):(jO A B y xs).Pairwise KL∧ ∀ q∈jO A B y xs,q.rect.r1=y.1∧ ∃ x∈xs,q.rect.c1≤x.1:=by
 induction xs using tR with
 |h0=>exact ⟨.nil,fun q hq=>by cases hq⟩
 |h1 xs x ih=>
  obtain ⟨s1,_,s3⟩:=Sq.1 hs
  obtain ⟨i1,i2⟩:=ih s1
  rw [kX]
  have:=K3 (l:=jO A B y xs) (p:=mY A B y x) (y:=y.1) (c:=x.1) rfl (fun q hq=>by
   obtain ⟨h1,z,hz,h2⟩:=i2 q hq
   have:=s3 z hz x (RA.2 rfl)
   exact ⟨h1,by show q.rect.c1<x.1;omega⟩) (Ss _) i1
  exact ⟨this.1,fun q hq=>⟨(this.2 q hq).1,x,by simp,(this.2 q hq).2⟩⟩
theorem y7 (r:Rct) (A B:List Rl):(dJ r A B).Pairwise KL:=by
 unfold dJ
 have hx:(cG r.c1 r.c2 (aY r A++aY r B)).Pairwise fun p q=>p.1<q.1:=by
  refine (qK _ _ _).imp_of_mem fun {p q} hp _ h=> ?_
  have:=eG hp;omega
 have hy:(cG r.r1 r.r2 (aX r A++aX r B)).Pairwise fun p q=>p.1<q.1:=by
  refine (qK _ _ _).imp_of_mem fun {p q} hp _ h=> ?_
  have:=eG hp;omega
 generalize cG r.r1 r.r2 (aX r A++aX r B)=ys at hy
 generalize cG r.c1 r.c2 (aY r A++aY r B)=xs at hx
 induction ys with
 |nil=>exact .nil
 |cons y ys ih=>
  obtain ⟨k1,k2⟩:=RH.1 hy
  rw [Rj]
  refine Sq.2 ⟨(pg xs hx).1,ih k2,fun p hp q hq=> ?_⟩
  obtain ⟨z,hz,hq⟩:=RY.1 hq
  have h1:=((pg (A:=A) (B:=B) (y:=y) xs hx).2 p hp).1
  have h2:=((pg (A:=A) (B:=B) (y:=z) xs hx).2 q hq).1
  have h3:=k1 z hz
  exact .inl (by omega)
end Go.SL
namespace Go.SL
open Go Go.Proofs
attribute [local irreducible] W WL WQ WG WA WX WLI WR WT VOp thn blk bE scp aV bo bI aK FnIn FnP
def At (toks:List Tk) (A:Option Nat) (cap:Nat) (p:PS) (lv:Value):Prop:= ∃ k,k≤toks.length∧p.l=toks.drop k∧p.out.length≤k∧TkV lv A toks.length cap k
section
variable {toks:List Tk} {A:Option Nat} {cap:Nat} {fin:Int} {g:Nat}
def PR (toks:List Tk) (A:Option Nat) (cap:Nat) (fin:Int) (g:Nat) (R:List Blk) (r:Out) (v:Value) (H:List Blk):Prop:=v= .tuple #[]∧ ∃ n p' lv' B' cb',r= .ok (n,p')∧At toks A cap p' lv' ∧H=pB g lv' A cap fin toks B' cb' p'.out++R
def PD (R:List Blk) (r:Out) (v:Value) (H:List Blk):Prop:= ∃ e,r= .error e∧v=zq e∧MSub R H
def POK (f:Nat) (j:Job) (fid:FuncId) (args:List Value):Prop:=
 ∀ (toks:List Tk) (A:Option Nat) (cap:Nat) (fin:Int) (g:Nat) (p:PS) (lv:Value) (B:Option Nat) (cb:Nat) (r:Out) (R:List Blk) (w0:World),toks.length≤cap→toks.length≤1000→At toks A cap p lv→bq fin f j p=some r→
  FnP Tryz.prog fid (.pointer (some ⟨g,0,none⟩)::args) w0 (pB g lv A cap fin toks B cb p.out++R) (PR toks A cap fin g R r) (PD R r)
theorem bB {o:Option Out} {k:Nat→PS→Option Out} {r:Out} (h:fD o k=some r): ∃ r1,o=some r1∧((∃ e,r1= .error e∧r= .error e)∨(∃ n p',r1= .ok (n,p')∧k n p' =some r)):=by
 unfold fD at h
 split at h
 ·
  rename_i n p'
  exact ⟨_,rfl,.inr ⟨n,p',rfl,h⟩⟩
 ·
  rename_i h1
  cases r with
  |error e=>exact ⟨_,h,.inl ⟨e,rfl,rfl⟩⟩
  |ok x=>obtain ⟨n,p'⟩:=x;exact absurd h (h1 n p')
theorem At.head {p:PS} {lv:Value} (h:At toks A cap p lv) {B:Option Nat} {cb:Nat} {out:List Nd} {H:List Blk} {w0:World} (hH:MSub (pB g lv A cap fin toks B cb out) H) (w:World) (hm:Mem w0 w H):
  ay Tryz.prog 177 [.pointer (some ⟨g,0,none⟩)] w (.agg (bg (hdT fin p.l)).toArray):=by
 obtain ⟨k,h1,h2,h3,h4⟩:=h
 rw [h2]
 exact Kl h4 hH w hm
theorem At.is {p:PS} {lv:Value} (h:At toks A cap p lv) (op:Int) {B:Option Nat} {cb:Nat} {out:List Nd} {H:List Blk} {w0:World} (hH:MSub (pB g lv A cap fin toks B cb out) H) (w:World) (hm:Mem w0 w H):
  ay Tryz.prog 303 [.pointer (some ⟨g,0,none⟩),.int .i64 op] w (.bool (decide ((hdT fin p.l).kind=8∧(hdT fin p.l).num=op))):=by
 obtain ⟨k,h1,h2,h3,h4⟩:=h
 rw [h2]
 exact Pd op h4 hH w hm
def At1 (toks:List Tk) (A:Option Nat) (cap:Nat) (p:PS) (lv:Value):Prop:= ∃ k,k≤toks.length∧p.l=toks.drop k∧p.out.length+1≤k∧TkV lv A toks.length cap k
theorem At.skip {p:PS} {lv:Value} (h:At toks A cap p lv) (hc:toks.length≤cap) {c:Int} (hk:(hdT fin p.l).kind=c) (h0:c≠0) {B:Option Nat} {cb:Nat} {out:List Nd} {H R:List Blk} {w0:World} (hH:MSub (pB g lv A cap fin toks B cb out++R) H):
  FnIn Tryz.prog 275 [.pointer (some ⟨g,0,none⟩)] w0 H fun v H=>v= .tuple #[]∧ ∃ lv',At1 toks A cap p.skip lv' ∧H=pB g lv' A cap fin toks B cb out++R:=by
 obtain ⟨k,h1,h2,h3,h4⟩:=h
 have hpos:=jd hk h0
 rw [h2,Rk] at hpos
 refine (Kk g lv A cap fin toks k h4 (by omega) hc B cb out R w0).msub hH|>.mono ?_
 rintro v H' ⟨rfl,lv',h5,rfl⟩
 exact ⟨rfl,lv',⟨k+1,by omega,by simp only [PS.skip];rw [h2,TF],by simp only [PS.skip];omega,h5⟩,rfl⟩
theorem At1.at {p:PS} {lv:Value} (h:At1 toks A cap p lv):At toks A cap p lv:=let ⟨k,h1,h2,h3,h4⟩:=h;⟨k,h1,h2,by omega,h4⟩
theorem At1.put {p:PS} {lv:Value} (h:At1 toks A cap p lv) (n:Nd):At toks A cap (p.put n) lv:=let ⟨k,h1,h2,h3,h4⟩:=h;⟨k,h1,h2,by simp only [PS.put,QP,QS];exact h3,h4⟩
theorem At.len {p:PS} {lv:Value} (h:At toks A cap p lv) (hl:toks.length≤1000):p.out.length≤1000000:=let ⟨k,h1,h2,h3,h4⟩:=h;by omega
theorem At1.grew {p p' :PS} {lv lv' :Value} {q:Prop} (h:At1 toks A cap p lv) (h' :At toks A cap p' lv') (hg:Grew p p' q):At1 toks A cap p' lv' :=by
 obtain ⟨k,h1,h2,h3,h4⟩:=h
 obtain ⟨k',g1,g2,g3,g4⟩:=h'
 obtain ⟨⟨m,e1,e2,e3⟩,_,_⟩:=hg
 rw [h2,Sw] at e1
 rw [h2,Rk] at e2
 have hk:k' =k+m:=by
  have:=congrArg List.length (g2.symm.trans e1)
  rw [Rk,Rk] at this
  omega
 exact ⟨k',g1,g2,by omega,g4⟩
theorem ed {fn:Func} {fr:Fr} {w0:World} {R H:List Blk} {r:Out} {n:Nat} {p' :PS} {lv' :Value} {B' :Option Nat} {cb' :Nat} {e:Exit} {s:az} (he:e= .ret∨e= .normal) (hf:fn.results= #[]) (hr:r= .ok (n,p')) (hat:At toks A cap p' lv') (hs:MSub (pB g lv' A cap fin toks B' cb' p'.out++R) H):
  bo Tryz.prog fn fr w0 (PR toks A cap fin g R r) (PD R r) e s H:=Ql (fO he hf hs ⟨rfl,n,p',lv',B',cb',hr,hat,rfl⟩)
theorem cP {fn:Func} {fr:Fr} {w0:World} {R H:List Blk} {r:Out} {e:Int × Int} {s:az} {Rok:Value→List Blk→Prop} (hr:r= .error e) (hs:MSub R H):
  bo Tryz.prog fn fr w0 Rok (PD R r) (.panic (jf (zq e))) s H:=Ot (.refl _) ⟨e,hr,rfl,hs⟩
set_option maxHeartbeats 1000000 in
theorem MT (f:Nat) (ihS:POK f .sign 272 []) (ihP:POK f .pct 304 []):POK (f+1) .sign 272 []:=by
 intro toks A cap fin g p lv B cb r R w0 hc hl hat hrun
 refine vY Tryz.func272 rfl Tryz.ntmps272 rfl ?_
 rw [bq] at hrun
 dsimp only at hrun
 have hi:=fun w hm=>hat.is 2 (fin:=fin) (g:=g) (B:=B) (cb:=cb) (out:=p.out) (H:=pB g lv A cap fin toks B cb p.out++R) (w0:=w0) (MSub.pick .hd (.pick .hd (.pick .hd (.nil _)))) w hm
 by_cases hs:(hdT fin p.l).kind=8∧(hdT fin p.l).num=2
 ·
  rw [if_pos hs] at hrun
  obtain ⟨r1,hr1,hr2⟩:=bB hrun
  rw [decide_eq_true hs] at hi
  repeat' (first|(apply aa (f:=303);exact rfl;exact rfl;exact hi)|(apply aw (f:=275);exact rfl;exact rfl;exact hat.skip hc hs.1 (by decide) (MSub.pick pK (MSub.pick pK (MSub.pick pK (MSub.refl _))));rintro _ _ ⟨rfl,lv1,h1,rfl⟩)|(refine bF (f:=272) rfl rfl (FnP.msub (ihS toks A cap fin g p.skip _ B cb r1 _ w0 hc hl (At1.at h1) hr1) (MSub.pick pK (MSub.pick pK (MSub.pick pK (MSub.refl _))))) ?_ ?_)|(rintro _ _ ⟨rfl,n,p',lv',B',cb',rfl,h2,rfl⟩)|(rintro _ _ ⟨e,rfl,rfl,h3⟩)|(apply aw (f:=276);exact rfl;exact rfl;exact FnIn.msub (kr (dz 4 0) _ _ _ _ _ _ _ _ _ (At.len h2 hl) _ _) (MSub.pick pK (MSub.pick pK (MSub.pick pK (MSub.refl _))));rintro _ _ ⟨rfl,B2,cb2,rfl⟩)|refine sT ?_|refine sP ?_|refine sM fun _=> ?_|(refine sC ?_ ?_<;>intro hb<;>try omega)|fail)
  ·
   rcases hr2 with ⟨e,h,_⟩|⟨n1,p1,h,h5⟩
   ·
    cases h
   ·
    cases h
    cases h5
    exact ed (p' :=p'.put (dz 4 0)) (.inl rfl) rfl rfl ((h1.grew h2 (jA _ _ _ _ _ _ hr1)).put _) (.refl _)
  ·
   rcases hr2 with ⟨e',h,h5⟩|⟨n1,p1,h,h5⟩
   ·
    cases h
    exact cP h5 h3
   ·
    cases h
 ·
  rw [if_neg hs] at hrun
  rw [decide_eq_false hs] at hi
  obtain ⟨r1,hr1,hr2⟩:=bB hrun
  repeat' (first|(apply aa (f:=303) (d:=3);exact rfl;exact rfl;exact hi)|(refine bF (f:=304) rfl rfl (FnP.msub (ihP toks A cap fin g p _ B cb r1 _ w0 hc hl hat hr1) (MSub.pick pK (MSub.pick pK (MSub.pick pK (MSub.refl _))))) ?_ ?_)|(rintro _ _ ⟨rfl,n,p',lv',B',cb',rfl,h2,rfl⟩)|(rintro _ _ ⟨e,rfl,rfl,h3⟩)|refine sT ?_|refine sP ?_|refine sM fun _=> ?_|(refine sC ?_ ?_<;>intro hb<;>try omega)|fail)
  ·
   rcases hr2 with ⟨e,h,_⟩|⟨n1,p1,h,h5⟩
   ·
    cases h
   cases h
   have hi2:=fun w hm=>h2.is 5 (fin:=fin) (g:=g) (B:=B') (cb:=cb') (out:=p'.out) (H:=pB g lv' A cap fin toks B' cb' p'.out++R) (w0:=w0) (MSub.pick .hd (.pick .hd (.pick .hd (.nil _)))) w hm
   by_cases hs5:(hdT fin p'.l).kind=8∧(hdT fin p'.l).num=5
   ·
    rw [if_pos hs5] at h5
    rw [decide_eq_true hs5] at hi2
    obtain ⟨r2,hr3,hr4⟩:=bB h5
    repeat' (first|(apply aa (f:=303) (d:=14);exact rfl;exact rfl;exact hi2)|(apply aw (f:=275);exact rfl;exact rfl;exact h2.skip hc hs5.1 (by decide) (MSub.pick pK (MSub.pick pK (MSub.pick pK (MSub.refl _))));rintro _ _ ⟨rfl,lv1,h1,rfl⟩)|(refine bF (f:=272) rfl rfl (FnP.msub (ihS toks A cap fin g p'.skip _ B' cb' r2 _ w0 hc hl (At1.at h1) hr3) (MSub.pick pK (MSub.pick pK (MSub.pick pK (MSub.refl _))))) ?_ ?_)|(rintro _ _ ⟨rfl,n2,p2,lv2,B2,cb2,rfl,h6,rfl⟩)|(rintro _ _ ⟨e,rfl,rfl,h3⟩)|(apply aw (f:=276);exact rfl;exact rfl;exact FnIn.msub (kr (dz 6 5) _ _ _ _ _ _ _ _ _ (At.len h6 hl) _ _) (MSub.pick pK (MSub.pick pK (MSub.pick pK (MSub.refl _))));rintro _ _ ⟨rfl,B3,cb3,rfl⟩)|refine sT ?_|refine sP ?_|refine sM fun _=> ?_|(refine sC ?_ ?_<;>intro hb<;>try omega)|fail)
    ·
     rcases hr4 with ⟨e,h,_⟩|⟨n3,p3,h,h7⟩
     ·
      cases h
     ·
      cases h
      cases h7
      exact ed (p' :=p2.put (dz 6 5)) (.inr rfl) rfl rfl ((h1.grew h6 (jA _ _ _ _ _ _ hr3)).put _) (.refl _)
    ·
     rcases hr4 with ⟨e',h,h7⟩|⟨n3,p3,h,h7⟩
     ·
      cases h
      exact cP h7 h3
     ·
      cases h
   ·
    rw [if_neg hs5] at h5
    rw [decide_eq_false hs5] at hi2
    cases h5
    repeat' (first|(apply aa (f:=303) (d:=14);exact rfl;exact rfl;exact hi2)|refine sT ?_|refine sP ?_|refine sM fun _=> ?_|(refine sC ?_ ?_<;>intro hb<;>try omega)|fail)
    exact ed (.inr rfl) rfl rfl h2 (.refl _)
  ·
   rcases hr2 with ⟨e',h,h5⟩|⟨n1,p1,h,h5⟩
   ·
    cases h
    exact cP h5 h3
   ·
    cases h
set_option maxHeartbeats 1000000 in
theorem Ed (f:Nat) (ihP:POK f .prim 335 []):POK (f+1) .pct 304 []:=by
 intro toks A cap fin g p lv B cb r R w0 hc hl hat hrun
 refine vY Tryz.func304 rfl Tryz.ntmps304 rfl ?_
 rw [bq] at hrun
 obtain ⟨r1,hr1,hr2⟩:=bB hrun
 repeat' (first|(refine bF (f:=335) rfl rfl (FnP.msub (ihP toks A cap fin g p _ B cb r1 _ w0 hc hl hat hr1) (MSub.pick pK (MSub.pick pK (MSub.pick pK (MSub.refl _))))) ?_ ?_)|(rintro _ _ ⟨rfl,n,p',lv',B',cb',rfl,h2,rfl⟩)|(rintro _ _ ⟨e,rfl,rfl,h3⟩)|refine sT ?_|refine sP ?_|refine sM fun _=> ?_|(refine sC ?_ ?_<;>intro hb<;>try omega)|fail)
 ·
  rcases hr2 with ⟨e,h,_⟩|⟨n1,p1,h,h5⟩
  ·
   cases h
  cases h
  refine ax [0] rfl (fun _:Nat × PS × Value × Option Nat × Nat=> []) (fun x=>pB g x.2.2.1 A cap fin toks x.2.2.2.1 x.2.2.2.2 x.2.1.out++R) (fun x=>At toks A cap x.2.1 x.2.2.1∧bq fin x.1 .pctl x.2.1=some r) (fun x=>x.1) (f,p',lv',B',cb') ⟨h2,h5⟩ sB (.refl _) ?_
  rintro ⟨f',q,lq,Bq,cq⟩ ⟨hq1,hq2⟩
  dsimp only at hq1 hq2 ⊢
  cases f' with
  |zero=>cases hq2
  |succ f' =>
   rw [bq] at hq2
   have hi:=fun w hm=>hq1.is 13 (fin:=fin) (g:=g) (B:=Bq) (cb:=cq) (out:=q.out) (H:=pB g lq A cap fin toks Bq cq q.out++R) (w0:=w0) (MSub.pick .hd (.pick .hd (.pick .hd (.nil _)))) w hm
   by_cases hs:(hdT fin q.l).kind=8∧(hdT fin q.l).num=13
   ·
    rw [if_pos hs] at hq2
    rw [decide_eq_true hs] at hi
    repeat' (first|(apply aa (f:=303);exact rfl;exact rfl;exact hi)|(apply aw (f:=275);exact rfl;exact rfl;exact hq1.skip hc hs.1 (by decide) (MSub.pick pK (MSub.pick pK (MSub.pick pK (MSub.refl _))));rintro _ _ ⟨rfl,lv1,h1,rfl⟩)|(apply aw (f:=276);exact rfl;exact rfl;exact FnIn.msub (kr (dz 5 0) _ _ _ _ _ _ _ _ _ (At.len hq1 hl) _ _) (MSub.pick pK (MSub.pick pK (MSub.pick pK (MSub.refl _))));rintro _ _ ⟨rfl,B2,cb2,rfl⟩)|refine sT ?_|refine sP ?_|refine sM fun _=> ?_|(refine sC ?_ ?_<;>intro hb<;>try omega)|fail)
    refine ⟨(f',q.skip.put (dz 5 0),lv1,B2,cb2),⟨h1.put _,hq2⟩,Tv _,sB,sB,.refl _⟩
   ·
    rw [if_neg hs] at hq2
    rw [decide_eq_false hs] at hi
    cases hq2
    repeat' (first|(apply aa (f:=303);exact rfl;exact rfl;exact hi)|refine sT ?_|refine sP ?_|refine sM fun _=> ?_|(refine sC ?_ ?_<;>intro hb<;>try omega)|fail)
    exact ed (by first|exact .inr rfl|exact .inl rfl) rfl rfl hq1 (.refl _)
 ·
  rcases hr2 with ⟨e',h,h5⟩|⟨n1,p1,h,h5⟩
  ·
   cases h
   exact cP h5 h3
  ·
   cases h
end
end Go.SL
namespace Go.SL
open Go Go.Proofs
attribute [local irreducible] W WL WQ WG WA WX WLI WR WT WC VOp RW thn blk bE scp aV bo bI aK FnIn FnP ceP
theorem cj {P:Program} {n:Fr} {w0:World} {Q:bU} {s:az} {H:List Blk} {l:List Oper} {id:Nat} (es ps:List Nat) (hm:P.follows .mixedOrders=true) (hB:Region.lexB .any l.toArray=true) (hch:EX l es ps=true)
  (h:WC P n w0 l H es ps Q l 0 s H):W P n w0 (.region id l.toArray true) Q s H:=iL es ps H hm hB hch (MSub.refl H) h
theorem IJ (L:List Us): ∀ u∈L.flatMap fC,u.oneCell' =true:=by
 intro u hu
 obtain ⟨n,_,h⟩:=RY.1 hu
 simp only [fC,Rd,S0,or_false] at h
 rcases h with rfl|rfl|rfl|rfl|rfl|rfl<;>rfl
theorem Jf (L:List Us) (tv:Value) (w:World) (ht:Reads w tv L.length (L.flatMap fC)) (hlen:L.length≤1000000):
  aK Tryz.prog 157 [tv] w fun v H=> ∃ A cap,v=sl A L.length cap∧H= [.own A 159 6 L.length cap (L.flatMap fC)]:=by
 have ht' :=ht
 obtain ⟨At,ct,rfl,ht1,ht2,ht3⟩:=ht
 refine aq Tryz.func157 rfl Tryz.ntmps157 rfl ?_
 have hl:(L.flatMap fC).length=L.length*6:=aP Cw L
 refine aH 159 6 ?_
 repeat' (first|(apply ak;exact rfl;apply kT;exact rfl)|(apply dq;exact rfl;intro gb)|(apply dr (n' :=0) (c:=0) (A:=some _) (m:=L.length);(iterate 3 exact rfl);exact pK;(intro w hm;exact ht'.of_w0 hm);exact hl;exact IJ L;omega;(simp only [maxLen];omega);intro A' cap' hA)|refine sT ?_|refine sM fun _=> ?_|(refine sC ?_ ?_<;>intro hb<;>try omega)|fail)
 ·
  have e:L.length=0:=by
   rcases Sf L.length with h|h
   ·
    exact h
   ·
    obtain ⟨g,o,rfl,_⟩:=ht3 h
    cases hb
  have e' :L= []:=RK e
  subst e'
  exact cH (.inl rfl) Tryz.results157 rfl (.refl _) ⟨none,0,rfl,rfl⟩
 ·
  exact cH (.inl rfl) Tryz.results157 rfl (H' := [.own A' 159 6 (0+L.length) cap' ([]++L.flatMap fC)]) mS ⟨A',cap',by rw [RB],by rw [RB];rfl⟩
structure En where
 at_:Rf
 ta:Option Addr
 tc:Nat
 ua:Option Addr
 uc:Nat
 tree:List Nd
 uses:List Us
 born:Nat
def En.tv (e:En):Value:= .slice e.ta e.tree.length e.tc
def En.uv (e:En):Value:= .slice e.ua e.uses.length e.uc
def En.m (e:En):Rf × Value × Nat:=(e.at_,.agg #[e.tv,e.uv],e.born)
abbrev Jh:Value:= .agg [Value.slice none 0 0,.slice none 0 0].toArray
def rdIn (R:List Blk) (v:Value) (m:Nat) (xs:List Value):Prop:= ∀ w0 w,Mem w0 w R→Reads w v m xs
theorem rdIn.sub {R R' :List Blk} {v:Value} {m:Nat} {xs:List Value} (h:rdIn R v m xs) (hs:MSub R R'):rdIn R' v m xs:=fun w0 w hm=>h w0 w (hs.use hm)
theorem rdIn.nil (R:List Blk):rdIn R (.slice none 0 0) 0 []:=fun _ _ _=>⟨none,0,rfl,QV _,QX _,fun h=>by cases h⟩
theorem rdIn.own {R:List Blk} {A:Option Nat} {t sz m c:Nat} {xs:List Value} (hi:In (.own A t sz m c xs) R):rdIn R (sl A m c) m xs:=fun _ _ hm=>Reads.of_own hm hi
structure EnOk (R:List Blk) (e:En):Prop where
 tree:rdIn R e.tv e.tree.length (e.tree.flatMap bX)
 uses:rdIn R e.uv e.uses.length (e.uses.flatMap fC)
 tl:e.tree.length≤1000000
 ul:e.uses.length≤1000000
theorem EnOk.sub {R R' :List Blk} {e:En} (h:EnOk R e) (hs:MSub R R'):EnOk R' e:=⟨h.tree.sub hs,h.uses.sub hs,h.tl,h.ul⟩
def yu (a:Rf):En:=⟨a,none,0,none,0,[],[],0⟩
theorem Gx (R:List Blk) (a:Rf):EnOk R (yu a):=⟨rdIn.nil _,rdIn.nil _,by simp [yu],by simp [yu]⟩
def nH (E:List En) (a:Rf):Option En:=E.find? fun e=>decide (e.at_=a)
def jT (E:List En) (a:Rf):En:=(nH E a).getD (yu a)
theorem IA {E:List En} {a:Rf} {e:En} (h:nH E a=some e):e∈E:=Ti h
theorem Iw {R:List Blk} {E:List En} (h: ∀ e∈E,EnOk R e) (a:Rf):EnOk R (jT E a):=by
 unfold jT
 cases hf:nH E a with
 |none=>exact Gx _ _
 |some e=>exact h e (IA hf)
theorem Nq (E:List En) (a:Rf): ∀ i:Nat,(cy a (E.map En.m) i).map (fun x=>x.2)=(nH E a).map fun e=>e.m.2.1:=by
 induction E with
 |nil=>intro i;rfl
 |cons e r ih=>
  intro i
  simp only [Rz,cy,nH,List.find?_cons]
  by_cases h:a=e.at_
  ·
   simp [En.m,h]
  ·
   have h' : ¬ e.at_=a:=fun x=>h x.symm
   simp only [En.m,h,if_false,h',decide_false]
   exact ih (i+1)
theorem PA (E:List En) (a:Rf):(match cy a (E.map En.m) 0 with|some (_,v)=>v|none=>Jh)= .agg #[(jT E a).tv,(jT E a).uv]:=by
 have h:=Nq E a 0
 unfold jT
 cases hk:cy a (E.map En.m) 0 with
 |none=>rw [hk] at h;cases hf:nH E a with
  |none=>rfl
  |some e=>rw [hf] at h;cases h
 |some x=>rw [hk] at h;cases hf:nH E a with
  |none=>rw [hf] at h;cases h
  |some e=>rw [hf] at h;exact Option.some.inj h
instance klaw_key:KLaw Tryz.prog 50 pE:=klaw_F
instance:FldT Tryz.prog 206 1 156 1:=⟨_,_,Tryz.underlying206,rfl,rfl,rfl⟩
set_option maxHeartbeats 1000000 in
theorem NX (gg gm clock:Nat) (E:List En) (a:Rf) (R:List Blk) (w0:World) (hE: ∀ e∈E,EnOk R e):
  FnIn Tryz.prog 125 [.pointer (some ⟨gg,0,none⟩),pE a] w0 (gB gg gm (E.map En.m) clock++R) fun v H=> ∃ A cap,v=sl A (jT E a).uses.length cap∧H= .own A 159 6 (jT E a).uses.length cap ((jT E a).uses.flatMap fC)::(gB gg gm (E.map En.m) clock++R):=by
 refine dD Tryz.func125 rfl Tryz.ntmps125 rfl ?_
 have hl:=PA E a
 have hok:=Iw hE a
 generalize jT E a=e at hl hok
 have hcl:=fun (w' :World) (H' :List Blk) (hs:MSub R H') (hm:Mem w0 w' H')=>Jf e.uses e.uv w' (hok.uses _ w' (hs.use hm)) hok.ul
 unfold gB
 repeat' (first|(apply ak;exact rfl;apply ib;exact rfl)|(apply cj (id:=3) [7] [];kernel_rfl;kernel_rfl;kernel_rfl)|(apply da;(iterate 3 exact rfl);apply uz (enc:=pE) (z:=Jh);exact rfl;exact rfl;exact pK;exact hl)|(apply da;(iterate 3 exact rfl);apply cO;exact rfl;exact rfl)|(apply aA (f:=157);exact rfl;exact rfl;(intro w' hm;exact hcl w' _ mS hm);rintro _ _ ⟨A,cap,rfl,rfl⟩)|refine sT ?_|refine sS ?_|refine sW ?_|refine sM fun _=> ?_|(refine sC ?_ ?_<;>intro hb<;>try omega)|(refine sCW ?_ ?_<;>intro hb<;>try omega)|fail)
 all_goals exact cH eIO rfl rfl mS ⟨A,cap,rfl,rfl⟩
end Go.SL
namespace Go.SL
open Go Go.Proofs
attribute [local irreducible] W WL WQ WG WA WX WLI WR WT VOp thn blk bE scp aV bo bI aK FnIn FnP
def tI (g g2 g3:Nat) (k:Int) (R:List Blk):List Blk:= .box g2 224 [.pointer (some ⟨g,0,none⟩)]:: .box g3 3 [.int .i64 k]::R
theorem H7 (f:Nat) (k:Int) (h1:1≤k) (h4:k≤3) (ih:POK f (.level (k+1)) 226 [.int .i64 (k+1)]) (toks:List Tk) (A:Option Nat) (cap:Nat) (fin:Int) (g:Nat) (p:PS) (lv:Value) (B:Option Nat) (cb:Nat) (r:Out) (R:List Blk) (w0:World) (g2 g3:Nat) (hc:toks.length≤cap) (hl:toks.length≤1000) (hat:At toks A cap p lv) (hr:bq fin f (.level (k+1)) p=some r):
  FnP Tryz.prog 273 [.pointer (some ⟨g2,0,none⟩),.pointer (some ⟨g3,0,none⟩)] w0 (pB g lv A cap fin toks B cb p.out++tI g g2 g3 k R) (PR toks A cap fin g (tI g g2 g3 k R) r) (PD (tI g g2 g3 k R) r):=by
 refine vY Tryz.func273 rfl Tryz.ntmps273 rfl ?_
 repeat' (first|(refine bF (f:=226) rfl rfl (ih toks A cap fin g p lv B cb r _ w0 hc hl hat hr) ?_ ?_)|(rintro _ _ ⟨rfl,n,p',lv',B',cb',rfl,h2,rfl⟩)|(rintro _ _ ⟨e,rfl,rfl,h3⟩)|refine sT ?_|refine sP ?_|refine sJ ?_|refine sM fun _=> ?_|(refine sC ?_ ?_<;>intro hb<;>try omega)|exact cT|fail)
 ·
  exact ed (by first|exact .inr rfl|exact .inl rfl) rfl rfl h2 (.refl _)
 ·
  exact cP rfl h3
def Oh (f:Nat) (k:Int) (toks:List Tk) (A:Option Nat) (cap:Nat) (fin:Int) (g g2 g3:Nat) (w0:World) (bv:Value):Prop:=
 ∃ (fid:FuncId) (bs caps:List Value),bv= .func (.func fid) bs.toArray caps.toArray∧Callable Tryz.prog fid∧ ∀ (f' :Nat) (p:PS) (lv:Value) (B:Option Nat) (cb:Nat) (r:Out) (R:List Blk),f' ≤f→At toks A cap p lv→bq fin f' (.level (k+1)) p=some r→
  FnP Tryz.prog fid (bs++([]++caps)) w0 (pB g lv A cap fin toks B cb p.out++tI g g2 g3 k R) (PR toks A cap fin g (tI g g2 g3 k R) r) (PD (tI g g2 g3 k R) r)
set_option maxHeartbeats 2000000 in
theorem KP (f:Nat) (k:Int) (h1:1≤k) (h4:k≤4) (ihL:k≤3→ ∀ f' ≤f,POK f' (.level (k+1)) 226 [.int .i64 (k+1)]) (ihS: ∀ f' ≤f,POK f' .sign 272 []):POK (f+1) (.level k) 226 [.int .i64 k]:=by
  intro toks A cap fin g p lv B cb r R w0 hc hl hat hrun
  refine vY Tryz.func226 rfl Tryz.ntmps226 rfl ?_
  rw [bq,if_neg (by omega)] at hrun
  obtain ⟨r1,hr1,hr2⟩:=bB hrun
  repeat' (first|(apply ak;exact rfl;apply lK;exact rfl)|(rename_i g2 g3;refine FE (id:=2) [2,3] rfl (ι:=Value) (fun bv=> [(4,bv)]) (fun bv=>Oh f k toks A cap fin g g2 g3 w0 bv) ?_ ?_)|refine cC (_) ?_ sB mS|refine sT ?_|refine sP ?_|refine sM fun _=> ?_|(refine sC ?_ ?_<;>intro hb<;>try omega)|exact cT|fail)
  · exact ⟨_,[],_,rfl,inferInstance,fun f' p lv B cb r R hf' hat' hr' =>H7 f' k h1 (by omega) (ihL (by omega) f' hf') toks A cap fin g p lv B cb r R w0 _ _ hc hl hat' hr'⟩
  · have hk:k=4:=by omega
    subst hk
    refine ⟨_,_,[],rfl,inferInstance,fun f' p lv B cb r R hf' hat' hr' => ?_⟩
    cases f' with
    |zero=>cases hr'
    |succ f'' =>
      rw [bq,if_pos (by decide)] at hr'
      exact ihS f'' (by omega) toks A cap fin g p lv B cb r _ w0 hc hl hat' hr'
  · rintro bv ⟨fid,bs,caps,rfl,hcl,hbel⟩
    repeat' (first|(refine w7 (f:=fid) rfl rfl hcl rfl (FnP.msub (hbel f p lv B cb r1 _ (QV _) hat hr1) (MSub.pick pK (MSub.pick pK (MSub.pick pK (MSub.pick pK (MSub.pick pK (MSub.refl _))))))) ?_ ?_)|(rintro _ _ ⟨rfl,n,p',lv',B',cb',rfl,h2,rfl⟩)|(rintro _ _ ⟨e,rfl,rfl,h3⟩)|refine sT ?_|refine sP ?_|refine sM fun _=> ?_|(refine sC ?_ ?_<;>intro hb<;>try omega)|exact cT|fail)
    · rcases hr2 with ⟨e,h,_⟩|⟨n1,p1,h,h5⟩
      · cases h
      cases h
      refine ax [2,3,4] rfl (fun _:Nat × PS × Value × Option Nat × Nat=> []) (fun x=>pB g x.2.2.1 A cap fin toks x.2.2.2.1 x.2.2.2.2 x.2.1.out++tI g g2 g3 k R) (fun x=>x.1≤f∧At toks A cap x.2.1 x.2.2.1∧bq fin x.1 (.loop k) x.2.1=some r) (fun x=>x.1) (f,p',lv',B',cb') ⟨QV _,h2,h5⟩ sB (.refl _) ?_
      rintro ⟨f',q,lq,Bq,cq⟩ ⟨hf',hq1,hq2⟩
      dsimp only at hf' hq1 hq2 ⊢
      cases f' with
      |zero=>cases hq2
      |succ f' =>
        rw [bq] at hq2
        have hh:=fun w hm=>hq1.head (fin:=fin) (g:=g) (B:=Bq) (cb:=cq) (out:=q.out) (H:=pB g lq A cap fin toks Bq cq q.out++tI g g2 g3 k R) (w0:=w0) (MSub.pick .hd (.pick .hd (.pick .hd (.nil _)))) w hm
        obtain ⟨t,ht⟩: ∃ t,hdT fin q.l=t:=⟨_,rfl⟩
        rw [ht] at hq2 hh
        by_cases hs:t.kind=8∧f9 t.num=k
        · rw [if_pos hs] at hq2
          obtain ⟨hs8,hsk⟩:=hs
          obtain ⟨r2,hr3,hr4⟩:=bB hq2
          repeat' (first|(apply aa (f:=177);exact rfl;exact rfl;exact hh)|(apply aa (f:=274);exact rfl;exact rfl;(intro w' _;exact xJ _ w'))|(apply aw (f:=275);exact rfl;exact rfl;exact hq1.skip hc (ht ▸ hs8) (by decide) (MSub.pick pK (MSub.pick pK (MSub.pick pK (MSub.refl _))));rintro _ _ ⟨rfl,lv1,h1',rfl⟩)|(refine w7 (f:=fid) rfl rfl hcl rfl (FnP.msub (hbel f' q.skip lv1 Bq cq r2 _ (by omega) (At1.at h1') hr3) (MSub.pick pK (MSub.pick pK (MSub.pick pK (MSub.pick pK (MSub.pick pK (MSub.refl _))))))) ?_ ?_)|(rintro _ _ ⟨rfl,n2,p2,lv2,B2,cb2,rfl,h6,rfl⟩)|(rintro _ _ ⟨e,rfl,rfl,h3⟩)|(apply aw (f:=276);exact rfl;exact rfl;exact FnIn.msub (kr (dz 6 t.num) _ _ _ _ _ _ _ _ _ (At.len h6 hl) _ _) (MSub.pick pK (MSub.pick pK (MSub.pick pK (MSub.refl _))));rintro _ _ ⟨rfl,B3,cb3,rfl⟩)|refine sT ?_|refine sP ?_|refine sM fun _=> ?_|(refine sC ?_ ?_<;>intro hb<;>try omega)|exact cT|fail)
          · rcases hr4 with ⟨e,h,_⟩|⟨n3,p3,h,h7⟩
            · cases h
            · cases h
              refine ⟨(f',p2.put (dz 6 t.num),lv2,B3,cb3),⟨by omega,(h1'.grew h6 (jA _ _ _ _ _ _ hr3)).put _,h7⟩,Tv _,sB,sB,?_⟩
              dsimp only [tI,List.cons_append,List.nil_append,pB]
              exact mS
          · rcases hr4 with ⟨e',h,h7⟩|⟨n3,p3,h,h7⟩
            · cases h
              exact cP h7 (MSub.trans (by unfold tI;exact .drop (.tl (.tl .hd)) (.drop .hd (.drop .hd (.refl _)))) h3)
            · cases h
        · rw [if_neg hs] at hq2
          cases hq2
          repeat' (first|(apply aa (f:=177);exact rfl;exact rfl;exact hh)|(apply aa (f:=274);exact rfl;exact rfl;(intro w' _;exact xJ _ w'))|refine sT ?_|refine sP ?_|refine sM fun _=> ?_|(refine sC ?_ ?_<;>intro hb<;>try omega)|exact cT|fail)
          all_goals first
            |(exfalso;omega)
            | (refine ed (B' := Bq) (cb' := cq) (by first | exact .inr rfl | exact .inl rfl) rfl rfl hq1 ?_
               dsimp only [tI,List.cons_append,List.nil_append,pB]
               exact mS)
    · rcases hr2 with ⟨e',h,h5⟩|⟨n1,p1,h,h5⟩
      · cases h
        exact cP h5 (MSub.trans (by unfold tI;exact .drop .hd (.drop .hd (.refl _))) h3)
      · cases h
def N9 (F:Int→PS→Option Out) (fid:FuncId) (args:List Value):Prop:=
 ∀ (toks:List Tk) (A:Option Nat) (cap:Nat) (fin:Int) (g:Nat) (p:PS) (lv:Value) (B:Option Nat) (cb:Nat) (r:Out) (R:List Blk) (w0:World),toks.length≤cap→toks.length≤1000→At toks A cap p lv→F fin p=some r→
  FnP Tryz.prog fid (.pointer (some ⟨g,0,none⟩)::args) w0 (pB g lv A cap fin toks B cb p.out++R) (PR toks A cap fin g R r) (PD R r)
def FA (c:Int) (fin:Int) (p:PS):Option Out:=if (hdT fin p.l).kind≠c then some (.error ((hdT fin p.l).at_,4)) else some (.ok (0,p.skip))
theorem yH (c:Int) (h0:c≠0):N9 (FA c) 355 [.int .u8 c]:=by
  intro toks A cap fin g p lv B cb r R w0 hc hl hat hrun
  refine vY Tryz.func355 rfl Tryz.ntmps355 rfl ?_
  have hh:=fun w hm=>hat.head (fin:=fin) (g:=g) (B:=B) (cb:=cb) (out:=p.out) (H:=pB g lv A cap fin toks B cb p.out++R) (w0:=w0) (MSub.pick .hd (.pick .hd (.pick .hd (.nil _)))) w hm
  unfold FA at hrun
  obtain ⟨t,ht⟩: ∃ t,hdT fin p.l=t:=⟨_,rfl⟩
  rw [ht] at hrun hh
  by_cases hk:t.kind≠c
  · rw [if_pos hk] at hrun
    cases hrun
    repeat' (first|(apply aa (f:=177);exact rfl;exact rfl;exact hh)|(refine bF (f:=178) rfl rfl (iW _ _ _ _ _ (fun _ _=>False)) ?_ ?_)|(exact fun _ _ h=>h.elim)|(rintro _ _ ⟨rfl,rfl⟩)|refine sT ?_|refine sP ?_|refine sM fun _=> ?_|(refine sC ?_ ?_<;>intro hb<;>try omega)|fail)
    all_goals first
      |(exfalso;omega)
      | (refine cP rfl ?_
         dsimp only [List.cons_append,List.nil_append,pB]
         exact mS)
  · rw [if_neg hk] at hrun
    cases hrun
    repeat' (first|(apply aa (f:=177);exact rfl;exact rfl;exact hh)|(apply aw (f:=275);exact rfl;exact rfl;exact hat.skip hc (c:=c) (by rw [ht];omega) h0 (MSub.pick pK (MSub.pick pK (MSub.pick pK (MSub.refl _))));rintro _ _ ⟨rfl,lv1,h1,rfl⟩)|refine sT ?_|refine sP ?_|refine sM fun _=> ?_|(refine sC ?_ ?_<;>intro hb<;>try omega)|fail)
    all_goals first
      |(exfalso;omega)
      | (refine ed (B' := B) (cb' := cb) (by first | exact .inr rfl | exact .inl rfl) rfl rfl (At1.at h1) ?_
         dsimp only [List.cons_append,List.nil_append,pB]
         exact mS)
theorem pW (v:Vl):N9 (fun fin p=>if (hdT fin p.l).kind=0 then none else some (.ok (0,p.skip.put ⟨1,v,aL,0,0,0⟩))) 354 [.agg (dA v).toArray]:=by
 intro toks A cap fin g p lv B cb r R w0 hc hl hat hrun
 refine vY Tryz.func354 rfl Tryz.ntmps354 rfl ?_
 dsimp only at hrun
 by_cases hk:(hdT fin p.l).kind=0
 ·
  rw [if_pos hk] at hrun;cases hrun
 rw [if_neg hk] at hrun
 cases hrun
 repeat' (first|(apply aw (f:=275);exact rfl;exact rfl;exact hat.skip hc rfl hk (MSub.pick pK (MSub.pick pK (MSub.pick pK (MSub.refl _))));rintro _ _ ⟨rfl,lv1,h1,rfl⟩)|(apply aw (f:=276);exact rfl;exact rfl;exact FnIn.msub (kr ⟨1,v,aL,0,0,0⟩ _ _ _ _ _ _ _ _ _ (At.len hat hl) _ _) (MSub.pick pK (MSub.pick pK (MSub.pick pK (MSub.refl _))));rintro _ _ ⟨rfl,B3,cb3,rfl⟩)|refine sT ?_|refine sP ?_|refine sM fun _=> ?_|(refine sC ?_ ?_<;>intro hb<;>try omega)|fail)
 all_goals
  refine ed (p' :=p.skip.put ⟨1,v,aL,0,0,0⟩) (B' :=B3) (cb' :=cb3) (by first|exact .inr rfl|exact .inl rfl) rfl rfl (h1.put _) ?_
  dsimp only [List.cons_append,List.nil_append,pB]
  exact mS
theorem EC (f:Nat) (ih:POK f (.level 1) 226 [.int .i64 1]):POK f (.level 1) 176 []:=by
 intro toks A cap fin g p lv B cb r R w0 hc hl hat hrun
 refine vY Tryz.func176 rfl Tryz.ntmps176 rfl ?_
 repeat' (first|(refine bF (f:=226) rfl rfl (FnP.msub (ih toks A cap fin g p _ B cb r _ w0 hc hl hat hrun) (MSub.pick pK (MSub.pick pK (MSub.pick pK (MSub.refl _))))) ?_ ?_)|(rintro _ _ ⟨rfl,n,p',lv',B',cb',rfl,h2,rfl⟩)|(rintro _ _ ⟨e,rfl,rfl,h3⟩)|refine sT ?_|refine sP ?_|refine sM fun _=> ?_|(refine sC ?_ ?_<;>intro hb<;>try omega)|fail)
 ·
  exact ed (by first|exact .inr rfl|exact .inl rfl) rfl rfl h2 (.refl _)
 ·
  exact cP rfl h3
def zB (f:Nat) (fn:Int) (n:Nat) (fin:Int) (p:PS):Option Out:=
 if (hdT fin p.l).kind≠6 then fD (bq fin f (.level 1) p) fun _ p=>some (.ok (0,p))
 else if (jF fn n).1=false∨(jF fn n).2≠0 then some (.error ((hdT fin p.l).at_,4))
 else some (.ok (0,p.skip.put ⟨3,bD,(hdT fin p.l).rect,0,0,0⟩))
theorem AC {o:Option Out} {k k' :Nat→PS→Option Out}:fD (fD o k) k' =fD o fun n p=>fD (k n p) k' :=by
 match o with
 |none=>rfl
 |some (.ok (n,p))=>rfl
 |some (.error e)=>rfl
theorem zA (fin:Int) (f:Nat) (fn:Int) (n:Nat) (p:PS):bq fin (f+1) (.args fn n) p=fD (zB f fn n fin p) fun _ p=>if (hdT fin p.l).kind=11 then bq fin f (.args fn (n+1)) p.skip else some (.ok (n+1,p)):=by
 rw [bq]
 unfold zB
 split
 ·
  rw [AC];rfl
 ·
  split<;>rfl
set_option maxHeartbeats 1000000 in
theorem CK (f:Nat) (fn:Int) (n:Nat) (ih:POK f (.level 1) 176 []):N9 (zB f fn n) 371 [.int .u8 fn,.int .i64 n]:=by
  intro toks A cap fin g p lv B cb r R w0 hc hl hat hrun
  refine vY Tryz.func371 rfl Tryz.ntmps371 rfl ?_
  have hh:=fun w hm=>hat.head (fin:=fin) (g:=g) (B:=B) (cb:=cb) (out:=p.out) (H:=pB g lv A cap fin toks B cb p.out++R) (w0:=w0) (MSub.pick .hd (.pick .hd (.pick .hd (.nil _)))) w hm
  unfold zB at hrun
  obtain ⟨t,ht⟩: ∃ t,hdT fin p.l=t:=⟨_,rfl⟩
  rw [ht] at hrun hh
  by_cases hk:t.kind≠6
  · rw [if_pos hk] at hrun
    obtain ⟨r1,hr1,hr2⟩:=bB hrun
    repeat' (first|(apply aa (f:=177);exact rfl;exact rfl;exact hh)|(refine bF (f:=176) rfl rfl (FnP.msub (ih toks A cap fin g p _ B cb r1 _ w0 hc hl hat hr1) (MSub.pick pK (MSub.pick pK (MSub.pick pK (MSub.refl _))))) ?_ ?_)|(rintro _ _ ⟨rfl,n,p',lv',B',cb',rfl,h2,rfl⟩)|(rintro _ _ ⟨e,rfl,rfl,h3⟩)|refine sT ?_|refine sP ?_|refine sM fun _=> ?_|(refine sC ?_ ?_<;>intro hb<;>try omega)|fail)
    · rcases hr2 with ⟨e,h,_⟩|⟨n1,p1,h,h5⟩
      · cases h
      · cases h
        cases h5
        refine ed (B' :=B') (cb' :=cb') (by first|exact .inr rfl|exact .inl rfl) rfl rfl h2 ?_
        simp only [Re,QR,QU,pB]
        exact mS
    · rcases hr2 with ⟨e',h,h5⟩|⟨n1,p1,h,h5⟩
      · cases h
        exact cP h5 (MSub.trans (.drop .hd (.refl _)) h3)
      · cases h
  · rw [if_neg hk] at hrun
    have hw:=fun w=>Fx fn n w
    obtain ⟨wb,we,hwe⟩: ∃ wb we,jF fn n=(wb,we):=⟨_,_,rfl⟩
    rw [hwe] at hrun hw
    by_cases hwk:wb=false∨we≠0
    · rw [if_pos hwk] at hrun
      cases hrun
      repeat' (first|(apply aa (f:=177);exact rfl;exact rfl;exact hh)|(apply aa (f:=337);exact rfl;exact rfl;(intro w' _;exact hw w'))|(refine bF (f:=178) rfl rfl (iW _ _ _ _ _ (fun _ _=>False)) ?_ ?_)|(exact fun _ _ h=>h.elim)|(rintro _ _ ⟨rfl,rfl⟩)|refine sT ?_|refine sP ?_|refine sM fun _=> ?_|(refine sC ?_ ?_<;>intro hb<;>try omega)|fail)
      all_goals first
        |(exfalso;simp_all<;>omega)
        |(exfalso;omega)
        | (refine cP rfl ?_
           simp only [Re,QR,QU,pB]
           exact mS)
    · rw [if_neg hwk] at hrun
      cases hrun
      repeat' (first|(apply aa (f:=177);exact rfl;exact rfl;exact hh)|(apply aa (f:=337);exact rfl;exact rfl;(intro w' _;exact hw w'))|(apply aw (f:=275);exact rfl;exact rfl;exact hat.skip hc (c:=6) (by rw [ht];omega) (by decide) (MSub.pick pK (MSub.pick pK (MSub.pick pK (MSub.refl _))));rintro _ _ ⟨rfl,lv1,h1,rfl⟩)|(apply aw (f:=276);exact rfl;exact rfl;exact FnIn.msub (kr ⟨3,bD,t.rect,0,0,0⟩ _ _ _ _ _ _ _ _ _ (At.len hat hl) _ _) (MSub.pick pK (MSub.pick pK (MSub.pick pK (MSub.refl _))));rintro _ _ ⟨rfl,B3,cb3,rfl⟩)|refine sT ?_|refine sP ?_|refine sM fun _=> ?_|(refine sC ?_ ?_<;>intro hb<;>try omega)|fail)
      all_goals first
        |(exfalso;simp_all<;>omega)
        |(exfalso;omega)
        | (refine ed (p' := p.skip.put ⟨3, bD, t.rect, 0, 0, 0⟩) (B' := B3) (cb' := cb3) (by first | exact .inr rfl | exact .inl rfl) rfl rfl (h1.put _) ?_
           simp only [Re,QR,QU,pB]
           exact mS)
end Go.SL
namespace Go.SL
open Go Go.Proofs
attribute [local irreducible] W WL WQ WG WA VOp thn blk aV aK FnIn
def qg (n:Nd) (i:Int) (m:Nd):Bool:=
 if n.kind≠7 then decide (m.kind≠3) else if 46≤n.fn then decide (m.kind=3)||decide (m.kind=2) else decide (m.kind≠3)||eZ n.fn i
set_option maxRecDepth 10000 in
theorem DY (n:Nd) (i:Int) (m:Nd) (w:World):ay Tryz.prog 328 [.agg (bX n).toArray,.int .i64 i,.agg (bX m).toArray] w (.bool (qg n i m)):=by
 refine aq Tryz.func328 rfl Tryz.ntmps328 rfl ?_
 repeat' (first|(apply aa;exact rfl;exact rfl;(intro w hm;exact uY n.fn i w))|refine sT ?_|refine sM fun _=> ?_|(refine sC ?_ ?_<;>intro hb<;>try omega)|exact cT|fail)
 all_goals ((refine rT1 ?_);((try simp only [← Int.not_lt] at*);simp_all [qg, -Int.not_lt, -Int.not_le,← Int.not_lt]))
theorem v7 {n:Nd} (h:bP n=0):dS n=true∧(n.kind=7→cU n.fn=true∧(bN n.fn).1≤n.n∧n.n≤(bN n.fn).2):=by
 unfold bP at h
 split at h
 ·
  cases h
 ·
  rename_i h1
  have hf:dS n=true:=by
   unfold dS
   cases ha:iB n<;>cases hb:eqN n (cE n)<;>simp_all
  refine ⟨hf,fun h7=> ?_⟩
  rw [if_neg (by simp [h7])] at h
  cases hk:cU n.fn
  ·
   rw [oZ hk] at h
   simp at h
  ·
   rw [kz hk] at h
   refine ⟨rfl,?_⟩
   dsimp only at h
   rw [if_neg (by simp)] at h
   split at h
   ·
    cases h
   ·
    omega
theorem uV {fn:Int} (h:cU fn=true):il fn=decide (46≤fn):=by
 simp only [cU,QZ,decide_eq_true_eq] at h
 unfold il
 rw [decide_eq_true (by omega:fn≤50),TZ]
theorem wL {fn i:Int} (h:46≤fn) (hk:cU fn=true) (h0:0≤i) (h1:i<(bN fn).2):eZ fn i=true:=by
 simp only [cU,QZ,decide_eq_true_eq] at hk
 unfold eZ
 rw [if_neg (by omega),if_neg (by omega),if_neg (by omega),if_neg (by omega),decide_eq_true h,decide_eq_true hk.2]
 rfl
theorem EE {L:List Nd} {n:Nd} {p:Pt} (h:bP n=0) (hr:p.root<L.length) (hp:p.wide=decide (L[p.root].kind=3)) {i:Int} (h0:0≤i) (h1:i<below n):vZ L n i p=qg n i L[p.root]:=by
 obtain ⟨_,h7⟩:=v7 h
 unfold vZ qg BJ
 rw [iC hr,hp]
 generalize L[p.root].kind=k
 by_cases hk7:n.kind=7
 ·
  obtain ⟨hk,ha,hb⟩:=h7 hk7
  have hb7:below n=n.n:=by simp [below,hk7]
  rw [if_pos hk7,if_neg (by simp [hk7]),uV hk,uj hk]
  by_cases h46:46≤n.fn
  ·
   rw [if_pos h46,wL h46 hk h0 (by omega)]
   by_cases e3:k=3
   ·
    simp [e3,hk7,h46]
   ·
    by_cases e2:k=2<;>simp [e3,e2,hk7,h46]
  ·
   rw [if_neg h46]
   by_cases e3:k=3<;>simp [e3,h46]
 ·
  rw [if_neg hk7,if_pos hk7]
  by_cases e3:k=3<;>simp [e3,hk7]
theorem oO {fn:Int} (hk:cU fn=true):fP fn≠av:=by
 simp only [cU,QZ,decide_eq_true_eq] at hk
 obtain ⟨j,hj⟩:=TL (by omega:0≤fn - 1)
 have e2:fP fn=cZ.getD j av:=by
  rw [fP,if_neg (by omega),show fn.toNat=j+1 by omega]
  rfl
 rw [e2]
 exact (KC j (by omega)).1
theorem tE {fn:Int} (hk:cU fn=false) (h0:0≤fn):fP fn=av:=by
 simp only [cU,Sk,decide_eq_false_iff_not] at hk
 rw [fP]
 split
 ·
  rfl
 ·
  rw [show fn.toNat=0 by omega]
  rfl
theorem Ck {n:Nd} (h:bP n≠0):(dS n=false∧bP n=2)∨(dS n=true∧n.kind=7∧cU n.fn=false∧bP n=10)∨
  (dS n=true∧n.kind=7∧cU n.fn=true∧(n.n<(bN n.fn).1∨(bN n.fn).2<n.n)∧bP n=11):=by
 unfold bP at h ⊢
 by_cases h1:iB n=false∨eqN n (cE n)=false
 ·
  left
  refine ⟨?_,if_pos h1⟩
  unfold dS
  rcases h1 with h1|h1<;>simp [h1]
 ·
  right
  rw [if_neg h1] at h ⊢
  have hf:dS n=true:=by
   unfold dS
   cases ha:iB n<;>cases hb:eqN n (cE n)<;>simp_all
  by_cases h7:n.kind=7
  ·
   rw [if_neg (by simp [h7])] at h ⊢
   cases hk:cU n.fn
   ·
    left
    rw [oZ hk] at h ⊢
    exact ⟨hf,h7,rfl,by simp⟩
   ·
    right
    rw [kz hk] at h ⊢
    dsimp only at h ⊢
    rw [if_neg (by simp)] at h ⊢
    by_cases hc:n.n<(bN n.fn).1∨(bN n.fn).2<n.n
    ·
     exact ⟨hf,h7,rfl,hc,if_pos hc⟩
    ·
     rw [if_neg hc] at h
     exact absurd rfl h
  ·
   rw [if_pos (by simpa using h7)] at h
   exact absurd rfl h
def pL (p:Pt):List Value:= [.int .i64 (p.root:Int),.int .i64 (p.depth:Int)]
theorem wo (p:Pt):(pL p).length=2:=rfl
def wfN (n:Nd):Prop:= -9223372036854775808≤n.v.num∧0≤n.fn∧n.fn≤255
def vq (L:List Nd) (n:Nd) (i:Nat) (st:List Pt):List Pt × Int:=
 match jL L n i st with
 | .inl e=>([],e)
 | .inr r=>(r.1,0)
theorem FJ {P:Program} {w0:World} {s:az} {H:List Blk} {ty:TypeId} {x y:Operand} {b:Nat} {t t' :TypeId} (hx:ev s x=some (.int .i64 1)) (hy:ev s y=some (.int .i64 (b:Nat))) (hb:b+1≤maxLen):VOp P w0 s H (.binOp .add t x y t') ty (.int .i64 ((b+1:Nat):Int)):=by
 have h:=dE (P:=P) (w0:=w0) (H:=H) (ty:=ty) (t:=t) (t' :=t') (a:=1) hx hy (by omega)
 rwa [Tb 1 b] at h
theorem IK (L:List Pt): ∀ u∈L.flatMap pL,u.oneCell' =true:=by
 intro u hu
 obtain ⟨n,_,h⟩:=RY.1 hu
 simp only [pL,Rd,S0,or_false] at h
 rcases h with rfl|rfl<;>rfl
structure TopsOk (L:List Nd) (i:Nat) (st:List Pt):Prop where
 ok: ∀ p∈st,p.root<i∧p.depth≤32∧p.wide=decide (kK L p.root=3)
 small:st.length≤i
set_option maxHeartbeats 2000000 in
theorem DU (L:List Nd) (i:Nat) (hi:i<L.length) (hlen:L.length≤256) (hwf:wfN L[i]) (st:List Pt) (hst:TopsOk L i st) (tv lv:Value) (w:World) (ht:Reads w tv L.length (L.flatMap bX)) (hp:Reads w lv st.length (st.flatMap pL)):
  aK Tryz.prog 289 [tv,.int .i64 (i:Int),lv] w fun v H=> ∃ A cap,v= .tuple #[sl A (vq L L[i] i st).1.length cap,.int .i64 (vq L L[i] i st).2]∧H= [.own A 298 2 (vq L L[i] i st).1.length cap ((vq L L[i] i st).1.flatMap pL)]:=by
 have hp' :=hp
 obtain ⟨At,ct,rfl,ht1,ht2,ht3⟩:=ht
 obtain ⟨Al,cl,rfl,hl1,hl2,hl3⟩:=hp
 obtain ⟨gt,ot,rfl,hrt⟩:=ht3 (by omega)
 have hrn:=hrt.elem eC i hi
 obtain ⟨hok,hsmall⟩:=hst
 refine aq Tryz.func289 rfl Tryz.ntmps289 rfl ?_
 refine aH 298 2 ?_
 generalize hn:L[i]=n at hrn hwf
 generalize hR:vq L n i st=R
 unfold vq jL at hR
 by_cases hfe:bP n=0
 ·
  obtain ⟨hb0,hb16⟩:=xV hfe
  obtain ⟨k,hk⟩:=TL hb0
  obtain ⟨hf1,hf7⟩:=v7 hfe
  have c1:=fun w=>hf1 ▸ jt n hwf.1 w
  have c2:=fun w=>lR n.fn hwf.2.1 hwf.2.2 w
  have c3:=fun w=>kg n.fn w
  have hne:=fun h7=>oO (hf7 h7).1
  have har:=fun h7=>(hf7 h7).2
  have c4: ∀ w,ay Tryz.prog 297 [.agg (bX n).toArray] w (.int .i64 (k:Int)):=fun w=>hk ▸ Bg n w
  rw [if_neg (by simp [hfe]),hk,SD] at hR
  generalize bN n.fn=ar at har c3
  repeat' (first|(apply aa;exact rfl;exact rfl;(intro w hm;exact c1 w))|(apply aa;exact rfl;exact rfl;(intro w hm;exact c2 w))|(apply aa;exact rfl;exact rfl;(intro w hm;exact c3 w))|(apply aa;exact rfl;exact rfl;(intro w hm;exact c4 w))|(apply ak;exact rfl;apply dP;exact rfl;exact rfl;exact hne (by assumption))|(apply OJ (c:= .tmp 24) [0,1,2,8];exact rfl)|(apply ak;exact rfl;apply kB;exact rfl;exact rfl;omega;(simp only [maxLen];omega))|refine sT ?_|refine sO ?_|refine sM fun _=> ?_|(refine sC ?_ ?_<;>intro hb<;>try omega)|exact cT|fail)
  ·
   rw [if_pos (Or.inl (by omega))] at hR
   subst hR
   exact eY (.inl rfl) Tryz.results289 rfl rfl (H' := [.own none 298 2 0 0 []]) mS ⟨none,0,rfl,rfl⟩
  ·
   rename_i g
   have htl:=jn st k (by omega)
   have hlt: ¬ ((st.length:Int)<(k:Int)):=by omega
   refine ax [0,1,2,8,11,12] rfl (fun j:Nat=> [(13,.int .i64 (cA ((bz st k).take j):Int)),(14,.int .i64 (j:Int))]) (fun _=> [.box g 293 (bX n),.own none 298 2 0 0 []]) (fun j=>j≤k∧fp L n 0 (bz st k)=fp L n (j:Int) ((bz st k).drop j)) (fun j=>k - j) 0 ⟨by omega,rfl⟩ sB mS ?_
   rintro j ⟨hj,hfit⟩
   by_cases hjk:j<k
   ·
    obtain ⟨gl,ol,rfl,hrl⟩:=hl3 (by omega)
    have hjt:j<(bz st k).length:=by omega
    have hpe:(bz st k)[j]=st[st.length - k+j]'(by omega):=by simp [bz]
    have hrp:=hrl.elem wo (st.length - k+j) (by omega)
    have hds:=qF (bz st k) j hjt
    rw [QY hjt,fp] at hfit
    rw [← hpe] at hrp
    have hpm:=ig (RQ hjt)
    generalize (bz st k)[j]=p at hpm hrp hds hfit
    obtain ⟨hp1,hp2,hp3⟩:=hok p hpm
    have hrr:=hrt.elem eC p.root (by omega)
    have hf:=EE hfe (L:=L) (p:=p) (by omega) (by rw [hp3,iC]) (i:=(j:Int)) (by omega) (by omega)
    have hcall:=fun w=>DY n (j:Int) (L[p.root]'(by omega)) w
    rw [← hf] at hcall
    generalize L[p.root]'(by omega)=m at hrr hcall
    generalize hfo:vZ L n (j:Int) p=fo at hcall hfit
    have hd33:=kN ((bz st k).take j) fun q hq=>(hok q (ig (Sj hq))).2.1
    repeat' (first|(apply dO;exact rfl;exact rfl;(intro w hm;exact hcall w))|(apply ak;exact rfl;apply dE;exact rfl;exact rfl;(simp only [maxLen];omega))|(apply aS;exact rfl;apply dE;exact rfl;exact rfl;(simp only [maxLen];omega))|(apply ak;exact rfl;apply FJ;exact rfl;exact rfl;(simp only [maxLen];omega))|(apply ak;exact rfl;apply fq;exact rfl;exact rfl;(simp only [maxLen];omega))|(apply ak;exact rfl;apply Dl;exact rfl;exact rfl)|refine sT ?_|refine sQ ?_|refine sO ?_|refine sOQ ?_|refine sD ?_|refine sM fun _=> ?_|(refine sC ?_ ?_<;>intro hb<;>try omega)|(refine sCQ ?_ ?_<;>intro hb<;>try omega)|exact cT|fail)
    ·
     rw [if_pos (Or.inr (by rw [hfit];simp_all))] at hR
     subst hR
     exact eY (.inl rfl) Tryz.results289 rfl rfl (H' := [.own none 298 2 0 0 []]) mS ⟨none,0,rfl,rfl⟩
    ·
     rw [Tb 1,← hds]
     refine ⟨j+1,?_,(by first|omega|(dsimp only;omega)),sB,sB,mS⟩
     refine ⟨by omega,?_⟩
     rw [hfit,hb,Sy]
     rfl
   ·
    have e:j=k:=by omega
    subst e
    have htk:(bz st j).take j=bz st j:=RS (by omega)
    rw [htk]
    have hd33:=kN (bz st j) fun q hq=>(hok q (ig hq)).2.1
    rw [Ry (by omega),fp] at hfit
    rw [if_neg (by rw [hfit];simp;omega)] at hR
    have hcut:=hp'.cut (lo:=0) (hi:=st.length - j) (sz:=2) (by omega) (by omega)
    have hcl:(((st.flatMap pL).drop (0*2)).take ((st.length - j - 0)*2))=(st.take (st.length - j)).flatMap pL:=by
     rw [Nat.zero_mul,SA,SK,jC wo]
    rw [hcl] at hcut
    have hll:((st.take (st.length - j)).flatMap pL).length=(st.length - j - 0)*2:=by rw [aP wo,Rq];omega
    repeat' (first|(apply dq;exact rfl;intro gb)|(apply ak;exact rfl;apply lJ (lo:=0) (hi:=st.length - j);exact rfl;exact rfl;exact ⟨_,rfl⟩;omega;omega)|(apply dr (n' :=0) (c:=0) (A:=some _) (m:=st.length - j - 0);(iterate 3 exact rfl);exact pK;(intro w hm;exact hcut.of_w0 hm);exact hll;exact IK _;omega;(simp only [maxLen];omega);intro A' cap' hA)|(apply bR;(iterate 3 exact rfl);(repeat first|exact .hd|apply Sel.tl|apply In.tl);(intro w hm;exact hm.cells_own (by (repeat first|exact .hd|apply Sel.tl|apply In.tl)));exact rfl;(simp [Value.oneCell',sl]);omega;(simp only [maxLen];omega);(intro A' cap' hA'))|refine sT ?_|refine sM fun _=> ?_|(refine sC ?_ ?_<;>intro hb<;>try omega)|exact cT|fail)
    ·
     rw [if_pos (by omega)] at hR
     subst hR
     exact eY (.inl rfl) Tryz.results289 rfl rfl (H' := [.own none 298 2 0 0 []]) mS ⟨none,0,rfl,rfl⟩
    ·
     rw [if_neg (by omega)] at hR
     subst hR
     have e1:(st.take (st.length - j)++ [(⟨i,cA (bz st j),decide (n.kind=3)⟩:Pt)]).length=0+(st.length - j - 0)+1:=by simp
     have e2:(st.take (st.length - j)++ [(⟨i,cA (bz st j),decide (n.kind=3)⟩:Pt)]).flatMap pL= []++(st.take (st.length - j)).flatMap pL++ [.int .i64 (i:Int),.int .i64 (cA (bz st j):Int)]:=by
      rw [Rm];rfl
     refine eY (.inl rfl) Tryz.results289 rfl rfl (H' := [.own A' 298 2 (0+(st.length - j - 0)+1) cap' ([]++(st.take (st.length - j)).flatMap pL++ [.int .i64 (i:Int),.int .i64 (cA (bz st j):Int)])]) mS ⟨A',cap',?_⟩
     dsimp only
     rw [e1,e2]
     exact ⟨rfl,rfl⟩
 ·
  rw [if_pos hfe] at hR
  rcases Ck hfe with ⟨h1,h2⟩|⟨h1,h7,h2,h3⟩|⟨h1,h7,h2,h3,h4⟩
  ·
   have c1:=fun w=>h1 ▸ jt n hwf.1 w
   rw [h2] at hR
   subst hR
   repeat' (first|(apply ak;exact rfl;apply aj;exact rfl;exact rfl;exact hi)|(apply ak;exact rfl;apply aB;exact rfl;exact hrn;exact rfl)|(apply aa;exact rfl;exact rfl;(intro w hm;exact c1 w))|refine sT ?_|refine sM fun _=> ?_|(refine sC ?_ ?_<;>intro hb<;>try omega)|exact cT|fail)
   exact eY (.inl rfl) Tryz.results289 rfl rfl (H' := [.own none 298 2 0 0 []]) mS ⟨none,0,rfl,rfl⟩
  ·
   have c1:=fun w=>h1 ▸ jt n hwf.1 w
   have c2:=fun w=>tE h2 hwf.2.1 ▸ lR n.fn hwf.2.1 hwf.2.2 w
   rw [h3] at hR
   subst hR
   repeat' (first|(apply ak;exact rfl;apply aj;exact rfl;exact rfl;exact hi)|(apply ak;exact rfl;apply aB;exact rfl;exact hrn;exact rfl)|(apply aa;exact rfl;exact rfl;(intro w hm;exact c1 w))|(apply aa;exact rfl;exact rfl;(intro w hm;exact c2 w))|(apply ak;exact rfl;apply mG;(iterate 3 exact rfl))|refine sT ?_|refine sM fun _=> ?_|(refine sC ?_ ?_<;>intro hb<;>try omega)|exact cT|fail)
   exact eY (.inl rfl) Tryz.results289 rfl rfl (H' := [.own none 298 2 0 0 []]) mS ⟨none,0,rfl,rfl⟩
  ·
   have c1:=fun w=>h1 ▸ jt n hwf.1 w
   have c2:=fun w=>lR n.fn hwf.2.1 hwf.2.2 w
   have c3:=fun w=>kg n.fn w
   have hne:=oO h2
   rw [h4] at hR
   subst hR
   generalize bN n.fn=ar at h3 c3
   repeat' (first|(apply ak;exact rfl;apply aj;exact rfl;exact rfl;exact hi)|(apply ak;exact rfl;apply aB;exact rfl;exact hrn;exact rfl)|(apply aa;exact rfl;exact rfl;(intro w hm;exact c1 w))|(apply aa;exact rfl;exact rfl;(intro w hm;exact c2 w))|(apply aa;exact rfl;exact rfl;(intro w hm;exact c3 w))|(apply ak;exact rfl;apply dP;exact rfl;exact rfl;exact hne)|refine sT ?_|refine sM fun _=> ?_|(refine sC ?_ ?_<;>intro hb<;>try omega)|exact cT|fail)
   all_goals exact eY (.inl rfl) Tryz.results289 rfl rfl (H' := [.own none 298 2 0 0 []]) mS ⟨none,0,rfl,rfl⟩
end Go.SL
namespace Go.SL
open Go Go.Proofs
attribute [local irreducible] W WL WQ WG WA VOp thn blk bE aV aK FnIn
theorem xp {L:List Nd} {n:Nd} {i:Nat} {st:List Pt} {e:Int} (h:jL L n i st= .inl e):e≠0:=by
 unfold jL at h
 split at h
 ·
  injection h with h;subst h;assumption
 ·
  split at h
  ·
   injection h with h;omega
  ·
   split at h
   ·
    injection h with h;omega
   ·
    cases h
theorem sr {L:List Nd} {n:Nd} {i:Nat} {st st' :List Pt} {ks:List Nat} {d:Nat} (h:jL L n i st= .inr (st',ks,d)): ∃ a,(∀ p∈a,p∈st)∧a.length≤st.length∧st' =a++ [⟨i,d,decide (n.kind=3)⟩]∧d≤32:=by
 unfold jL at h
 split at h
 ·
  cases h
 ·
  split at h
  ·
   cases h
  ·
   split at h
   ·
    cases h
   ·
    simp only [Sum.inr.injEq,Prod.mk.injEq] at h
    obtain ⟨rfl,rfl,rfl⟩:=h
    exact ⟨_,fun p hp=>Sj hp,by simp,rfl,by omega⟩
theorem Ar {L:List Nd} {i:Nat} (hi:i<L.length) {st st' :List Pt} {ks:List Nat} {d:Nat} (ho:TopsOk L i st) (h:jL L L[i] i st= .inr (st',ks,d)):TopsOk L (i+1) st' :=by
 obtain ⟨a,h1,h2,rfl,h3⟩:=sr h
 refine ⟨fun p hp=> ?_,by have:=ho.small;simp;omega⟩
 rcases Rs.1 hp with hp|hp
 ·
  obtain ⟨q1,q2,q3⟩:=ho.ok p (h1 p hp)
  exact ⟨by omega,q2,q3⟩
 ·
  rw [RA.1 hp]
  exact ⟨Tv i,h3,by rw [iC hi]⟩
def cL (L:List Nd):List Nd→Nat→List Pt→List Pt × Int
 | [],_,st=>(st,0)
 |n::r,i,st=>match jL L n i st with
  | .inl e=>([],e)
  | .inr x=>cL L r (i+1) x.1
def BS (st:List Pt):Nat:=(st.getLast?.map Pt.depth).getD 0
theorem vN (L:List Nd): ∀ (r:List Nd) (i:Nat) (st:List Pt) (vs:List mq),Gc vs=BS st→
  (gG L r i st vs).1=(if (cL L r i st).2≠0 then (cL L r i st).2 else if (cL L r i st).1.length=1 then 0 else 4)∧((cL L r i st).2=0→Gc (gG L r i st vs).2=BS (cL L r i st).1)
 | [],i,st,vs,h=>by
  refine ⟨?_,fun _=>h⟩
  by_cases h1:st.length=1<;>simp [gG,cL,h1]
 |n::r,i,st,vs,h=>by
  rw [gG,cL]
  cases hs:jL L n i st with
  |inl e=>have:=xp hs;simp [this]
  |inr x=>
   obtain ⟨st',ks,d⟩:=x
   obtain ⟨a,_,_,rfl,_⟩:=sr hs
   dsimp only
   exact vN L r (i+1) _ _ (by simp [Gc,BS])
theorem Bd (L:List Nd):nN L=(if 256<L.length then (0,5) else if (cL L L 0 []).2≠0 then (0,(cL L L 0 []).2) else if (cL L L 0 []).1.length≠1∨kK L (L.length - 1)=3 then (0,4) else (((BS (cL L L 0 []).1:Nat):Int),0):Int × Int):=by
 obtain ⟨h1,h2⟩:=vN L L 0 [] [] rfl
 have h0:L.length=0→(cL L L 0 []).2=0∧(cL L L 0 []).1.length=0:=fun c=>by
  have:L= []:=RK c
  subst this
  simp [cL]
 unfold nN eJ ma
 generalize gG L L 0 [] []=wk at h1 h2
 generalize cL L L 0 []=j at h0 h1 h2
 generalize kK L (L.length - 1)=k
 obtain ⟨w1,w2⟩:=wk
 obtain ⟨j1,j2⟩:=j
 dsimp only at h0 h1 h2 ⊢
 by_cases c1:256<L.length
 ·
  simp [c1]
 by_cases c2:L.length=0
 ·
  obtain ⟨a1,a2⟩:=h0 c2
  simp only [if_neg c1,if_pos c2]
  simp [a1,a2]
 simp only [if_neg c1,if_neg c2]
 clear c1 c2 h0
 by_cases c3:j2=0
 ·
  have h2' :=h2 c3
  by_cases c4:j1.length=1
  ·
   by_cases c5:k=3<;>simp_all
  ·
   simp_all
 ·
  simp_all
theorem KX (L:List Nd) (hlen:L.length≤256) (hwf: ∀ n∈L,wfN n) (tv:Value) (w:World) (ht:Reads w tv L.length (L.flatMap bX)):
  aK Tryz.prog 242 [tv] w fun v H=> ∃ A cap,v= .tuple #[sl A (cL L L 0 []).1.length cap,.int .i64 (cL L L 0 []).2]∧H= [.own A 298 2 (cL L L 0 []).1.length cap ((cL L L 0 []).1.flatMap pL)]:=by
 have ht' :=ht
 obtain ⟨At,ct,rfl,ht1,ht2,ht3⟩:=ht
 refine aq Tryz.func242 rfl Tryz.ntmps242 rfl ?_
 refine aH 298 2 ?_
 refine aH 298 2 ?_
 generalize hR:cL L L 0 []=R
 repeat' (first|refine sT ?_|refine sM fun _=> ?_|(refine sC ?_ ?_<;>intro hb<;>try omega)|fail)
 refine ax [0] rfl (fun x:Nat × List Pt × Option Nat × Nat=> [(4,sl x.2.2.1 x.2.1.length x.2.2.2),(5,.int .i64 (x.1:Int))]) (fun x=> [.own x.2.2.1 298 2 x.2.1.length x.2.2.2 (x.2.1.flatMap pL),.own none 298 2 0 0 []]) (fun x=>x.1≤L.length∧TopsOk L x.1 x.2.1∧R=cL L (L.drop x.1) x.1 x.2.1) (fun x=>L.length - x.1) (0,[],none,0) ⟨by omega,⟨fun p hp=>by simp at hp,QX _⟩,hR.symm⟩ sB mS ?_
 rintro ⟨i,st,A,cap⟩ ⟨hi,hok,hrec⟩
 dsimp only at hi hok hrec ⊢
 by_cases hlt:i<L.length
 ·
  rw [QY hlt,cL] at hrec
  have hnode:=fun (w' :World) (H:List Blk) (hm:Mem w w' H) (hr:Reads w' (sl A st.length cap) st.length (st.flatMap pL))=>DU L i hlt hlen (hwf _ (RQ hlt)) st hok _ _ w' (ht'.of_w0 hm) hr
  have hto:=fun {st' ks d}=>Ar (st' :=st') (ks:=ks) (d:=d) hlt hok
  unfold vq at hnode
  generalize hs:jL L L[i] i st=s at hrec hnode hto
  cases s with
  |inl e=>
   have he:=xp hs
   dsimp only at hrec hnode
   subst hrec
   repeat' (first|(apply aA;exact rfl;exact rfl;(intro w' hm;exact hnode w' _ hm (Reads.of_own hm pK));(rintro v H' ⟨A',cap',rfl,rfl⟩))|refine sT ?_|refine sM fun _=> ?_|(refine sC ?_ ?_<;>intro hb<;>try omega)|fail)
   ·
    exact eY (.inl rfl) Tryz.results242 rfl rfl (H' := [.own none 298 2 0 0 []]) mS ⟨none,0,rfl,rfl⟩
  |inr x=>
   obtain ⟨st',ks,d⟩:=x
   dsimp only at hrec hnode
   repeat' (first|(apply aA;exact rfl;exact rfl;(intro w' hm;exact hnode w' _ hm (Reads.of_own hm pK));(rintro v H' ⟨A',cap',rfl,rfl⟩))|refine sT ?_|refine sN ?_|refine sM fun _=> ?_|(refine sC ?_ ?_<;>intro hb<;>try omega)|fail)
   refine ⟨(i+1,st',A',cap'),?_,(by first|omega|(dsimp only;omega)),sB,sB,mS⟩
   exact ⟨hlt,hto rfl,hrec⟩
 ·
  have e:i=L.length:=by omega
  subst e
  rw [RE,cL] at hrec
  subst hrec
  repeat' (first|refine sT ?_|refine sM fun _=> ?_|(refine sC ?_ ?_<;>intro hb<;>try omega)|fail)
  exact eY (.inl rfl) Tryz.results242 rfl rfl (H' := [.own A 298 2 st.length cap (st.flatMap pL)]) mS ⟨A,cap,rfl,rfl⟩
theorem Ip {st:List Pt} (h:st.length=1): ∃ p,st= [p]∧BS st=p.depth:=by
 match st,h with
 | [p],_=>exact ⟨p,rfl,rfl⟩
theorem Be (L:List Nd) (hwf: ∀ n∈L,wfN n) (tv:Value) (w:World) (ht:Reads w tv L.length (L.flatMap bX)):ay Tryz.prog 198 [tv] w (.tuple #[.int .i64 (nN L).1,.int .i64 (nN L).2]):=by
 have ht' :=ht
 obtain ⟨At,ct,rfl,ht1,ht2,ht3⟩:=ht
 refine aq Tryz.func198 rfl Tryz.ntmps198 rfl ?_
 have hd:=Bd L
 generalize hde:nN L=de at hd
 by_cases h256:256<L.length
 ·
  rw [if_pos h256] at hd
  subst hd
  repeat' (first|refine sT ?_|refine sM fun _=> ?_|(refine sC ?_ ?_<;>intro hb<;>try omega)|fail)
  (refine rT2 ?_)
  rfl
 have hj:=fun (w' :World) (H:List Blk) (hm:Mem w w' H)=>KX L (by omega) hwf _ w' (ht'.of_w0 hm)
 rw [if_neg h256] at hd
 have h0:L.length=0→(cL L L 0 []).1.length=0:=fun c=>by
  have:L= []:=RK c
  subst this
  simp [cL]
 generalize cL L L 0 []=j at hj hd h0
 obtain ⟨st,e⟩:=j
 dsimp only at hj hd h0
 by_cases he:e=0
 ·
  rw [if_neg (by simp [he])] at hd
  by_cases hl:st.length=1
  ·
   obtain ⟨p,rfl,hp⟩:=Ip hl
   obtain ⟨gt,ot,rfl,hrt⟩:=ht3 (by omega)
   have hrl:=hrt.elem eC (L.length - 1) (by omega)
   have hk:kK L (L.length - 1)=(L[L.length - 1]'(by omega)).kind:=iC _
   rw [hk,hp] at hd
   generalize (L[L.length - 1]'(by omega))=nl at hrl hd
   subst he
   repeat' (first|(apply aA;exact rfl;exact rfl;(intro w' hm;exact hj w' _ hm);(rintro v H' ⟨A',cap',rfl,rfl⟩))|refine sT ?_|refine sN ?_|refine sO ?_|refine sM fun _=> ?_|(refine sC ?_ ?_<;>intro hb<;>try omega)|fail)
   ·
    rw [if_pos (.inr hb)] at hd
    subst hd
    (refine rT2 ?_)
    rfl
   ·
    rw [if_neg (by simp;omega)] at hd
    subst hd
    refine yA .hd (by simp) fun ga hA=> ?_
    subst hA
    repeat' (first|(apply ak;exact rfl;apply aj (j:=0);exact rfl;exact rfl;exact Nat.one_pos)|(apply ak;exact rfl;apply bQ;exact rfl;exact pK;exact rfl)|refine sT ?_|refine sM fun _=> ?_|(refine sC ?_ ?_<;>intro hb<;>try omega)|fail)
    (refine rT2 ?_)
    rfl
  ·
   rw [if_pos (.inl hl)] at hd
   subst hd he
   repeat' (first|(apply aA;exact rfl;exact rfl;(intro w' hm;exact hj w' _ hm);(rintro v H' ⟨A',cap',rfl,rfl⟩))|refine sT ?_|refine sN ?_|refine sO ?_|refine sM fun _=> ?_|(refine sC ?_ ?_<;>intro hb<;>try omega)|fail)
   (refine rT2 ?_)
   rfl
 ·
  rw [if_pos he] at hd
  subst hd
  repeat' (first|(apply aA;exact rfl;exact rfl;(intro w' hm;exact hj w' _ hm);(rintro v H' ⟨A',cap',rfl,rfl⟩))|refine sT ?_|refine sM fun _=> ?_|(refine sC ?_ ?_<;>intro hb<;>try omega)|fail)
  (refine rT2 ?_)
  rfl
end Go.SL
