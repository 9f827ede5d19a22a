/-
  Lemmas and walks, put together: Pg2 C2 D5 C3 C4 W17 W18.
-/
import Derived.Test.YtoanpdoacdpgeaaGreatDoorKp09
import Derived.Test.YtoanpdoacdpgeaaGreatDoorKp10
import Derived.Test.YtoanpdoacdpgeaaGreatDoorKp11
set_option linter.unusedSimpArgs false
set_option linter.unusedVariables false
set_option maxRecDepth 20000
namespace Go.SL
open Go
def rJ (a:Rf) (L:List Rl):Nat→Nat
 |0=>0
 |n+1=>if eX ((L[n]?.map (·.rect)).getD aM) a=true then n else rJ a L n
def gN (L:List Rl) (a:Rf):Nat:=rJ a L L.length
theorem BM (a:Rf) (L:List Rl): ∀ n,rJ a L n≤n - 1
 |0=>Qq _
 |n+1=>by
  rw [rJ];split
  ·
   exact Qq _
  ·
   have:=BM a L n;omega
theorem Ks {a:Rf} {L:List Rl} (h:L≠ []):gN L a<L.length:=by
 have:=BM a L L.length
 have h2:0<L.length:=RQ.2 h
 unfold gN;omega
theorem Ge {r:Rct} {L:List Rl} (h:L≠ []):gW r L<L.length:=by
 have:=wS r L L.length
 have h2:0<L.length:=RQ.2 h
 unfold gW;omega
theorem da {r:Rct}:aJ r=true↔1≤r.c1∧r.c1≤r.c2∧r.c2≤1024∧1≤r.r1∧r.r1≤r.r2∧r.r2≤1024:=by
 unfold aJ valid
 simp only [Qu,decide_eq_true_eq]
 omega
theorem dQ {r:Rct} {a:Rf}:eX r a=true↔r.c1≤a.col∧a.col≤r.c2∧r.r1≤a.row∧a.row≤r.r2:=by
 unfold eX
 simp only [Qu,decide_eq_true_eq,and_assoc]
theorem mR (a b:Rct):(gT a b).c1=max a.c1 b.c1:=by unfold gT;simp only;split<;>omega
theorem mP (a b:Rct):(gT a b).r1=max a.r1 b.r1:=by unfold gT;simp only;split<;>omega
theorem mQ (a b:Rct):(gT a b).c2=min a.c2 b.c2:=by unfold gT;simp only;split<;>omega
theorem mO (a b:Rct):(gT a b).r2=min a.r2 b.r2:=by unfold gT;simp only;split<;>omega
theorem xy {a b:Rct} (ha:aJ a=true) (hb:aJ b=true) {x:Rf} (h1:eX a x=true) (h2:eX b x=true):dO a b=(gT a b,true):=by
 unfold dO
 rw [if_pos]
 simp only [ST,List.all_nil,ha,hb,Rp,QS]
 rw [da] at*
 rw [dQ] at h1 h2
 rw [mR,mP,mQ,mO]
 omega
theorem Rct.ext' {a b:Rct} (h1:a.c1=b.c1) (h2:a.r1=b.r1) (h3:a.c2=b.c2) (h4:a.r2=b.r2):a=b:=by
 cases a;cases b;simp only at*;subst h1 h2 h3 h4;rfl
theorem Ej {c R:Rct} (hc:aJ c=true) (hR:aJ R=true):jp c R=true↔R.c1≤c.c1∧c.c2≤R.c2∧R.r1≤c.r1∧c.r2≤R.r2:=by
 have hc' :=da.1 hc
 constructor
 ·
  intro h
  unfold jp at h
  rw [Qu,decide_eq_true_eq] at h
  obtain ⟨h1,h2⟩:=h
  unfold dO at h1 h2
  split at h1
  ·
   rename_i hall
   rw [if_pos hall] at h2
   have e1:=congrArg Rct.c1 h2
   have e2:=congrArg Rct.r1 h2
   have e3:=congrArg Rct.c2 h2
   have e4:=congrArg Rct.r2 h2
   simp only [mR,mP,mQ,mO] at e1 e2 e3 e4
   omega
  ·
   cases h1
 ·
  intro h
  have h1:eX c ⟨c.c1,c.r1⟩=true:=dQ.2 (by simp only;omega)
  have h2:eX R ⟨c.c1,c.r1⟩=true:=dQ.2 (by simp only;omega)
  unfold jp
  rw [xy hc hR h1 h2,Qu,decide_eq_true_eq]
  exact ⟨rfl,Rct.ext' (by rw [mR];omega) (by rw [mP];omega) (by rw [mQ];omega) (by rw [mO];omega)⟩
structure CellOf (r:Rct) (A B:List Rl) (y x:Int × Int):Prop where
 row:y∈cD r.r1 r.r2 (aU r A++aU r B)
 col:x∈cD r.c1 r.c2 (aV r A++aV r B)
def eY (y x:Int × Int):Rct:=⟨x.1,y.1,x.2,y.2⟩
theorem CellOf.ok {r:Rct} {A B:List Rl} {y x:Int × Int} (h:CellOf r A B y x) (hr:aJ r=true):aJ (eY y x)=true:=by
 have h1:=eD h.row
 have h2:=eD h.col
 rw [da] at*
 simp only [eY];omega
theorem CellOf.inside {r:Rct} {A B:List Rl} {y x:Int × Int} (h:CellOf r A B y x) (hr:aJ r=true) {a:Rf} (ha:eX (eY y x) a=true) {R:Rl} (hm:R∈A∨R∈B) (hR:aJ R.rect=true):jp (eY y x) R.rect=eX R.rect a:=by
 have h1:=eD h.row
 have h2:=eD h.col
 have ha' :=dQ.1 ha
 simp only [eY] at ha'
 rw [Rs,Ej (h.ok hr) hR,dQ]
 simp only [eY]
 constructor
 ·
  intro h3;omega
 ·
  intro h3
  have har:eX r a=true:=dQ.2 (by omega)
  have haR:eX R.rect a=true:=dQ.2 h3
  have hmt:=xy hR hr haR har
  have hcol:((gT R.rect r).c1,(gT R.rect r).c2)∈aV r A++aV r B:=by
   rw [QJ]
   rcases hm with hm|hm
   ·
    exact .inl (RB.2 ⟨R,hm,by rw [hmt];simp⟩)
   ·
    exact .inr (RB.2 ⟨R,hm,by rw [hmt];simp⟩)
  have hrow:((gT R.rect r).r1,(gT R.rect r).r2)∈aU r A++aU r B:=by
   rw [QJ]
   rcases hm with hm|hm
   ·
    exact .inl (RB.2 ⟨R,hm,by rw [hmt];simp⟩)
   ·
    exact .inr (RB.2 ⟨R,hm,by rw [hmt];simp⟩)
  have k1:=xY h.col hcol (by simp only [mR];omega) (by simp only [mQ];omega)
  have k2:=xY h.row hrow (by simp only [mP];omega) (by simp only [mO];omega)
  simp only [mR,mQ,mP,mO] at k1 k2
  omega
theorem tM {c:Rct} {a:Rf} {L:List Rl} (h: ∀ R∈L,jp c R.rect=eX R.rect a): ∀ n,n≤L.length→l5 c L n=rJ a L n
 |0,_=>rfl
 |n+1,hn=>by
  have hlt:n<L.length:=by omega
  rw [l5,rJ,Ql hlt,tM h n (by omega)]
  simp only [Ry,SF]
  have e:=h _ (Re hlt)
  simp only [e]
theorem CellOf.which {r:Rct} {A B:List Rl} {y x:Int × Int} (h:CellOf r A B y x) (hr:aJ r=true) (hA: ∀ R∈A,aJ R.rect=true) {a:Rf} (ha:eX (eY y x) a=true):(mK A B y x).a=gN A a:=
 tM (fun R hR=>h.inside hr ha (.inl hR) (hA R hR)) _ (Qq _)
theorem s5 {α:Type} {p:List α→Prop} (h0:p []) (h1: ∀ l a,p l→p (l++ [a])) (l:List α):p l:=by
 have h: ∀ m:List α,p m.reverse:=fun m=>by
  induction m with
  |nil=>exact h0
  |cons a m ih=>rw [List.reverse_cons];exact h1 _ _ ih
 have:=h l.reverse
 rwa [List.reverse_reverse] at this
theorem OZ {l:List Pz} {p:Pz} {k:Nat}:k∈(jG l p).map (·.a)↔k∈l.map (·.a)∨k=p.a:=by
 unfold jG
 cases h:l.getLast? with
 |none=>
  rw [List.getLast?_eq_none_iff.1 h];simp
 |some q=>
  have hne:l≠ []:=fun e=>by rw [e] at h;cases h
  have hq:l.getLast hne=q:=by rw [List.getLast?_eq_some_getLast hne] at h;exact Option.some.inj h
  have he:=Sh hne
  rw [hq] at he
  dsimp only
  split
  ·
   rename_i hs
   rw [Ru,QJ]
   conv=>rhs;rw [← he]
   rw [Ru,QJ]
   simp only [QL,RG,QO]
   rw [← hs.1]
   exact ⟨.inl,fun h=>h.elim id .inr⟩
  ·
   rw [Ru,QJ];simp
theorem NK {A B:List Rl} {y:Int × Int} {k:Nat} (xs:List (Int × Int)):k∈(jD A B y xs).map (·.a)↔ ∃ x∈xs,k=(mK A B y x).a:=by
 induction xs using s5 with
 |h0=>simp [jD]
 |h1 xs x ih=>
  rw [kN,OZ,ih]
  simp only [QJ,QO]
  constructor
  ·
   rintro (⟨z,hz,h⟩|h)
   ·
    exact ⟨z,.inl hz,h⟩
   ·
    exact ⟨x,.inr rfl,h⟩
  ·
   rintro ⟨z,hz|rfl,h⟩
   ·
    exact .inl ⟨z,hz,h⟩
   ·
    exact .inr h
theorem yX {r:Rct} {A B:List Rl} {k:Nat}:k∈(dF r A B).map (·.a)↔ ∃ y x,CellOf r A B y x∧k=(mK A B y x).a:=by
 unfold dF
 rw [SW,RB]
 constructor
 ·
  rintro ⟨y,hy,h⟩
  obtain ⟨x,hx,h2⟩:=(NK _).1 h
  exact ⟨y,x,⟨hy,hx⟩,h2⟩
 ·
  rintro ⟨y,x,h,h2⟩
  exact ⟨y,h.row,(NK _).2 ⟨x,h.col,h2⟩⟩
theorem Lj {l:List (BitVec 64)} {i:Nat} (hi:i<64):(sA l).getLsbD i=true↔ ∀ x∈l,x.getLsbD i=true:=by
 have h: ∀ (l:List (BitVec 64)) (s:BitVec 64),(l.foldl (· &&& ·) s).getLsbD i=true↔s.getLsbD i=true∧ ∀ x∈l,x.getLsbD i=true:=by
  intro l
  induction l with
  |nil=>intro s;simp
  |cons a l ih=>
   intro s
   rw [SD,ih,SI,Qu]
   simp only [Qx,forall_eq_or_imp,and_assoc]
 unfold sA
 rw [h,BitVec.getLsbD_allOnes]
 simp [hi]
theorem JZ {f:Rl→BitVec 64} {r:Rct} {L:List Rl} (hr:aJ r=true) (hL: ∀ R∈L,aJ R.rect=true) {i:Nat} (hi:i<64):
  (uK f r L).getLsbD i=true↔ ∀ a,eX r a=true→((L[gN L a]?.map f).getD 0#64).getLsbD i=true:=by
 unfold uK
 rw [Lj hi]
 have hm:(∀ x∈(dF r L []).map (fun p=>(L[p.a]?.map f).getD 0#64),x.getLsbD i=true)↔ ∀ k∈(dF r L []).map (·.a),((L[k]?.map f).getD 0#64).getLsbD i=true:=by
  simp only [QT,forall_exists_index,and_imp,forall_apply_eq_imp_iff₂]
 rw [hm]
 constructor
 ·
  intro h a ha
  have ha' :=dQ.1 ha
  obtain ⟨y,hy,hy1,hy2⟩:=rV (lo:=r.r1) (hi:=r.r2) (ps:=aU r L++aU r []) (v:=a.row) (by omega) (by omega)
  obtain ⟨x,hx,hx1,hx2⟩:=rV (lo:=r.c1) (hi:=r.c2) (ps:=aV r L++aV r []) (v:=a.col) (by omega) (by omega)
  have hc:CellOf r L [] y x:=⟨hy,hx⟩
  have hag:eX (eY y x) a=true:=dQ.2 (by simp only [eY];omega)
  have:=h _ (yX.2 ⟨y,x,hc,rfl⟩)
  rwa [hc.which hr hL hag] at this
 ·
  intro h k hk
  obtain ⟨y,x,hc,rfl⟩:=yX.1 hk
  have hok:=da.1 (hc.ok hr)
  have h1:=eD hc.row
  have h2:=eD hc.col
  simp only [eY] at hok
  have hag:eX (eY y x) ⟨x.1,y.1⟩=true:=dQ.2 (by simp only [eY];omega)
  rw [hc.which hr hL hag]
  exact h ⟨x.1,y.1⟩ (dQ.2 (by simp only;omega))
def Kj (p q:Pz):Prop:=p.rect.r1<q.rect.r1∨(p.rect.r1=q.rect.r1∧p.rect.c1<q.rect.c1)
theorem KD {l:List Pz} {p:Pz} {y c:Int} (hp:p.rect.r1=y) (hl: ∀ q∈l,q.rect.r1=y∧q.rect.c1<p.rect.c1) (hc:p.rect.c1≤c) (hs:l.Pairwise Kj):(jG l p).Pairwise Kj∧ ∀ q∈jG l p,q.rect.r1=y∧q.rect.c1≤c:=by
 unfold jG
 cases h:l.getLast? with
 |none=>
  exact ⟨SS _ _,fun q hq=>by rw [QO.1 hq];exact ⟨hp,hc⟩⟩
 |some q=>
  have hne:l≠ []:=fun e=>by rw [e] at h;cases h
  have hq:l.getLast hne=q:=by rw [List.getLast?_eq_some_getLast hne] at h;exact Option.some.inj h
  have he:=Sh hne
  rw [hq] at he
  have hql:q∈l:=by rw [← hq];exact List.getLast_mem hne
  dsimp only
  split
  ·
   rw [← he] at hs
   obtain ⟨s1,_,s3⟩:=RJ.1 hs
   refine ⟨RJ.2 ⟨s1,SS _ _,fun a ha b hb=> ?_⟩,fun a ha=> ?_⟩
   ·
    rw [QO.1 hb]
    exact s3 a ha q (QO.2 rfl)
   ·
    rcases QJ.1 ha with ha|ha
    ·
     have:=hl a (List.dropLast_subset l ha);omega
    ·
     rw [QO.1 ha]
     have:=hl q hql;simp only;omega
  ·
   refine ⟨RJ.2 ⟨hs,SS _ _,fun a ha b hb=> ?_⟩,fun a ha=> ?_⟩
   ·
    rw [QO.1 hb]
    have:=hl a ha
    exact .inr ⟨by omega,this.2⟩
   ·
    rcases QJ.1 ha with ha|ha
    ·
     have:=hl a ha;omega
    ·
     rw [QO.1 ha];exact ⟨hp,hc⟩
theorem oX {A B:List Rl} {y:Int × Int} (xs:List (Int × Int)) (hs:xs.Pairwise fun p q=>p.1<q.1):(jD A B y xs).Pairwise Kj∧ ∀ q∈jD A B y xs,q.rect.r1=y.1∧ ∃ x∈xs,q.rect.c1≤x.1:=by
 induction xs using s5 with
 |h0=>exact ⟨.nil,fun q hq=>by cases hq⟩
 |h1 xs x ih=>
  obtain ⟨s1,_,s3⟩:=RJ.1 hs
  obtain ⟨i1,i2⟩:=ih s1
  rw [kN]
  have:=KD (l:=jD A B y xs) (p:=mK A B y x) (y:=y.1) (c:=x.1) rfl (fun q hq=>by
   obtain ⟨h1,z,hz,h2⟩:=i2 q hq
   have:=s3 z hz x (QO.2 rfl)
   exact ⟨h1,by show q.rect.c1<x.1;omega⟩) (RS _) i1
  exact ⟨this.1,fun q hq=>⟨(this.2 q hq).1,x,by simp,(this.2 q hq).2⟩⟩
theorem yV (r:Rct) (A B:List Rl):(dF r A B).Pairwise Kj:=by
 unfold dF
 have hx:(cD r.c1 r.c2 (aV r A++aV r B)).Pairwise fun p q=>p.1<q.1:=by
  refine (qy _ _ _).imp_of_mem fun {p q} hp _ h=> ?_
  have:=eD hp;omega
 have hy:(cD r.r1 r.r2 (aU r A++aU r B)).Pairwise fun p q=>p.1<q.1:=by
  refine (qy _ _ _).imp_of_mem fun {p q} hp _ h=> ?_
  have:=eD hp;omega
 generalize cD r.r1 r.r2 (aU r A++aU r B)=ys at hy
 generalize cD r.c1 r.c2 (aV r A++aV r B)=xs at hx
 induction ys with
 |nil=>exact .nil
 |cons y ys ih=>
  obtain ⟨k1,k2⟩:=QN.1 hy
  rw [QA]
  refine RJ.2 ⟨(oX xs hx).1,ih k2,fun p hp q hq=> ?_⟩
  obtain ⟨z,hz,hq⟩:=RB.1 hq
  have h1:=((oX (A:=A) (B:=B) (y:=y) xs hx).2 p hp).1
  have h2:=((oX (A:=A) (B:=B) (y:=z) xs hx).2 q hq).1
  have h3:=k1 z hz
  exact .inl (by omega)
end Go.SL
namespace Go.SL
open Go Go.Proofs
attribute [local irreducible] W WL WQ WG WA WX WLI WR WT VOp thn blk bF scp aR bk bJ aL FnIn FnP
def At (toks:List Tk) (A:Option Nat) (cap:Nat) (p:PS) (lv:Value):Prop:= ∃ k,k≤toks.length∧p.l=toks.drop k∧p.out.length≤k∧TkV lv A toks.length cap k
section
variable {toks:List Tk} {A:Option Nat} {cap:Nat} {fin:Int} {g:Nat}
def PR (toks:List Tk) (A:Option Nat) (cap:Nat) (fin:Int) (g:Nat) (R:List Blk) (r:Out) (v:Value) (H:List Blk):Prop:=v= .tuple #[]∧ ∃ n p' lv' B' cb',r= .ok (n,p')∧At toks A cap p' lv' ∧H=pB g lv' A cap fin toks B' cb' p'.out++R
def PD (R:List Blk) (r:Out) (v:Value) (H:List Blk):Prop:= ∃ e,r= .error e∧v=zj e∧MSub R H
def POK (f:Nat) (j:Job) (fid:FuncId) (args:List Value):Prop:=
 ∀ (toks:List Tk) (A:Option Nat) (cap:Nat) (fin:Int) (g:Nat) (p:PS) (lv:Value) (B:Option Nat) (cb:Nat) (r:Out) (R:List Blk) (w0:World),toks.length≤cap→toks.length≤1000→At toks A cap p lv→bq fin f j p=some r→
  FnP Tryz.prog fid (.pointer (some ⟨g,0,none⟩)::args) w0 (pB g lv A cap fin toks B cb p.out++R) (PR toks A cap fin g R r) (PD R r)
theorem bC {o:Option Out} {k:Nat→PS→Option Out} {r:Out} (h:fw o k=some r): ∃ r1,o=some r1∧((∃ e,r1= .error e∧r= .error e)∨(∃ n p',r1= .ok (n,p')∧k n p' =some r)):=by
 unfold fw at h
 split at h
 ·
  rename_i n p'
  exact ⟨_,rfl,.inr ⟨n,p',rfl,h⟩⟩
 ·
  rename_i h1
  cases r with
  |error e=>exact ⟨_,h,.inl ⟨e,rfl,rfl⟩⟩
  |ok x=>obtain ⟨n,p'⟩:=x;exact absurd h (h1 n p')
theorem At.head {p:PS} {lv:Value} (h:At toks A cap p lv) {B:Option Nat} {cb:Nat} {out:List Nd} {H:List Blk} {w0:World} (hH:MSub (pB g lv A cap fin toks B cb out) H) (w:World) (hm:Mem w0 w H):
  ay Tryz.prog 177 [.pointer (some ⟨g,0,none⟩)] w (.agg (ba (hdT fin p.l)).toArray):=by
 obtain ⟨k,h1,h2,h3,h4⟩:=h
 rw [h2]
 exact JY h4 hH w hm
theorem At.is {p:PS} {lv:Value} (h:At toks A cap p lv) (op:Int) {B:Option Nat} {cb:Nat} {out:List Nd} {H:List Blk} {w0:World} (hH:MSub (pB g lv A cap fin toks B cb out) H) (w:World) (hm:Mem w0 w H):
  ay Tryz.prog 303 [.pointer (some ⟨g,0,none⟩),.int .i64 op] w (.bool (decide ((hdT fin p.l).kind=8∧(hdT fin p.l).num=op))):=by
 obtain ⟨k,h1,h2,h3,h4⟩:=h
 rw [h2]
 exact OG op h4 hH w hm
def At1 (toks:List Tk) (A:Option Nat) (cap:Nat) (p:PS) (lv:Value):Prop:= ∃ k,k≤toks.length∧p.l=toks.drop k∧p.out.length+1≤k∧TkV lv A toks.length cap k
theorem At.skip {p:PS} {lv:Value} (h:At toks A cap p lv) (hc:toks.length≤cap) {c:Int} (hk:(hdT fin p.l).kind=c) (h0:c≠0) {B:Option Nat} {cb:Nat} {out:List Nd} {H R:List Blk} {w0:World} (hH:MSub (pB g lv A cap fin toks B cb out++R) H):
  FnIn Tryz.prog 275 [.pointer (some ⟨g,0,none⟩)] w0 H fun v H=>v= .tuple #[]∧ ∃ lv',At1 toks A cap p.skip lv' ∧H=pB g lv' A cap fin toks B cb out++R:=by
 obtain ⟨k,h1,h2,h3,h4⟩:=h
 have hpos:=iW hk h0
 rw [h2,Qz] at hpos
 refine (JX g lv A cap fin toks k h4 (by omega) hc B cb out R w0).msub hH|>.mono ?_
 rintro v H' ⟨rfl,lv',h5,rfl⟩
 exact ⟨rfl,lv',⟨k+1,by omega,by simp only [PS.skip];rw [h2,Ta],by simp only [PS.skip];omega,h5⟩,rfl⟩
theorem At1.at {p:PS} {lv:Value} (h:At1 toks A cap p lv):At toks A cap p lv:=let ⟨k,h1,h2,h3,h4⟩:=h;⟨k,h1,h2,by omega,h4⟩
theorem At1.put {p:PS} {lv:Value} (h:At1 toks A cap p lv) (n:Nd):At toks A cap (p.put n) lv:=let ⟨k,h1,h2,h3,h4⟩:=h;⟨k,h1,h2,by simp only [PS.put,Qk,Qo];exact h3,h4⟩
theorem At.len {p:PS} {lv:Value} (h:At toks A cap p lv) (hl:toks.length≤1000):p.out.length≤1000000:=let ⟨k,h1,h2,h3,h4⟩:=h;by omega
theorem At1.grew {p p' :PS} {lv lv' :Value} {q:Prop} (h:At1 toks A cap p lv) (h' :At toks A cap p' lv') (hg:Grew p p' q):At1 toks A cap p' lv' :=by
 obtain ⟨k,h1,h2,h3,h4⟩:=h
 obtain ⟨k',g1,g2,g3,g4⟩:=h'
 obtain ⟨⟨m,e1,e2,e3⟩,_,_⟩:=hg
 rw [h2,RN] at e1
 rw [h2,Qz] at e2
 have hk:k' =k+m:=by
  have:=congrArg List.length (g2.symm.trans e1)
  rw [Qz,Qz] at this
  omega
 exact ⟨k',g1,g2,by omega,g4⟩
theorem dY {fn:Func} {fr:Fr} {w0:World} {R H:List Blk} {r:Out} {n:Nat} {p' :PS} {lv' :Value} {B' :Option Nat} {cb' :Nat} {e:Exit} {s:az} (he:e= .ret∨e= .normal) (hf:fn.results= #[]) (hr:r= .ok (n,p')) (hat:At toks A cap p' lv') (hs:MSub (pB g lv' A cap fin toks B' cb' p'.out++R) H):
  bk Tryz.prog fn fr w0 (PR toks A cap fin g R r) (PD R r) e s H:=PT (fM he hf hs ⟨rfl,n,p',lv',B',cb',hr,hat,rfl⟩)
theorem cM {fn:Func} {fr:Fr} {w0:World} {R H:List Blk} {r:Out} {e:Int × Int} {s:az} {Rok:Value→List Blk→Prop} (hr:r= .error e) (hs:MSub R H):
  bk Tryz.prog fn fr w0 Rok (PD R r) (.panic (iY (zj e))) s H:=NL (.refl _) ⟨e,hr,rfl,hs⟩
set_option maxHeartbeats 1000000 in
theorem Mp (f:Nat) (ihS:POK f .sign 272 []) (ihP:POK f .pct 304 []):POK (f+1) .sign 272 []:=by
 intro toks A cap fin g p lv B cb r R w0 hc hl hat hrun
 refine vo Tryz.func272 rfl Tryz.ntmps272 rfl ?_
 rw [bq] at hrun
 dsimp only at hrun
 have hi:=fun w hm=>hat.is 2 (fin:=fin) (g:=g) (B:=B) (cb:=cb) (out:=p.out) (H:=pB g lv A cap fin toks B cb p.out++R) (w0:=w0) (MSub.pick .hd (.pick .hd (.pick .hd (.nil _)))) w hm
 by_cases hs:(hdT fin p.l).kind=8∧(hdT fin p.l).num=2
 ·
  rw [if_pos hs] at hrun
  obtain ⟨r1,hr1,hr2⟩:=bC hrun
  rw [decide_eq_true hs] at hi
  repeat' (first|(apply aa (f:=303);exact rfl;exact rfl;exact hi)|(apply aw (f:=275);exact rfl;exact rfl;exact hat.skip hc hs.1 (by decide) (MSub.pick pK (MSub.pick pK (MSub.pick pK (MSub.refl _))));rintro _ _ ⟨rfl,lv1,h1,rfl⟩)|(refine bH (f:=272) rfl rfl (FnP.msub (ihS toks A cap fin g p.skip _ B cb r1 _ w0 hc hl (At1.at h1) hr1) (MSub.pick pK (MSub.pick pK (MSub.pick pK (MSub.refl _))))) ?_ ?_)|(rintro _ _ ⟨rfl,n,p',lv',B',cb',rfl,h2,rfl⟩)|(rintro _ _ ⟨e,rfl,rfl,h3⟩)|(apply aw (f:=276);exact rfl;exact rfl;exact FnIn.msub (jW (dq 4 0) _ _ _ _ _ _ _ _ _ (At.len h2 hl) _ _) (MSub.pick pK (MSub.pick pK (MSub.pick pK (MSub.refl _))));rintro _ _ ⟨rfl,B2,cb2,rfl⟩)|refine sT ?_|refine sP ?_|refine sM fun _=> ?_|(refine sC ?_ ?_<;>intro hb<;>try omega)|fail)
  ·
   rcases hr2 with ⟨e,h,_⟩|⟨n1,p1,h,h5⟩
   ·
    cases h
   ·
    cases h
    cases h5
    exact dY (p' :=p'.put (dq 4 0)) (.inl rfl) rfl rfl ((h1.grew h2 (js _ _ _ _ _ _ hr1)).put _) (.refl _)
  ·
   rcases hr2 with ⟨e',h,h5⟩|⟨n1,p1,h,h5⟩
   ·
    cases h
    exact cM h5 h3
   ·
    cases h
 ·
  rw [if_neg hs] at hrun
  rw [decide_eq_false hs] at hi
  obtain ⟨r1,hr1,hr2⟩:=bC hrun
  repeat' (first|(apply aa (f:=303) (d:=3);exact rfl;exact rfl;exact hi)|(refine bH (f:=304) rfl rfl (FnP.msub (ihP toks A cap fin g p _ B cb r1 _ w0 hc hl hat hr1) (MSub.pick pK (MSub.pick pK (MSub.pick pK (MSub.refl _))))) ?_ ?_)|(rintro _ _ ⟨rfl,n,p',lv',B',cb',rfl,h2,rfl⟩)|(rintro _ _ ⟨e,rfl,rfl,h3⟩)|refine sT ?_|refine sP ?_|refine sM fun _=> ?_|(refine sC ?_ ?_<;>intro hb<;>try omega)|fail)
  ·
   rcases hr2 with ⟨e,h,_⟩|⟨n1,p1,h,h5⟩
   ·
    cases h
   cases h
   have hi2:=fun w hm=>h2.is 5 (fin:=fin) (g:=g) (B:=B') (cb:=cb') (out:=p'.out) (H:=pB g lv' A cap fin toks B' cb' p'.out++R) (w0:=w0) (MSub.pick .hd (.pick .hd (.pick .hd (.nil _)))) w hm
   by_cases hs5:(hdT fin p'.l).kind=8∧(hdT fin p'.l).num=5
   ·
    rw [if_pos hs5] at h5
    rw [decide_eq_true hs5] at hi2
    obtain ⟨r2,hr3,hr4⟩:=bC h5
    repeat' (first|(apply aa (f:=303) (d:=14);exact rfl;exact rfl;exact hi2)|(apply aw (f:=275);exact rfl;exact rfl;exact h2.skip hc hs5.1 (by decide) (MSub.pick pK (MSub.pick pK (MSub.pick pK (MSub.refl _))));rintro _ _ ⟨rfl,lv1,h1,rfl⟩)|(refine bH (f:=272) rfl rfl (FnP.msub (ihS toks A cap fin g p'.skip _ B' cb' r2 _ w0 hc hl (At1.at h1) hr3) (MSub.pick pK (MSub.pick pK (MSub.pick pK (MSub.refl _))))) ?_ ?_)|(rintro _ _ ⟨rfl,n2,p2,lv2,B2,cb2,rfl,h6,rfl⟩)|(rintro _ _ ⟨e,rfl,rfl,h3⟩)|(apply aw (f:=276);exact rfl;exact rfl;exact FnIn.msub (jW (dq 6 5) _ _ _ _ _ _ _ _ _ (At.len h6 hl) _ _) (MSub.pick pK (MSub.pick pK (MSub.pick pK (MSub.refl _))));rintro _ _ ⟨rfl,B3,cb3,rfl⟩)|refine sT ?_|refine sP ?_|refine sM fun _=> ?_|(refine sC ?_ ?_<;>intro hb<;>try omega)|fail)
    ·
     rcases hr4 with ⟨e,h,_⟩|⟨n3,p3,h,h7⟩
     ·
      cases h
     ·
      cases h
      cases h7
      exact dY (p' :=p2.put (dq 6 5)) (.inr rfl) rfl rfl ((h1.grew h6 (js _ _ _ _ _ _ hr3)).put _) (.refl _)
    ·
     rcases hr4 with ⟨e',h,h7⟩|⟨n3,p3,h,h7⟩
     ·
      cases h
      exact cM h7 h3
     ·
      cases h
   ·
    rw [if_neg hs5] at h5
    rw [decide_eq_false hs5] at hi2
    cases h5
    repeat' (first|(apply aa (f:=303) (d:=14);exact rfl;exact rfl;exact hi2)|refine sT ?_|refine sP ?_|refine sM fun _=> ?_|(refine sC ?_ ?_<;>intro hb<;>try omega)|fail)
    exact dY (.inr rfl) rfl rfl h2 (.refl _)
  ·
   rcases hr2 with ⟨e',h,h5⟩|⟨n1,p1,h,h5⟩
   ·
    cases h
    exact cM h5 h3
   ·
    cases h
set_option maxHeartbeats 1000000 in
theorem DU (f:Nat) (ihP:POK f .prim 335 []):POK (f+1) .pct 304 []:=by
 intro toks A cap fin g p lv B cb r R w0 hc hl hat hrun
 refine vo Tryz.func304 rfl Tryz.ntmps304 rfl ?_
 rw [bq] at hrun
 obtain ⟨r1,hr1,hr2⟩:=bC hrun
 repeat' (first|(refine bH (f:=335) rfl rfl (FnP.msub (ihP toks A cap fin g p _ B cb r1 _ w0 hc hl hat hr1) (MSub.pick pK (MSub.pick pK (MSub.pick pK (MSub.refl _))))) ?_ ?_)|(rintro _ _ ⟨rfl,n,p',lv',B',cb',rfl,h2,rfl⟩)|(rintro _ _ ⟨e,rfl,rfl,h3⟩)|refine sT ?_|refine sP ?_|refine sM fun _=> ?_|(refine sC ?_ ?_<;>intro hb<;>try omega)|fail)
 ·
  rcases hr2 with ⟨e,h,_⟩|⟨n1,p1,h,h5⟩
  ·
   cases h
  cases h
  refine ax [0] rfl (fun _:Nat × PS × Value × Option Nat × Nat=> []) (fun x=>pB g x.2.2.1 A cap fin toks x.2.2.2.1 x.2.2.2.2 x.2.1.out++R) (fun x=>At toks A cap x.2.1 x.2.2.1∧bq fin x.1 .pctl x.2.1=some r) (fun x=>x.1) (f,p',lv',B',cb') ⟨h2,h5⟩ sB (.refl _) ?_
  rintro ⟨f',q,lq,Bq,cq⟩ ⟨hq1,hq2⟩
  dsimp only at hq1 hq2 ⊢
  cases f' with
  |zero=>cases hq2
  |succ f' =>
   rw [bq] at hq2
   have hi:=fun w hm=>hq1.is 13 (fin:=fin) (g:=g) (B:=Bq) (cb:=cq) (out:=q.out) (H:=pB g lq A cap fin toks Bq cq q.out++R) (w0:=w0) (MSub.pick .hd (.pick .hd (.pick .hd (.nil _)))) w hm
   by_cases hs:(hdT fin q.l).kind=8∧(hdT fin q.l).num=13
   ·
    rw [if_pos hs] at hq2
    rw [decide_eq_true hs] at hi
    repeat' (first|(apply aa (f:=303);exact rfl;exact rfl;exact hi)|(apply aw (f:=275);exact rfl;exact rfl;exact hq1.skip hc hs.1 (by decide) (MSub.pick pK (MSub.pick pK (MSub.pick pK (MSub.refl _))));rintro _ _ ⟨rfl,lv1,h1,rfl⟩)|(apply aw (f:=276);exact rfl;exact rfl;exact FnIn.msub (jW (dq 5 0) _ _ _ _ _ _ _ _ _ (At.len hq1 hl) _ _) (MSub.pick pK (MSub.pick pK (MSub.pick pK (MSub.refl _))));rintro _ _ ⟨rfl,B2,cb2,rfl⟩)|refine sT ?_|refine sP ?_|refine sM fun _=> ?_|(refine sC ?_ ?_<;>intro hb<;>try omega)|fail)
    refine ⟨(f',q.skip.put (dq 5 0),lv1,B2,cb2),⟨h1.put _,hq2⟩,SU _,sB,sB,.refl _⟩
   ·
    rw [if_neg hs] at hq2
    rw [decide_eq_false hs] at hi
    cases hq2
    repeat' (first|(apply aa (f:=303);exact rfl;exact rfl;exact hi)|refine sT ?_|refine sP ?_|refine sM fun _=> ?_|(refine sC ?_ ?_<;>intro hb<;>try omega)|fail)
    exact dY (by first|exact .inr rfl|exact .inl rfl) rfl rfl hq1 (.refl _)
 ·
  rcases hr2 with ⟨e',h,h5⟩|⟨n1,p1,h,h5⟩
  ·
   cases h
   exact cM h5 h3
  ·
   cases h
end
end Go.SL
namespace Go.SL
open Go Go.Proofs
attribute [local irreducible] W WL WQ WG WA WX WLI WR WT WC VOp RW thn blk bF scp aR bk bJ aL FnIn FnP ceP
theorem bX {P:Program} {n:Fr} {w0:World} {Q:bR} {s:az} {H:List Blk} {l:List Oper} {id:Nat} (es ps:List Nat) (hm:P.follows .mixedOrders=true) (hB:Region.lexB .any l.toArray=true) (hch:EI l es ps=true)
  (h:WC P n w0 l H es ps Q l 0 s H):W P n w0 (.region id l.toArray true) Q s H:=jc es ps H hm hB hch (MSub.refl H) h
theorem HW (L:List Us): ∀ u∈L.flatMap fq,u.oneCell' =true:=by
 intro u hu
 obtain ⟨n,_,h⟩:=RB.1 hu
 simp only [fq,Qx,Sz,or_false] at h
 rcases h with rfl|rfl|rfl|rfl|rfl|rfl<;>rfl
theorem IK (L:List Us) (tv:Value) (w:World) (ht:Reads w tv L.length (L.flatMap fq)) (hlen:L.length≤1000000):
  aL Tryz.prog 157 [tv] w fun v H=> ∃ A cap,v=sl A L.length cap∧H= [.own A 159 6 L.length cap (L.flatMap fq)]:=by
 have ht' :=ht
 obtain ⟨At,ct,rfl,ht1,ht2,ht3⟩:=ht
 refine aq Tryz.func157 rfl Tryz.ntmps157 rfl ?_
 have hl:(L.flatMap fq).length=L.length*6:=aH Ck L
 refine aC 159 6 ?_
 repeat' (first|(apply ak;exact rfl;apply kJ;exact rfl)|(apply dh;exact rfl;intro gb)|(apply ck (n' :=0) (c:=0) (A:=some _) (m:=L.length);(iterate 3 exact rfl);exact pK;(intro w hm;exact ht'.of_w0 hm);exact hl;exact HW L;omega;(simp only [maxLen];omega);intro A' cap' hA)|refine sT ?_|refine sM fun _=> ?_|(refine sC ?_ ?_<;>intro hb<;>try omega)|fail)
 ·
  have e:L.length=0:=by
   rcases Rz L.length with h|h
   ·
    exact h
   ·
    obtain ⟨g,o,rfl,_⟩:=ht3 h
    cases hb
  have e' :L= []:=QV e
  subst e'
  exact cf (.inl rfl) Tryz.results157 rfl (.refl _) ⟨none,0,rfl,rfl⟩
 ·
  exact cf (.inl rfl) Tryz.results157 rfl (H' := [.own A' 159 6 (0+L.length) cap' ([]++L.flatMap fq)]) mS ⟨A',cap',by rw [QG],by rw [QG];rfl⟩
structure En where
 at_:Rf
 ta:Option Addr
 tc:Nat
 ua:Option Addr
 uc:Nat
 tree:List Nd
 uses:List Us
 born:Nat
def En.tv (e:En):Value:= .slice e.ta e.tree.length e.tc
def En.uv (e:En):Value:= .slice e.ua e.uses.length e.uc
def En.m (e:En):Rf × Value × Nat:=(e.at_,.agg #[e.tv,e.uv],e.born)
abbrev IM:Value:= .agg [Value.slice none 0 0,.slice none 0 0].toArray
def rdIn (R:List Blk) (v:Value) (m:Nat) (xs:List Value):Prop:= ∀ w0 w,Mem w0 w R→Reads w v m xs
theorem rdIn.sub {R R' :List Blk} {v:Value} {m:Nat} {xs:List Value} (h:rdIn R v m xs) (hs:MSub R R'):rdIn R' v m xs:=fun w0 w hm=>h w0 w (hs.use hm)
theorem rdIn.nil (R:List Blk):rdIn R (.slice none 0 0) 0 []:=fun _ _ _=>⟨none,0,rfl,Qq _,Qt _,fun h=>by cases h⟩
theorem rdIn.own {R:List Blk} {A:Option Nat} {t sz m c:Nat} {xs:List Value} (hi:In (.own A t sz m c xs) R):rdIn R (sl A m c) m xs:=fun _ _ hm=>Reads.of_own hm hi
structure EnOk (R:List Blk) (e:En):Prop where
 tree:rdIn R e.tv e.tree.length (e.tree.flatMap bT)
 uses:rdIn R e.uv e.uses.length (e.uses.flatMap fq)
 tl:e.tree.length≤1000000
 ul:e.uses.length≤1000000
theorem EnOk.sub {R R' :List Blk} {e:En} (h:EnOk R e) (hs:MSub R R'):EnOk R' e:=⟨h.tree.sub hs,h.uses.sub hs,h.tl,h.ul⟩
def yd (a:Rf):En:=⟨a,none,0,none,0,[],[],0⟩
theorem F4 (R:List Blk) (a:Rf):EnOk R (yd a):=⟨rdIn.nil _,rdIn.nil _,by simp [yd],by simp [yd]⟩
def ng (E:List En) (a:Rf):Option En:=E.find? fun e=>decide (e.at_=a)
def jI (E:List En) (a:Rf):En:=(ng E a).getD (yd a)
theorem HQ {E:List En} {a:Rf} {e:En} (h:ng E a=some e):e∈E:=Tb h
theorem HO {R:List Blk} {E:List En} (h: ∀ e∈E,EnOk R e) (a:Rf):EnOk R (jI E a):=by
 unfold jI
 cases hf:ng E a with
 |none=>exact F4 _ _
 |some e=>exact h e (HQ hf)
theorem MM (E:List En) (a:Rf): ∀ i:Nat,(cw a (E.map En.m) i).map (fun x=>x.2)=(ng E a).map fun e=>e.m.2.1:=by
 induction E with
 |nil=>intro i;rfl
 |cons e r ih=>
  intro i
  simp only [QL,cw,ng,List.find?_cons]
  by_cases h:a=e.at_
  ·
   simp [En.m,h]
  ·
   have h' : ¬ e.at_=a:=fun x=>h x.symm
   simp only [En.m,h,if_false,h',decide_false]
   exact ih (i+1)
theorem OY (E:List En) (a:Rf):(match cw a (E.map En.m) 0 with|some (_,v)=>v|none=>IM)= .agg #[(jI E a).tv,(jI E a).uv]:=by
 have h:=MM E a 0
 unfold jI
 cases hk:cw a (E.map En.m) 0 with
 |none=>rw [hk] at h;cases hf:ng E a with
  |none=>rfl
  |some e=>rw [hf] at h;cases h
 |some x=>rw [hk] at h;cases hf:ng E a with
  |none=>rw [hf] at h;cases h
  |some e=>rw [hf] at h;exact Option.some.inj h
instance klaw_key:KLaw Tryz.prog 50 pg:=klaw_F
instance:FldT Tryz.prog 206 1 156 1:=⟨_,_,Tryz.underlying206,rfl,rfl,rfl⟩
set_option maxHeartbeats 1000000 in
theorem Nu (gg gm clock:Nat) (E:List En) (a:Rf) (R:List Blk) (w0:World) (hE: ∀ e∈E,EnOk R e):
  FnIn Tryz.prog 125 [.pointer (some ⟨gg,0,none⟩),pg a] w0 (gB gg gm (E.map En.m) clock++R) fun v H=> ∃ A cap,v=sl A (jI E a).uses.length cap∧H= .own A 159 6 (jI E a).uses.length cap ((jI E a).uses.flatMap fq)::(gB gg gm (E.map En.m) clock++R):=by
 refine dx Tryz.func125 rfl Tryz.ntmps125 rfl ?_
 have hl:=OY E a
 have hok:=HO hE a
 generalize jI E a=e at hl hok
 have hcl:=fun (w' :World) (H' :List Blk) (hs:MSub R H') (hm:Mem w0 w' H')=>IK e.uses e.uv w' (hok.uses _ w' (hs.use hm)) hok.ul
 unfold gB
 repeat' (first|(apply ak;exact rfl;apply gY;exact rfl)|(apply bX (id:=3) [7] [];kernel_rfl;kernel_rfl;kernel_rfl)|(apply di;(iterate 3 exact rfl);apply tX (enc:=pg) (z:=IM);exact rfl;exact rfl;exact pK;exact hl)|(apply di;(iterate 3 exact rfl);apply cL;exact rfl;exact rfl)|(apply aA (f:=157);exact rfl;exact rfl;(intro w' hm;exact hcl w' _ mS hm);rintro _ _ ⟨A,cap,rfl,rfl⟩)|refine sT ?_|refine sS ?_|refine sW ?_|refine sM fun _=> ?_|(refine sC ?_ ?_<;>intro hb<;>try omega)|(refine sCW ?_ ?_<;>intro hb<;>try omega)|fail)
 all_goals exact cf eIO rfl rfl mS ⟨A,cap,rfl,rfl⟩
end Go.SL
namespace Go.SL
open Go Go.Proofs
attribute [local irreducible] W WL WQ WG WA WX WLI WR WT VOp thn blk bF scp aR bk bJ aL FnIn FnP
def sx (g g2 g3:Nat) (k:Int) (R:List Blk):List Blk:= .box g2 224 [.pointer (some ⟨g,0,none⟩)]:: .box g3 3 [.int .i64 k]::R
theorem HA (f:Nat) (k:Int) (h1:1≤k) (h4:k≤3) (ih:POK f (.level (k+1)) 226 [.int .i64 (k+1)]) (toks:List Tk) (A:Option Nat) (cap:Nat) (fin:Int) (g:Nat) (p:PS) (lv:Value) (B:Option Nat) (cb:Nat) (r:Out) (R:List Blk) (w0:World) (g2 g3:Nat) (hc:toks.length≤cap) (hl:toks.length≤1000) (hat:At toks A cap p lv) (hr:bq fin f (.level (k+1)) p=some r):
  FnP Tryz.prog 273 [.pointer (some ⟨g2,0,none⟩),.pointer (some ⟨g3,0,none⟩)] w0 (pB g lv A cap fin toks B cb p.out++sx g g2 g3 k R) (PR toks A cap fin g (sx g g2 g3 k R) r) (PD (sx g g2 g3 k R) r):=by
 refine vo Tryz.func273 rfl Tryz.ntmps273 rfl ?_
 repeat' (first|(refine bH (f:=226) rfl rfl (ih toks A cap fin g p lv B cb r _ w0 hc hl hat hr) ?_ ?_)|(rintro _ _ ⟨rfl,n,p',lv',B',cb',rfl,h2,rfl⟩)|(rintro _ _ ⟨e,rfl,rfl,h3⟩)|refine sT ?_|refine sP ?_|refine sJ ?_|refine sM fun _=> ?_|(refine sC ?_ ?_<;>intro hb<;>try omega)|exact cT|fail)
 ·
  exact dY (by first|exact .inr rfl|exact .inl rfl) rfl rfl h2 (.refl _)
 ·
  exact cM rfl h3
def NE (f:Nat) (k:Int) (toks:List Tk) (A:Option Nat) (cap:Nat) (fin:Int) (g g2 g3:Nat) (w0:World) (bv:Value):Prop:=
 ∃ (fid:FuncId) (bs caps:List Value),bv= .func (.func fid) bs.toArray caps.toArray∧Callable Tryz.prog fid∧ ∀ (f' :Nat) (p:PS) (lv:Value) (B:Option Nat) (cb:Nat) (r:Out) (R:List Blk),f' ≤f→At toks A cap p lv→bq fin f' (.level (k+1)) p=some r→
  FnP Tryz.prog fid (bs++([]++caps)) w0 (pB g lv A cap fin toks B cb p.out++sx g g2 g3 k R) (PR toks A cap fin g (sx g g2 g3 k R) r) (PD (sx g g2 g3 k R) r)
set_option maxHeartbeats 2000000 in
theorem Ko (f:Nat) (k:Int) (h1:1≤k) (h4:k≤4) (ihL:k≤3→ ∀ f' ≤f,POK f' (.level (k+1)) 226 [.int .i64 (k+1)]) (ihS: ∀ f' ≤f,POK f' .sign 272 []):POK (f+1) (.level k) 226 [.int .i64 k]:=by
  intro toks A cap fin g p lv B cb r R w0 hc hl hat hrun
  refine vo Tryz.func226 rfl Tryz.ntmps226 rfl ?_
  rw [bq,if_neg (by omega)] at hrun
  obtain ⟨r1,hr1,hr2⟩:=bC hrun
  repeat' (first|(apply ak;exact rfl;apply lw;exact rfl)|(rename_i g2 g3;refine E9 (id:=2) [2,3] rfl (ι:=Value) (fun bv=> [(4,bv)]) (fun bv=>NE f k toks A cap fin g g2 g3 w0 bv) ?_ ?_)|refine cG (_) ?_ sB mS|refine sT ?_|refine sP ?_|refine sM fun _=> ?_|(refine sC ?_ ?_<;>intro hb<;>try omega)|exact cT|fail)
  · exact ⟨_,[],_,rfl,inferInstance,fun f' p lv B cb r R hf' hat' hr' =>HA f' k h1 (by omega) (ihL (by omega) f' hf') toks A cap fin g p lv B cb r R w0 _ _ hc hl hat' hr'⟩
  · have hk:k=4:=by omega
    subst hk
    refine ⟨_,_,[],rfl,inferInstance,fun f' p lv B cb r R hf' hat' hr' => ?_⟩
    cases f' with
    |zero=>cases hr'
    |succ f'' =>
      rw [bq,if_pos (by decide)] at hr'
      exact ihS f'' (by omega) toks A cap fin g p lv B cb r _ w0 hc hl hat' hr'
  · rintro bv ⟨fid,bs,caps,rfl,hcl,hbel⟩
    repeat' (first|(refine wQ (f:=fid) rfl rfl hcl rfl (FnP.msub (hbel f p lv B cb r1 _ (Qq _) hat hr1) (MSub.pick pK (MSub.pick pK (MSub.pick pK (MSub.pick pK (MSub.pick pK (MSub.refl _))))))) ?_ ?_)|(rintro _ _ ⟨rfl,n,p',lv',B',cb',rfl,h2,rfl⟩)|(rintro _ _ ⟨e,rfl,rfl,h3⟩)|refine sT ?_|refine sP ?_|refine sM fun _=> ?_|(refine sC ?_ ?_<;>intro hb<;>try omega)|exact cT|fail)
    · rcases hr2 with ⟨e,h,_⟩|⟨n1,p1,h,h5⟩
      · cases h
      cases h
      refine ax [2,3,4] rfl (fun _:Nat × PS × Value × Option Nat × Nat=> []) (fun x=>pB g x.2.2.1 A cap fin toks x.2.2.2.1 x.2.2.2.2 x.2.1.out++sx g g2 g3 k R) (fun x=>x.1≤f∧At toks A cap x.2.1 x.2.2.1∧bq fin x.1 (.loop k) x.2.1=some r) (fun x=>x.1) (f,p',lv',B',cb') ⟨Qq _,h2,h5⟩ sB (.refl _) ?_
      rintro ⟨f',q,lq,Bq,cq⟩ ⟨hf',hq1,hq2⟩
      dsimp only at hf' hq1 hq2 ⊢
      cases f' with
      |zero=>cases hq2
      |succ f' =>
        rw [bq] at hq2
        have hh:=fun w hm=>hq1.head (fin:=fin) (g:=g) (B:=Bq) (cb:=cq) (out:=q.out) (H:=pB g lq A cap fin toks Bq cq q.out++sx g g2 g3 k R) (w0:=w0) (MSub.pick .hd (.pick .hd (.pick .hd (.nil _)))) w hm
        obtain ⟨t,ht⟩: ∃ t,hdT fin q.l=t:=⟨_,rfl⟩
        rw [ht] at hq2 hh
        by_cases hs:t.kind=8∧f4 t.num=k
        · rw [if_pos hs] at hq2
          obtain ⟨hs8,hsk⟩:=hs
          obtain ⟨r2,hr3,hr4⟩:=bC hq2
          repeat' (first|(apply aa (f:=177);exact rfl;exact rfl;exact hh)|(apply aa (f:=274);exact rfl;exact rfl;(intro w' _;exact xx _ w'))|(apply aw (f:=275);exact rfl;exact rfl;exact hq1.skip hc (ht ▸ hs8) (by decide) (MSub.pick pK (MSub.pick pK (MSub.pick pK (MSub.refl _))));rintro _ _ ⟨rfl,lv1,h1',rfl⟩)|(refine wQ (f:=fid) rfl rfl hcl rfl (FnP.msub (hbel f' q.skip lv1 Bq cq r2 _ (by omega) (At1.at h1') hr3) (MSub.pick pK (MSub.pick pK (MSub.pick pK (MSub.pick pK (MSub.pick pK (MSub.refl _))))))) ?_ ?_)|(rintro _ _ ⟨rfl,n2,p2,lv2,B2,cb2,rfl,h6,rfl⟩)|(rintro _ _ ⟨e,rfl,rfl,h3⟩)|(apply aw (f:=276);exact rfl;exact rfl;exact FnIn.msub (jW (dq 6 t.num) _ _ _ _ _ _ _ _ _ (At.len h6 hl) _ _) (MSub.pick pK (MSub.pick pK (MSub.pick pK (MSub.refl _))));rintro _ _ ⟨rfl,B3,cb3,rfl⟩)|refine sT ?_|refine sP ?_|refine sM fun _=> ?_|(refine sC ?_ ?_<;>intro hb<;>try omega)|exact cT|fail)
          · rcases hr4 with ⟨e,h,_⟩|⟨n3,p3,h,h7⟩
            · cases h
            · cases h
              refine ⟨(f',p2.put (dq 6 t.num),lv2,B3,cb3),⟨by omega,(h1'.grew h6 (js _ _ _ _ _ _ hr3)).put _,h7⟩,SU _,sB,sB,?_⟩
              dsimp only [sx,List.cons_append,List.nil_append,pB]
              exact mS
          · rcases hr4 with ⟨e',h,h7⟩|⟨n3,p3,h,h7⟩
            · cases h
              exact cM h7 (MSub.trans (by unfold sx;exact .drop (.tl (.tl .hd)) (.drop .hd (.drop .hd (.refl _)))) h3)
            · cases h
        · rw [if_neg hs] at hq2
          cases hq2
          repeat' (first|(apply aa (f:=177);exact rfl;exact rfl;exact hh)|(apply aa (f:=274);exact rfl;exact rfl;(intro w' _;exact xx _ w'))|refine sT ?_|refine sP ?_|refine sM fun _=> ?_|(refine sC ?_ ?_<;>intro hb<;>try omega)|exact cT|fail)
          all_goals first
            |(exfalso;omega)
            | (refine dY (B' := Bq) (cb' := cq) (by first | exact .inr rfl | exact .inl rfl) rfl rfl hq1 ?_
               dsimp only [sx,List.cons_append,List.nil_append,pB]
               exact mS)
    · rcases hr2 with ⟨e',h,h5⟩|⟨n1,p1,h,h5⟩
      · cases h
        exact cM h5 (MSub.trans (by unfold sx;exact .drop .hd (.drop .hd (.refl _))) h3)
      · cases h
def NA (F:Int→PS→Option Out) (fid:FuncId) (args:List Value):Prop:=
 ∀ (toks:List Tk) (A:Option Nat) (cap:Nat) (fin:Int) (g:Nat) (p:PS) (lv:Value) (B:Option Nat) (cb:Nat) (r:Out) (R:List Blk) (w0:World),toks.length≤cap→toks.length≤1000→At toks A cap p lv→F fin p=some r→
  FnP Tryz.prog fid (.pointer (some ⟨g,0,none⟩)::args) w0 (pB g lv A cap fin toks B cb p.out++R) (PR toks A cap fin g R r) (PD R r)
def E5 (c:Int) (fin:Int) (p:PS):Option Out:=if (hdT fin p.l).kind≠c then some (.error ((hdT fin p.l).at_,4)) else some (.ok (0,p.skip))
theorem yz (c:Int) (h0:c≠0):NA (E5 c) 355 [.int .u8 c]:=by
  intro toks A cap fin g p lv B cb r R w0 hc hl hat hrun
  refine vo Tryz.func355 rfl Tryz.ntmps355 rfl ?_
  have hh:=fun w hm=>hat.head (fin:=fin) (g:=g) (B:=B) (cb:=cb) (out:=p.out) (H:=pB g lv A cap fin toks B cb p.out++R) (w0:=w0) (MSub.pick .hd (.pick .hd (.pick .hd (.nil _)))) w hm
  unfold E5 at hrun
  obtain ⟨t,ht⟩: ∃ t,hdT fin p.l=t:=⟨_,rfl⟩
  rw [ht] at hrun hh
  by_cases hk:t.kind≠c
  · rw [if_pos hk] at hrun
    cases hrun
    repeat' (first|(apply aa (f:=177);exact rfl;exact rfl;exact hh)|(refine bH (f:=178) rfl rfl (iP _ _ _ _ _ (fun _ _=>False)) ?_ ?_)|(exact fun _ _ h=>h.elim)|(rintro _ _ ⟨rfl,rfl⟩)|refine sT ?_|refine sP ?_|refine sM fun _=> ?_|(refine sC ?_ ?_<;>intro hb<;>try omega)|fail)
    all_goals first
      |(exfalso;omega)
      | (refine cM rfl ?_
         dsimp only [List.cons_append,List.nil_append,pB]
         exact mS)
  · rw [if_neg hk] at hrun
    cases hrun
    repeat' (first|(apply aa (f:=177);exact rfl;exact rfl;exact hh)|(apply aw (f:=275);exact rfl;exact rfl;exact hat.skip hc (c:=c) (by rw [ht];omega) h0 (MSub.pick pK (MSub.pick pK (MSub.pick pK (MSub.refl _))));rintro _ _ ⟨rfl,lv1,h1,rfl⟩)|refine sT ?_|refine sP ?_|refine sM fun _=> ?_|(refine sC ?_ ?_<;>intro hb<;>try omega)|fail)
    all_goals first
      |(exfalso;omega)
      | (refine dY (B' := B) (cb' := cb) (by first | exact .inr rfl | exact .inl rfl) rfl rfl (At1.at h1) ?_
         dsimp only [List.cons_append,List.nil_append,pB]
         exact mS)
theorem pI (v:Vl):NA (fun fin p=>if (hdT fin p.l).kind=0 then none else some (.ok (0,p.skip.put ⟨1,v,aM,0,0,0⟩))) 354 [.agg (dr v).toArray]:=by
 intro toks A cap fin g p lv B cb r R w0 hc hl hat hrun
 refine vo Tryz.func354 rfl Tryz.ntmps354 rfl ?_
 dsimp only at hrun
 by_cases hk:(hdT fin p.l).kind=0
 ·
  rw [if_pos hk] at hrun;cases hrun
 rw [if_neg hk] at hrun
 cases hrun
 repeat' (first|(apply aw (f:=275);exact rfl;exact rfl;exact hat.skip hc rfl hk (MSub.pick pK (MSub.pick pK (MSub.pick pK (MSub.refl _))));rintro _ _ ⟨rfl,lv1,h1,rfl⟩)|(apply aw (f:=276);exact rfl;exact rfl;exact FnIn.msub (jW ⟨1,v,aM,0,0,0⟩ _ _ _ _ _ _ _ _ _ (At.len hat hl) _ _) (MSub.pick pK (MSub.pick pK (MSub.pick pK (MSub.refl _))));rintro _ _ ⟨rfl,B3,cb3,rfl⟩)|refine sT ?_|refine sP ?_|refine sM fun _=> ?_|(refine sC ?_ ?_<;>intro hb<;>try omega)|fail)
 all_goals
  refine dY (p' :=p.skip.put ⟨1,v,aM,0,0,0⟩) (B' :=B3) (cb' :=cb3) (by first|exact .inr rfl|exact .inl rfl) rfl rfl (h1.put _) ?_
  dsimp only [List.cons_append,List.nil_append,pB]
  exact mS
theorem Er (f:Nat) (ih:POK f (.level 1) 226 [.int .i64 1]):POK f (.level 1) 176 []:=by
 intro toks A cap fin g p lv B cb r R w0 hc hl hat hrun
 refine vo Tryz.func176 rfl Tryz.ntmps176 rfl ?_
 repeat' (first|(refine bH (f:=226) rfl rfl (FnP.msub (ih toks A cap fin g p _ B cb r _ w0 hc hl hat hrun) (MSub.pick pK (MSub.pick pK (MSub.pick pK (MSub.refl _))))) ?_ ?_)|(rintro _ _ ⟨rfl,n,p',lv',B',cb',rfl,h2,rfl⟩)|(rintro _ _ ⟨e,rfl,rfl,h3⟩)|refine sT ?_|refine sP ?_|refine sM fun _=> ?_|(refine sC ?_ ?_<;>intro hb<;>try omega)|fail)
 ·
  exact dY (by first|exact .inr rfl|exact .inl rfl) rfl rfl h2 (.refl _)
 ·
  exact cM rfl h3
def zw (f:Nat) (fn:Int) (n:Nat) (fin:Int) (p:PS):Option Out:=
 if (hdT fin p.l).kind≠6 then fw (bq fin f (.level 1) p) fun _ p=>some (.ok (0,p))
 else if (jx fn n).1=false∨(jx fn n).2≠0 then some (.error ((hdT fin p.l).at_,4))
 else some (.ok (0,p.skip.put ⟨3,bG,(hdT fin p.l).rect,0,0,0⟩))
theorem Aq {o:Option Out} {k k' :Nat→PS→Option Out}:fw (fw o k) k' =fw o fun n p=>fw (k n p) k' :=by
 match o with
 |none=>rfl
 |some (.ok (n,p))=>rfl
 |some (.error e)=>rfl
theorem zu (fin:Int) (f:Nat) (fn:Int) (n:Nat) (p:PS):bq fin (f+1) (.args fn n) p=fw (zw f fn n fin p) fun _ p=>if (hdT fin p.l).kind=11 then bq fin f (.args fn (n+1)) p.skip else some (.ok (n+1,p)):=by
 rw [bq]
 unfold zw
 split
 ·
  rw [Aq];rfl
 ·
  split<;>rfl
set_option maxHeartbeats 1000000 in
theorem CA (f:Nat) (fn:Int) (n:Nat) (ih:POK f (.level 1) 176 []):NA (zw f fn n) 371 [.int .u8 fn,.int .i64 n]:=by
  intro toks A cap fin g p lv B cb r R w0 hc hl hat hrun
  refine vo Tryz.func371 rfl Tryz.ntmps371 rfl ?_
  have hh:=fun w hm=>hat.head (fin:=fin) (g:=g) (B:=B) (cb:=cb) (out:=p.out) (H:=pB g lv A cap fin toks B cb p.out++R) (w0:=w0) (MSub.pick .hd (.pick .hd (.pick .hd (.nil _)))) w hm
  unfold zw at hrun
  obtain ⟨t,ht⟩: ∃ t,hdT fin p.l=t:=⟨_,rfl⟩
  rw [ht] at hrun hh
  by_cases hk:t.kind≠6
  · rw [if_pos hk] at hrun
    obtain ⟨r1,hr1,hr2⟩:=bC hrun
    repeat' (first|(apply aa (f:=177);exact rfl;exact rfl;exact hh)|(refine bH (f:=176) rfl rfl (FnP.msub (ih toks A cap fin g p _ B cb r1 _ w0 hc hl hat hr1) (MSub.pick pK (MSub.pick pK (MSub.pick pK (MSub.refl _))))) ?_ ?_)|(rintro _ _ ⟨rfl,n,p',lv',B',cb',rfl,h2,rfl⟩)|(rintro _ _ ⟨e,rfl,rfl,h3⟩)|refine sT ?_|refine sP ?_|refine sM fun _=> ?_|(refine sC ?_ ?_<;>intro hb<;>try omega)|fail)
    · rcases hr2 with ⟨e,h,_⟩|⟨n1,p1,h,h5⟩
      · cases h
      · cases h
        cases h5
        refine dY (B' :=B') (cb' :=cb') (by first|exact .inr rfl|exact .inl rfl) rfl rfl h2 ?_
        simp only [Qy,Qm,Qn,pB]
        exact mS
    · rcases hr2 with ⟨e',h,h5⟩|⟨n1,p1,h,h5⟩
      · cases h
        exact cM h5 (MSub.trans (.drop .hd (.refl _)) h3)
      · cases h
  · rw [if_neg hk] at hrun
    have hw:=fun w=>E2 fn n w
    obtain ⟨wb,we,hwe⟩: ∃ wb we,jx fn n=(wb,we):=⟨_,_,rfl⟩
    rw [hwe] at hrun hw
    by_cases hwk:wb=false∨we≠0
    · rw [if_pos hwk] at hrun
      cases hrun
      repeat' (first|(apply aa (f:=177);exact rfl;exact rfl;exact hh)|(apply aa (f:=337);exact rfl;exact rfl;(intro w' _;exact hw w'))|(refine bH (f:=178) rfl rfl (iP _ _ _ _ _ (fun _ _=>False)) ?_ ?_)|(exact fun _ _ h=>h.elim)|(rintro _ _ ⟨rfl,rfl⟩)|refine sT ?_|refine sP ?_|refine sM fun _=> ?_|(refine sC ?_ ?_<;>intro hb<;>try omega)|fail)
      all_goals first
        |(exfalso;simp_all<;>omega)
        |(exfalso;omega)
        | (refine cM rfl ?_
           simp only [Qy,Qm,Qn,pB]
           exact mS)
    · rw [if_neg hwk] at hrun
      cases hrun
      repeat' (first|(apply aa (f:=177);exact rfl;exact rfl;exact hh)|(apply aa (f:=337);exact rfl;exact rfl;(intro w' _;exact hw w'))|(apply aw (f:=275);exact rfl;exact rfl;exact hat.skip hc (c:=6) (by rw [ht];omega) (by decide) (MSub.pick pK (MSub.pick pK (MSub.pick pK (MSub.refl _))));rintro _ _ ⟨rfl,lv1,h1,rfl⟩)|(apply aw (f:=276);exact rfl;exact rfl;exact FnIn.msub (jW ⟨3,bG,t.rect,0,0,0⟩ _ _ _ _ _ _ _ _ _ (At.len hat hl) _ _) (MSub.pick pK (MSub.pick pK (MSub.pick pK (MSub.refl _))));rintro _ _ ⟨rfl,B3,cb3,rfl⟩)|refine sT ?_|refine sP ?_|refine sM fun _=> ?_|(refine sC ?_ ?_<;>intro hb<;>try omega)|fail)
      all_goals first
        |(exfalso;simp_all<;>omega)
        |(exfalso;omega)
        | (refine dY (p' := p.skip.put ⟨3, bG, t.rect, 0, 0, 0⟩) (B' := B3) (cb' := cb3) (by first | exact .inr rfl | exact .inl rfl) rfl rfl (h1.put _) ?_
           simp only [Qy,Qm,Qn,pB]
           exact mS)
end Go.SL
namespace Go.SL
open Go Go.Proofs
attribute [local irreducible] W WL WQ WG WA VOp thn blk aR aL FnIn
def pY (n:Nd) (i:Int) (m:Nd):Bool:=
 if n.kind≠7 then decide (m.kind≠3) else if 46≤n.fn then decide (m.kind=3)||decide (m.kind=2) else decide (m.kind≠3)||eU n.fn i
set_option maxRecDepth 10000 in
theorem DL (n:Nd) (i:Int) (m:Nd) (w:World):ay Tryz.prog 328 [.agg (bT n).toArray,.int .i64 i,.agg (bT m).toArray] w (.bool (pY n i m)):=by
 refine aq Tryz.func328 rfl Tryz.ntmps328 rfl ?_
 repeat' (first|(apply aa;exact rfl;exact rfl;(intro w hm;exact uC n.fn i w))|refine sT ?_|refine sM fun _=> ?_|(refine sC ?_ ?_<;>intro hb<;>try omega)|exact cT|fail)
 all_goals ((refine rT1 ?_);((try simp only [← Int.not_lt] at*);simp_all [pY, -Int.not_lt, -Int.not_le,← Int.not_lt]))
theorem vu {n:Nd} (h:cQ n=0):dN n=true∧(n.kind=7→cX n.fn=true∧(bM n.fn).1≤n.n∧n.n≤(bM n.fn).2):=by
 unfold cQ at h
 split at h
 ·
  cases h
 ·
  rename_i h1
  have hf:dN n=true:=by
   unfold dN
   cases ha:kA n<;>cases hb:eqN n (cB n)<;>simp_all
  refine ⟨hf,fun h7=> ?_⟩
  rw [if_neg (by simp [h7])] at h
  cases hk:cX n.fn
  ·
   rw [oL hk] at h
   simp at h
  ·
   rw [j8 hk] at h
   refine ⟨rfl,?_⟩
   dsimp only at h
   rw [if_neg (by simp)] at h
   split at h
   ·
    cases h
   ·
    omega
theorem uz {fn:Int} (h:cX fn=true):ig fn=decide (46≤fn):=by
 simp only [cX,Qu,decide_eq_true_eq] at h
 unfold ig
 rw [decide_eq_true (by omega:fn≤50),Rp]
theorem wt {fn i:Int} (h:46≤fn) (hk:cX fn=true) (h0:0≤i) (h1:i<(bM fn).2):eU fn i=true:=by
 simp only [cX,Qu,decide_eq_true_eq] at hk
 unfold eU
 rw [if_neg (by omega),if_neg (by omega),if_neg (by omega),if_neg (by omega),decide_eq_true h,decide_eq_true hk.2]
 rfl
theorem Eu {L:List Nd} {n:Nd} {p:Pt} (h:cQ n=0) (hr:p.root<L.length) (hp:p.wide=decide (L[p.root].kind=3)) {i:Int} (h0:0≤i) (h1:i<below n):vp L n i p=pY n i L[p.root]:=by
 obtain ⟨_,h7⟩:=vu h
 unfold vp pY BC
 rw [iy hr,hp]
 generalize L[p.root].kind=k
 by_cases hk7:n.kind=7
 ·
  obtain ⟨hk,ha,hb⟩:=h7 hk7
  have hb7:below n=n.n:=by simp [below,hk7]
  rw [if_pos hk7,if_neg (by simp [hk7]),uz hk,tL hk]
  by_cases h46:46≤n.fn
  ·
   rw [if_pos h46,wt h46 hk h0 (by omega)]
   by_cases e3:k=3
   ·
    simp [e3,hk7,h46]
   ·
    by_cases e2:k=2<;>simp [e3,e2,hk7,h46]
  ·
   rw [if_neg h46]
   by_cases e3:k=3<;>simp [e3,h46]
 ·
  rw [if_neg hk7,if_pos hk7]
  by_cases e3:k=3<;>simp [e3,hk7]
theorem ou {fn:Int} (hk:cX fn=true):fN fn≠av:=by
 simp only [cX,Qu,decide_eq_true_eq] at hk
 obtain ⟨j,hj⟩:=Tm (by omega:0≤fn - 1)
 have e2:fN fn=cW.getD j av:=by
  rw [fN,if_neg (by omega),show fn.toNat=j+1 by omega]
  rfl
 rw [e2]
 exact (Kb j (by omega)).1
theorem sr {fn:Int} (hk:cX fn=false) (h0:0≤fn):fN fn=av:=by
 simp only [cX,RF,decide_eq_false_iff_not] at hk
 rw [fN]
 split
 ·
  rfl
 ·
  rw [show fn.toNat=0 by omega]
  rfl
theorem Cc {n:Nd} (h:cQ n≠0):(dN n=false∧cQ n=2)∨(dN n=true∧n.kind=7∧cX n.fn=false∧cQ n=10)∨
  (dN n=true∧n.kind=7∧cX n.fn=true∧(n.n<(bM n.fn).1∨(bM n.fn).2<n.n)∧cQ n=11):=by
 unfold cQ at h ⊢
 by_cases h1:kA n=false∨eqN n (cB n)=false
 ·
  left
  refine ⟨?_,if_pos h1⟩
  unfold dN
  rcases h1 with h1|h1<;>simp [h1]
 ·
  right
  rw [if_neg h1] at h ⊢
  have hf:dN n=true:=by
   unfold dN
   cases ha:kA n<;>cases hb:eqN n (cB n)<;>simp_all
  by_cases h7:n.kind=7
  ·
   rw [if_neg (by simp [h7])] at h ⊢
   cases hk:cX n.fn
   ·
    left
    rw [oL hk] at h ⊢
    exact ⟨hf,h7,rfl,by simp⟩
   ·
    right
    rw [j8 hk] at h ⊢
    dsimp only at h ⊢
    rw [if_neg (by simp)] at h ⊢
    by_cases hc:n.n<(bM n.fn).1∨(bM n.fn).2<n.n
    ·
     exact ⟨hf,h7,rfl,hc,if_pos hc⟩
    ·
     rw [if_neg hc] at h
     exact absurd rfl h
  ·
   rw [if_pos (by simpa using h7)] at h
   exact absurd rfl h
def px (p:Pt):List Value:= [.int .i64 (p.root:Int),.int .i64 (p.depth:Int)]
theorem vF (p:Pt):(px p).length=2:=rfl
def wfN (n:Nd):Prop:= -9223372036854775808≤n.v.num∧0≤n.fn∧n.fn≤255
def uO (L:List Nd) (n:Nd) (i:Nat) (st:List Pt):List Pt × Int:=
 match lW L n i st with
 | .inl e=>([],e)
 | .inr r=>(r.1,0)
theorem Ff {P:Program} {w0:World} {s:az} {H:List Blk} {ty:TypeId} {x y:Operand} {b:Nat} {t t' :TypeId} (hx:ev s x=some (.int .i64 1)) (hy:ev s y=some (.int .i64 (b:Nat))) (hb:b+1≤maxLen):VOp P w0 s H (.binOp .add t x y t') ty (.int .i64 ((b+1:Nat):Int)):=by
 have h:=dm (P:=P) (w0:=w0) (H:=H) (ty:=ty) (t:=t) (t' :=t') (a:=1) hx hy (by omega)
 rwa [Su 1 b] at h
theorem HY (L:List Pt): ∀ u∈L.flatMap px,u.oneCell' =true:=by
 intro u hu
 obtain ⟨n,_,h⟩:=RB.1 hu
 simp only [px,Qx,Sz,or_false] at h
 rcases h with rfl|rfl<;>rfl
structure TopsOk (L:List Nd) (i:Nat) (st:List Pt):Prop where
 ok: ∀ p∈st,p.root<i∧p.depth≤32∧p.wide=decide (kB L p.root=3)
 small:st.length≤i
set_option maxHeartbeats 2000000 in
theorem DH (L:List Nd) (i:Nat) (hi:i<L.length) (hlen:L.length≤256) (hwf:wfN L[i]) (st:List Pt) (hst:TopsOk L i st) (tv lv:Value) (w:World) (ht:Reads w tv L.length (L.flatMap bT)) (hp:Reads w lv st.length (st.flatMap px)):
  aL Tryz.prog 289 [tv,.int .i64 (i:Int),lv] w fun v H=> ∃ A cap,v= .tuple #[sl A (uO L L[i] i st).1.length cap,.int .i64 (uO L L[i] i st).2]∧H= [.own A 298 2 (uO L L[i] i st).1.length cap ((uO L L[i] i st).1.flatMap px)]:=by
 have hp' :=hp
 obtain ⟨At,ct,rfl,ht1,ht2,ht3⟩:=ht
 obtain ⟨Al,cl,rfl,hl1,hl2,hl3⟩:=hp
 obtain ⟨gt,ot,rfl,hrt⟩:=ht3 (by omega)
 have hrn:=hrt.elem eu i hi
 obtain ⟨hok,hsmall⟩:=hst
 refine aq Tryz.func289 rfl Tryz.ntmps289 rfl ?_
 refine aC 298 2 ?_
 generalize hn:L[i]=n at hrn hwf
 generalize hR:uO L n i st=R
 unfold uO lW at hR
 by_cases hfe:cQ n=0
 ·
  obtain ⟨hb0,hb16⟩:=xM hfe
  obtain ⟨k,hk⟩:=Tm hb0
  obtain ⟨hf1,hf7⟩:=vu hfe
  have c1:=fun w=>hf1 ▸ jl n hwf.1 w
  have c2:=fun w=>lF n.fn hwf.2.1 hwf.2.2 w
  have c3:=fun w=>jT n.fn w
  have hne:=fun h7=>ou (hf7 h7).1
  have har:=fun h7=>(hf7 h7).2
  have c4: ∀ w,ay Tryz.prog 297 [.agg (bT n).toArray] w (.int .i64 (k:Int)):=fun w=>hk ▸ A0 n w
  rw [if_neg (by simp [hfe]),hk,RX] at hR
  generalize bM n.fn=ar at har c3
  repeat' (first|(apply aa;exact rfl;exact rfl;(intro w hm;exact c1 w))|(apply aa;exact rfl;exact rfl;(intro w hm;exact c2 w))|(apply aa;exact rfl;exact rfl;(intro w hm;exact c3 w))|(apply aa;exact rfl;exact rfl;(intro w hm;exact c4 w))|(apply ak;exact rfl;apply dL;exact rfl;exact rfl;exact hne (by assumption))|(apply N0 (c:= .tmp 24) [0,1,2,8];exact rfl)|(apply ak;exact rfl;apply kn;exact rfl;exact rfl;omega;(simp only [maxLen];omega))|refine sT ?_|refine sO ?_|refine sM fun _=> ?_|(refine sC ?_ ?_<;>intro hb<;>try omega)|exact cT|fail)
  ·
   rw [if_pos (Or.inl (by omega))] at hR
   subst hR
   exact eR (.inl rfl) Tryz.results289 rfl rfl (H' := [.own none 298 2 0 0 []]) mS ⟨none,0,rfl,rfl⟩
  ·
   rename_i g
   have htl:=jf st k (by omega)
   have hlt: ¬ ((st.length:Int)<(k:Int)):=by omega
   refine ax [0,1,2,8,11,12] rfl (fun j:Nat=> [(13,.int .i64 (cy ((bA st k).take j):Int)),(14,.int .i64 (j:Int))]) (fun _=> [.box g 293 (bT n),.own none 298 2 0 0 []]) (fun j=>j≤k∧eZ L n 0 (bA st k)=eZ L n (j:Int) ((bA st k).drop j)) (fun j=>k - j) 0 ⟨by omega,rfl⟩ sB mS ?_
   rintro j ⟨hj,hfit⟩
   by_cases hjk:j<k
   ·
    obtain ⟨gl,ol,rfl,hrl⟩:=hl3 (by omega)
    have hjt:j<(bA st k).length:=by omega
    have hpe:(bA st k)[j]=st[st.length - k+j]'(by omega):=by simp [bA]
    have hrp:=hrl.elem vF (st.length - k+j) (by omega)
    have hds:=qq (bA st k) j hjt
    rw [Qs hjt,eZ] at hfit
    rw [← hpe] at hrp
    have hpm:=ib (Re hjt)
    generalize (bA st k)[j]=p at hpm hrp hds hfit
    obtain ⟨hp1,hp2,hp3⟩:=hok p hpm
    have hrr:=hrt.elem eu p.root (by omega)
    have hf:=Eu hfe (L:=L) (p:=p) (by omega) (by rw [hp3,iy]) (i:=(j:Int)) (by omega) (by omega)
    have hcall:=fun w=>DL n (j:Int) (L[p.root]'(by omega)) w
    rw [← hf] at hcall
    generalize L[p.root]'(by omega)=m at hrr hcall
    generalize hfo:vp L n (j:Int) p=fo at hcall hfit
    have hd33:=kE ((bA st k).take j) fun q hq=>(hok q (ib (RE hq))).2.1
    repeat' (first|(apply dK;exact rfl;exact rfl;(intro w hm;exact hcall w))|(apply ak;exact rfl;apply dm;exact rfl;exact rfl;(simp only [maxLen];omega))|(apply aS;exact rfl;apply dm;exact rfl;exact rfl;(simp only [maxLen];omega))|(apply ak;exact rfl;apply Ff;exact rfl;exact rfl;(simp only [maxLen];omega))|(apply ak;exact rfl;apply jO;exact rfl;exact rfl;(simp only [maxLen];omega))|(apply ak;exact rfl;apply Dc;exact rfl;exact rfl)|refine sT ?_|refine sQ ?_|refine sO ?_|refine sOQ ?_|refine sD ?_|refine sM fun _=> ?_|(refine sC ?_ ?_<;>intro hb<;>try omega)|(refine sCQ ?_ ?_<;>intro hb<;>try omega)|exact cT|fail)
    ·
     rw [if_pos (Or.inr (by rw [hfit];simp_all))] at hR
     subst hR
     exact eR (.inl rfl) Tryz.results289 rfl rfl (H' := [.own none 298 2 0 0 []]) mS ⟨none,0,rfl,rfl⟩
    ·
     rw [Su 1,← hds]
     refine ⟨j+1,?_,(by first|omega|(dsimp only;omega)),sB,sB,mS⟩
     refine ⟨by omega,?_⟩
     rw [hfit,hb,QS]
     rfl
   ·
    have e:j=k:=by omega
    subst e
    have htk:(bA st j).take j=bA st j:=QY (by omega)
    rw [htk]
    have hd33:=kE (bA st j) fun q hq=>(hok q (ib hq)).2.1
    rw [QK (by omega),eZ] at hfit
    rw [if_neg (by rw [hfit];simp;omega)] at hR
    have hcut:=hp'.cut (lo:=0) (hi:=st.length - j) (sz:=2) (by omega) (by omega)
    have hcl:(((st.flatMap px).drop (0*2)).take ((st.length - j - 0)*2))=(st.take (st.length - j)).flatMap px:=by
     rw [Nat.zero_mul,RM,Se,ju vF]
    rw [hcl] at hcut
    have hll:((st.take (st.length - j)).flatMap px).length=(st.length - j - 0)*2:=by rw [aH vF,QD];omega
    repeat' (first|(apply dh;exact rfl;intro gb)|(apply ak;exact rfl;apply lu (lo:=0) (hi:=st.length - j);exact rfl;exact rfl;exact ⟨_,rfl⟩;omega;omega)|(apply ck (n' :=0) (c:=0) (A:=some _) (m:=st.length - j - 0);(iterate 3 exact rfl);exact pK;(intro w hm;exact hcut.of_w0 hm);exact hll;exact HY _;omega;(simp only [maxLen];omega);intro A' cap' hA)|(apply bO;(iterate 3 exact rfl);(repeat first|exact .hd|apply Sel.tl|apply In.tl);(intro w hm;exact hm.cells_own (by (repeat first|exact .hd|apply Sel.tl|apply In.tl)));exact rfl;(simp [Value.oneCell',sl]);omega;(simp only [maxLen];omega);(intro A' cap' hA'))|refine sT ?_|refine sM fun _=> ?_|(refine sC ?_ ?_<;>intro hb<;>try omega)|exact cT|fail)
    ·
     rw [if_pos (by omega)] at hR
     subst hR
     exact eR (.inl rfl) Tryz.results289 rfl rfl (H' := [.own none 298 2 0 0 []]) mS ⟨none,0,rfl,rfl⟩
    ·
     rw [if_neg (by omega)] at hR
     subst hR
     have e1:(st.take (st.length - j)++ [(⟨i,cy (bA st j),decide (n.kind=3)⟩:Pt)]).length=0+(st.length - j - 0)+1:=by simp
     have e2:(st.take (st.length - j)++ [(⟨i,cy (bA st j),decide (n.kind=3)⟩:Pt)]).flatMap px= []++(st.take (st.length - j)).flatMap px++ [.int .i64 (i:Int),.int .i64 (cy (bA st j):Int)]:=by
      rw [QE];rfl
     refine eR (.inl rfl) Tryz.results289 rfl rfl (H' := [.own A' 298 2 (0+(st.length - j - 0)+1) cap' ([]++(st.take (st.length - j)).flatMap px++ [.int .i64 (i:Int),.int .i64 (cy (bA st j):Int)])]) mS ⟨A',cap',?_⟩
     dsimp only
     rw [e1,e2]
     exact ⟨rfl,rfl⟩
 ·
  rw [if_pos hfe] at hR
  rcases Cc hfe with ⟨h1,h2⟩|⟨h1,h7,h2,h3⟩|⟨h1,h7,h2,h3,h4⟩
  ·
   have c1:=fun w=>h1 ▸ jl n hwf.1 w
   rw [h2] at hR
   subst hR
   repeat' (first|(apply ak;exact rfl;apply aj;exact rfl;exact rfl;exact hi)|(apply ak;exact rfl;apply aB;exact rfl;exact hrn;exact rfl)|(apply aa;exact rfl;exact rfl;(intro w hm;exact c1 w))|refine sT ?_|refine sM fun _=> ?_|(refine sC ?_ ?_<;>intro hb<;>try omega)|exact cT|fail)
   exact eR (.inl rfl) Tryz.results289 rfl rfl (H' := [.own none 298 2 0 0 []]) mS ⟨none,0,rfl,rfl⟩
  ·
   have c1:=fun w=>h1 ▸ jl n hwf.1 w
   have c2:=fun w=>sr h2 hwf.2.1 ▸ lF n.fn hwf.2.1 hwf.2.2 w
   rw [h3] at hR
   subst hR
   repeat' (first|(apply ak;exact rfl;apply aj;exact rfl;exact rfl;exact hi)|(apply ak;exact rfl;apply aB;exact rfl;exact hrn;exact rfl)|(apply aa;exact rfl;exact rfl;(intro w hm;exact c1 w))|(apply aa;exact rfl;exact rfl;(intro w hm;exact c2 w))|(apply ak;exact rfl;apply mf;(iterate 3 exact rfl))|refine sT ?_|refine sM fun _=> ?_|(refine sC ?_ ?_<;>intro hb<;>try omega)|exact cT|fail)
   exact eR (.inl rfl) Tryz.results289 rfl rfl (H' := [.own none 298 2 0 0 []]) mS ⟨none,0,rfl,rfl⟩
  ·
   have c1:=fun w=>h1 ▸ jl n hwf.1 w
   have c2:=fun w=>lF n.fn hwf.2.1 hwf.2.2 w
   have c3:=fun w=>jT n.fn w
   have hne:=ou h2
   rw [h4] at hR
   subst hR
   generalize bM n.fn=ar at h3 c3
   repeat' (first|(apply ak;exact rfl;apply aj;exact rfl;exact rfl;exact hi)|(apply ak;exact rfl;apply aB;exact rfl;exact hrn;exact rfl)|(apply aa;exact rfl;exact rfl;(intro w hm;exact c1 w))|(apply aa;exact rfl;exact rfl;(intro w hm;exact c2 w))|(apply aa;exact rfl;exact rfl;(intro w hm;exact c3 w))|(apply ak;exact rfl;apply dL;exact rfl;exact rfl;exact hne)|refine sT ?_|refine sM fun _=> ?_|(refine sC ?_ ?_<;>intro hb<;>try omega)|exact cT|fail)
   all_goals exact eR (.inl rfl) Tryz.results289 rfl rfl (H' := [.own none 298 2 0 0 []]) mS ⟨none,0,rfl,rfl⟩
end Go.SL
namespace Go.SL
open Go Go.Proofs
attribute [local irreducible] W WL WQ WG WA VOp thn blk bF aR aL FnIn
theorem w9 {L:List Nd} {n:Nd} {i:Nat} {st:List Pt} {e:Int} (h:lW L n i st= .inl e):e≠0:=by
 unfold lW at h
 split at h
 ·
  injection h with h;subst h;assumption
 ·
  split at h
  ·
   injection h with h;omega
  ·
   split at h
   ·
    injection h with h;omega
   ·
    cases h
theorem ru {L:List Nd} {n:Nd} {i:Nat} {st st' :List Pt} {ks:List Nat} {d:Nat} (h:lW L n i st= .inr (st',ks,d)): ∃ a,(∀ p∈a,p∈st)∧a.length≤st.length∧st' =a++ [⟨i,d,decide (n.kind=3)⟩]∧d≤32:=by
 unfold lW at h
 split at h
 ·
  cases h
 ·
  split at h
  ·
   cases h
  ·
   split at h
   ·
    cases h
   ·
    simp only [Sum.inr.injEq,Prod.mk.injEq] at h
    obtain ⟨rfl,rfl,rfl⟩:=h
    exact ⟨_,fun p hp=>RE hp,by simp,rfl,by omega⟩
theorem Ae {L:List Nd} {i:Nat} (hi:i<L.length) {st st' :List Pt} {ks:List Nat} {d:Nat} (ho:TopsOk L i st) (h:lW L L[i] i st= .inr (st',ks,d)):TopsOk L (i+1) st' :=by
 obtain ⟨a,h1,h2,rfl,h3⟩:=ru h
 refine ⟨fun p hp=> ?_,by have:=ho.small;simp;omega⟩
 rcases QJ.1 hp with hp|hp
 ·
  obtain ⟨q1,q2,q3⟩:=ho.ok p (h1 p hp)
  exact ⟨by omega,q2,q3⟩
 ·
  rw [QO.1 hp]
  exact ⟨SU i,h3,by rw [iy hi]⟩
def cI (L:List Nd):List Nd→Nat→List Pt→List Pt × Int
 | [],_,st=>(st,0)
 |n::r,i,st=>match lW L n i st with
  | .inl e=>([],e)
  | .inr x=>cI L r (i+1) x.1
def BL (st:List Pt):Nat:=(st.getLast?.map Pt.depth).getD 0
theorem u5 (L:List Nd): ∀ (r:List Nd) (i:Nat) (st:List Pt) (vs:List nz),FL vs=BL st→
  (iM L r i st vs).1=(if (cI L r i st).2≠0 then (cI L r i st).2 else if (cI L r i st).1.length=1 then 0 else 4)∧((cI L r i st).2=0→FL (iM L r i st vs).2=BL (cI L r i st).1)
 | [],i,st,vs,h=>by
  refine ⟨?_,fun _=>h⟩
  by_cases h1:st.length=1<;>simp [iM,cI,h1]
 |n::r,i,st,vs,h=>by
  rw [iM,cI]
  cases hs:lW L n i st with
  |inl e=>have:=w9 hs;simp [this]
  |inr x=>
   obtain ⟨st',ks,d⟩:=x
   obtain ⟨a,_,_,rfl,_⟩:=ru hs
   dsimp only
   exact u5 L r (i+1) _ _ (by simp [FL,BL])
theorem AX (L:List Nd):nn L=(if 256<L.length then (0,5) else if (cI L L 0 []).2≠0 then (0,(cI L L 0 []).2) else if (cI L L 0 []).1.length≠1∨kB L (L.length - 1)=3 then (0,4) else (((BL (cI L L 0 []).1:Nat):Int),0):Int × Int):=by
 obtain ⟨h1,h2⟩:=u5 L L 0 [] [] rfl
 have h0:L.length=0→(cI L L 0 []).2=0∧(cI L L 0 []).1.length=0:=fun c=>by
  have:L= []:=QV c
  subst this
  simp [cI]
 unfold nn fZ nr
 generalize iM L L 0 [] []=wk at h1 h2
 generalize cI L L 0 []=j at h0 h1 h2
 generalize kB L (L.length - 1)=k
 obtain ⟨w1,w2⟩:=wk
 obtain ⟨j1,j2⟩:=j
 dsimp only at h0 h1 h2 ⊢
 by_cases c1:256<L.length
 ·
  simp [c1]
 by_cases c2:L.length=0
 ·
  obtain ⟨a1,a2⟩:=h0 c2
  simp only [if_neg c1,if_pos c2]
  simp [a1,a2]
 simp only [if_neg c1,if_neg c2]
 clear c1 c2 h0
 by_cases c3:j2=0
 ·
  have h2' :=h2 c3
  by_cases c4:j1.length=1
  ·
   by_cases c5:k=3<;>simp_all
  ·
   simp_all
 ·
  simp_all
theorem Kw (L:List Nd) (hlen:L.length≤256) (hwf: ∀ n∈L,wfN n) (tv:Value) (w:World) (ht:Reads w tv L.length (L.flatMap bT)):
  aL Tryz.prog 242 [tv] w fun v H=> ∃ A cap,v= .tuple #[sl A (cI L L 0 []).1.length cap,.int .i64 (cI L L 0 []).2]∧H= [.own A 298 2 (cI L L 0 []).1.length cap ((cI L L 0 []).1.flatMap px)]:=by
 have ht' :=ht
 obtain ⟨At,ct,rfl,ht1,ht2,ht3⟩:=ht
 refine aq Tryz.func242 rfl Tryz.ntmps242 rfl ?_
 refine aC 298 2 ?_
 refine aC 298 2 ?_
 generalize hR:cI L L 0 []=R
 repeat' (first|refine sT ?_|refine sM fun _=> ?_|(refine sC ?_ ?_<;>intro hb<;>try omega)|fail)
 refine ax [0] rfl (fun x:Nat × List Pt × Option Nat × Nat=> [(4,sl x.2.2.1 x.2.1.length x.2.2.2),(5,.int .i64 (x.1:Int))]) (fun x=> [.own x.2.2.1 298 2 x.2.1.length x.2.2.2 (x.2.1.flatMap px),.own none 298 2 0 0 []]) (fun x=>x.1≤L.length∧TopsOk L x.1 x.2.1∧R=cI L (L.drop x.1) x.1 x.2.1) (fun x=>L.length - x.1) (0,[],none,0) ⟨by omega,⟨fun p hp=>by simp at hp,Qt _⟩,hR.symm⟩ sB mS ?_
 rintro ⟨i,st,A,cap⟩ ⟨hi,hok,hrec⟩
 dsimp only at hi hok hrec ⊢
 by_cases hlt:i<L.length
 ·
  rw [Qs hlt,cI] at hrec
  have hnode:=fun (w' :World) (H:List Blk) (hm:Mem w w' H) (hr:Reads w' (sl A st.length cap) st.length (st.flatMap px))=>DH L i hlt hlen (hwf _ (Re hlt)) st hok _ _ w' (ht'.of_w0 hm) hr
  have hto:=fun {st' ks d}=>Ae (st' :=st') (ks:=ks) (d:=d) hlt hok
  unfold uO at hnode
  generalize hs:lW L L[i] i st=s at hrec hnode hto
  cases s with
  |inl e=>
   have he:=w9 hs
   dsimp only at hrec hnode
   subst hrec
   repeat' (first|(apply aA;exact rfl;exact rfl;(intro w' hm;exact hnode w' _ hm (Reads.of_own hm pK));(rintro v H' ⟨A',cap',rfl,rfl⟩))|refine sT ?_|refine sM fun _=> ?_|(refine sC ?_ ?_<;>intro hb<;>try omega)|fail)
   ·
    exact eR (.inl rfl) Tryz.results242 rfl rfl (H' := [.own none 298 2 0 0 []]) mS ⟨none,0,rfl,rfl⟩
  |inr x=>
   obtain ⟨st',ks,d⟩:=x
   dsimp only at hrec hnode
   repeat' (first|(apply aA;exact rfl;exact rfl;(intro w' hm;exact hnode w' _ hm (Reads.of_own hm pK));(rintro v H' ⟨A',cap',rfl,rfl⟩))|refine sT ?_|refine sN ?_|refine sM fun _=> ?_|(refine sC ?_ ?_<;>intro hb<;>try omega)|fail)
   refine ⟨(i+1,st',A',cap'),?_,(by first|omega|(dsimp only;omega)),sB,sB,mS⟩
   exact ⟨hlt,hto rfl,hrec⟩
 ·
  have e:i=L.length:=by omega
  subst e
  rw [Rk,cI] at hrec
  subst hrec
  repeat' (first|refine sT ?_|refine sM fun _=> ?_|(refine sC ?_ ?_<;>intro hb<;>try omega)|fail)
  exact eR (.inl rfl) Tryz.results242 rfl rfl (H' := [.own A 298 2 st.length cap (st.flatMap px)]) mS ⟨A,cap,rfl,rfl⟩
theorem HG {st:List Pt} (h:st.length=1): ∃ p,st= [p]∧BL st=p.depth:=by
 match st,h with
 | [p],_=>exact ⟨p,rfl,rfl⟩
theorem AY (L:List Nd) (hwf: ∀ n∈L,wfN n) (tv:Value) (w:World) (ht:Reads w tv L.length (L.flatMap bT)):ay Tryz.prog 198 [tv] w (.tuple #[.int .i64 (nn L).1,.int .i64 (nn L).2]):=by
 have ht' :=ht
 obtain ⟨At,ct,rfl,ht1,ht2,ht3⟩:=ht
 refine aq Tryz.func198 rfl Tryz.ntmps198 rfl ?_
 have hd:=AX L
 generalize hde:nn L=de at hd
 by_cases h256:256<L.length
 ·
  rw [if_pos h256] at hd
  subst hd
  repeat' (first|refine sT ?_|refine sM fun _=> ?_|(refine sC ?_ ?_<;>intro hb<;>try omega)|fail)
  (refine rT2 ?_)
  rfl
 have hj:=fun (w' :World) (H:List Blk) (hm:Mem w w' H)=>Kw L (by omega) hwf _ w' (ht'.of_w0 hm)
 rw [if_neg h256] at hd
 have h0:L.length=0→(cI L L 0 []).1.length=0:=fun c=>by
  have:L= []:=QV c
  subst this
  simp [cI]
 generalize cI L L 0 []=j at hj hd h0
 obtain ⟨st,e⟩:=j
 dsimp only at hj hd h0
 by_cases he:e=0
 ·
  rw [if_neg (by simp [he])] at hd
  by_cases hl:st.length=1
  ·
   obtain ⟨p,rfl,hp⟩:=HG hl
   obtain ⟨gt,ot,rfl,hrt⟩:=ht3 (by omega)
   have hrl:=hrt.elem eu (L.length - 1) (by omega)
   have hk:kB L (L.length - 1)=(L[L.length - 1]'(by omega)).kind:=iy _
   rw [hk,hp] at hd
   generalize (L[L.length - 1]'(by omega))=nl at hrl hd
   subst he
   repeat' (first|(apply aA;exact rfl;exact rfl;(intro w' hm;exact hj w' _ hm);(rintro v H' ⟨A',cap',rfl,rfl⟩))|refine sT ?_|refine sN ?_|refine sO ?_|refine sM fun _=> ?_|(refine sC ?_ ?_<;>intro hb<;>try omega)|fail)
   ·
    rw [if_pos (.inr hb)] at hd
    subst hd
    (refine rT2 ?_)
    rfl
   ·
    rw [if_neg (by simp;omega)] at hd
    subst hd
    refine yn .hd (by simp) fun ga hA=> ?_
    subst hA
    repeat' (first|(apply ak;exact rfl;apply aj (j:=0);exact rfl;exact rfl;exact Nat.one_pos)|(apply ak;exact rfl;apply bD;exact rfl;exact pK;exact rfl)|refine sT ?_|refine sM fun _=> ?_|(refine sC ?_ ?_<;>intro hb<;>try omega)|fail)
    (refine rT2 ?_)
    rfl
  ·
   rw [if_pos (.inl hl)] at hd
   subst hd he
   repeat' (first|(apply aA;exact rfl;exact rfl;(intro w' hm;exact hj w' _ hm);(rintro v H' ⟨A',cap',rfl,rfl⟩))|refine sT ?_|refine sN ?_|refine sO ?_|refine sM fun _=> ?_|(refine sC ?_ ?_<;>intro hb<;>try omega)|fail)
   (refine rT2 ?_)
   rfl
 ·
  rw [if_pos he] at hd
  subst hd
  repeat' (first|(apply aA;exact rfl;exact rfl;(intro w' hm;exact hj w' _ hm);(rintro v H' ⟨A',cap',rfl,rfl⟩))|refine sT ?_|refine sM fun _=> ?_|(refine sC ?_ ?_<;>intro hb<;>try omega)|fail)
  (refine rT2 ?_)
  rfl
end Go.SL
