/-
  Lemmas and walks, put together: Oc Ob Jb Jj Jn.
-/
import Derived.Test.YthefeclkaaocnaaGreatDoorKc32
set_option linter.unusedSimpArgs false
set_option linter.unusedVariables false
set_option maxRecDepth 20000
namespace Go.SL
open Go
structure BkOk (b:Bk):Prop where
 u:1≤b.users∧b.users≤64
 e:(eR b.ents).2=0
 r:(fP b.users b.rules).2=0
 g:(jL b.users b.grants).2=0
 l:pE b.users b.log b.rels=0
 s:0≤b.step∧b.step≤1099511627776
 le:il b.step b.log=false
 lr:kg b.step b.rels=false
theorem tE {b:Bk}:bkE b=0↔BkOk b:=by
 constructor
 ·
  intro h
  unfold bkE at h
  split at h
  ·
   cases h
  split at h
  ·
   rename_i h2;exact absurd h h2
  split at h
  ·
   rename_i h2;exact absurd h h2
  split at h
  ·
   rename_i h2;exact absurd h h2
  split at h
  ·
   rename_i h2;exact absurd h h2
  split at h
  ·
   cases h
  split at h
  ·
   cases h
  split at h
  ·
   cases h
  exact ⟨by omega,by omega,by omega,by omega,by omega,by omega,by simp_all,by simp_all⟩
 ·
  intro h
  have h1:=h.u
  have h2:=h.s
  unfold bkE
  rw [if_neg (by omega),if_neg (by rw [h.e];decide),if_neg (by rw [h.r];decide),if_neg (by rw [h.g];decide),if_neg (by rw [h.l];decide),if_neg (by omega),if_neg (by rw [h.le];decide),if_neg (by rw [h.lr];decide)]
def WiU (u:Int) (x:BitVec 64):Prop:=x &&& ~~~(cN u).1=0#64
theorem vZ {u:Int} {x:BitVec 64}:WiU u x↔ ∀ i,x.getLsbD i=true→(cN u).1.getLsbD i=true:=by
 unfold WiU
 constructor
 ·
  intro h i hx
  have h1:(x &&& ~~~(cN u).1).getLsbD i=false:=by rw [h];simp
  have hi:=H9 hx
  rw [O2,hx,BitVec.getLsbD_not,Ns] at h1
  simpa [hi] using h1
 ·
  intro h
  apply Pr
  intro i hi
  rw [O2,BitVec.getLsbD_not]
  cases hx:x.getLsbD i with
  |false=>simp
  |true=>rw [h i hx];simp
theorem Fx {u:Int} {x y:BitVec 64}:WiU u (x|||y)↔WiU u x∧WiU u y:=by
 simp only [vZ,BitVec.getLsbD_or,OG]
 exact ⟨fun h=>⟨fun i hi=>h i (.inl hi),fun i hi=>h i (.inr hi)⟩,fun h i hi=>hi.elim (h.1 i) (h.2 i)⟩
theorem Km (x:BitVec 64):WiU 64 x:=by
 unfold WiU
 rw [show ~~~(cN 64).1=0#64 by decide+kernel,BitVec.and_zero]
theorem Kd {u:Int} (h:1≤u∧u≤64) (i:Nat):(cN u).1.getLsbD i=decide ((i:Int)<u):=by
 unfold cN
 rw [if_neg (by omega),zO _ (by omega)]
 exact decide_eq_decide.2 (by omega)
theorem qe {u:Int}: ∀ {L:List Rl} {i:Int},(dZ u L i).2=0↔ ∀ r∈L,aG r.rect=true∧WiU u (r.read|||r.write|||r.own)
 | [],_=>⟨fun _ _ h=>(by cases h),fun _=>rfl⟩
 |r::L,i=>by
  rw [dZ]
  split
  ·
   rename_i h
   exact ⟨fun h=>(by cases h),fun h2=>by rw [(h2 r MY).1] at h;cases h⟩
  split
  ·
   rename_i h
   exact ⟨fun h=>(by cases h),fun h2=>absurd (h2 r MY).2 h⟩
  ·
   rename_i h1 h2
   rw [qe (L:=L)]
   refine ⟨fun h r' hr=> ?_,fun h r' hr=>h r' (M7 _ hr)⟩
   rcases M8.1 hr with rfl|hr
   ·
    exact ⟨by simpa using h1,Classical.not_not.1 h2⟩
   ·
    exact h r' hr
theorem qH {u:Int} {L:List Rl}:(fP u L).2=0↔(1≤u∧u≤64)∧L≠ []∧L.length≤64∧L.head?.map (fun x=>x.rect)=some lp∧ ∀ r∈L,aG r.rect=true∧WiU u (r.read|||r.write|||r.own):=by
 unfold fP
 split
 ·
  rename_i h
  refine ⟨fun h=>(by cases h),fun h2=> ?_⟩
  rcases h with h|h|h|h
  ·
   omega
  ·
   omega
  ·
   omega
  ·
   exact absurd h h2.2.1
 rename_i h1
 have hL:L≠ []:=fun e=>h1 (.inr (.inr (.inr e)))
 have hu:1≤u∧u≤64:=by omega
 split
 ·
  exact ⟨fun h=>(by cases h),fun h2=>by omega⟩
 split
 ·
  rename_i h3;exact ⟨fun h=>(by cases h),fun h2=>absurd h2.2.2.2.1 h3⟩
 ·
  rename_i h2 h3
  rw [qe]
  exact ⟨fun h=>⟨hu,hL,by omega,Decidable.not_not.1 h3,h⟩,fun h=>h.2.2.2.2⟩
theorem Iz {u:Int} {L:List Rl} (h:(fP u L).2=0):(fP 64 L).2=0:=by
 rw [qH] at h ⊢
 exact ⟨by decide,h.2.1,h.2.2.1,h.2.2.2.1,fun r hr=>⟨(h.2.2.2.2 r hr).1,Km _⟩⟩
theorem pY {u:Int}: ∀ {L:List Gn} {i:Int},(fE u L i).2=0↔ ∀ g∈L,aG g.rect=true∧BN u g=true
 | [],_=>⟨fun _ _ h=>(by cases h),fun _=>rfl⟩
 |r::L,i=>by
  rw [fE]
  split
  ·
   rename_i h
   exact ⟨fun h=>(by cases h),fun h2=>by rw [(h2 r MY).1] at h;cases h⟩
  split
  ·
   rename_i h
   exact ⟨fun h=>(by cases h),fun h2=>by rw [(h2 r MY).2] at h;cases h⟩
  ·
   rename_i h1 h2
   rw [pY (L:=L)]
   refine ⟨fun h r' hr=> ?_,fun h r' hr=>h r' (M7 _ hr)⟩
   rcases M8.1 hr with rfl|hr
   ·
    exact ⟨by simpa using h1,by simpa using h2⟩
   ·
    exact h r' hr
theorem mq {u:Int} {L:List Gn}:(jL u L).2=0↔(1≤u∧u≤64)∧L.length≤64∧ ∀ g∈L,aG g.rect=true∧BN u g=true:=by
 unfold jL
 split
 ·
  exact ⟨fun h=>(by cases h),fun h2=>by omega⟩
 split
 ·
  exact ⟨fun h=>(by cases h),fun h2=>by omega⟩
 ·
  rw [pY]
  exact ⟨fun h=>⟨by omega,by omega,h⟩,fun h=>h.2.2⟩
theorem sw {u:Int} (hu:1≤u∧u≤64) {g:Gn}:BN u g=true↔(1≤g.fns∧g.fns≤31)∧WiU u g.to∧0≤g.by_∧g.by_<u:=by
 unfold BN
 rw [oC (by omega)]
 simp only [M0,decide_eq_true_eq,and_assoc]
 exact Iff.rfl
theorem Lt {u:Int} {L:List Gn} (h:(jL u L).2=0):(jL 64 L).2=0:=by
 rw [mq] at h ⊢
 refine ⟨by decide,h.2.1,fun g hg=>⟨(h.2.2 g hg).1,?_⟩⟩
 have h1:=(sw h.1).1 (h.2.2 g hg).2
 exact (sw (by decide)).2 ⟨h1.1,Km _,h1.2.2.1,by omega⟩
def kU (last:Int):List Ev→Int
 | []=>last
 |x::l=>kU x.step l
theorem sY: ∀ (L:List Ev) (last:Int),kU last L=if L.length=0 then last else ((L[L.length - 1]?).map Ev.step).getD 0
 | [],_=>rfl
 | [x],_=>rfl
 |x::y::L,last=>by
  have ih:=sY (y::L) x.step
  rw [show kU last (x::y::L)=kU x.step (y::L) from rfl,ih]
  simp
theorem Ew {s:Int} {L:List Ev} (h:il s L=false) (hs:0≤s):kU (-1) L<s:=by
 rw [sY]
 unfold il at h
 split
 ·
  omega
 ·
  rw [if_pos (by omega)] at h
  simpa using h
theorem BK {s:Int} {L:List Ev} {x:Ev}:il s (L++ [x])=decide (s≤x.step):=by
 unfold il
 rw [if_pos (by simp),MT,MX,Ot,NS (MZ _),Nat.sub_self]
 rfl
theorem BL {s:Int} {L:List Ev} (h:il s L=false):il (s+1) L=false:=by
 unfold il at h ⊢
 split
 ·
  rename_i h1
  rw [if_pos h1,decide_eq_false_iff_not] at h
  rw [decide_eq_false_iff_not];omega
 ·
  rfl
theorem BJ {s:Int} {L:List Rv} (h:kg s L=false):kg (s+1) L=false:=by
 unfold kg at h ⊢
 split
 ·
  rename_i h1
  rw [if_pos h1,decide_eq_false_iff_not] at h
  rw [decide_eq_false_iff_not];omega
 ·
  rfl
theorem p7 {all:BitVec 64} {x:Ev}: ∀ {L:List Ev} {last:Int},dM all last L=0→jN all (kU last L) x=0→dM all last (L++ [x])=0
 | [],last,_,h=>by
  rw [MW,gQ,if_neg (by rw [show kU last []=last from rfl] at h;rw [h];decide)];rfl
 |y::L,last,h1,h2=>by
  rw [gQ] at h1
  rw [MU,gQ]
  split at h1
  ·
   rename_i h;exact absurd h1 h
  ·
   rename_i h
   rw [if_neg h]
   exact p7 h1 h2
theorem qG {u:Int} {L:List Ev} {M:List Rv}:pE u L M=0↔(1≤u∧u≤64)∧dM (cN u).1 (-1) L=0∧eY (cN u).1 (-1) M=0:=by
 unfold pE
 split
 ·
  exact ⟨fun h=>(by cases h),fun h=>by omega⟩
 split
 ·
  rename_i h;exact ⟨fun h2=>absurd h2 h,fun h2=>absurd h2.2.1 h⟩
 ·
  exact ⟨fun h=>⟨by omega,by omega,h⟩,fun h=>h.2.2⟩
theorem mO: ∀ {L:List Et} {i:Nat} {b:Option Rf},(dS i b L).2=0↔(L.Pairwise fun x y=>bJ x.at_ y.at_=true)∧(∀ p,b=some p→ ∀ e∈L,bJ p e.at_=true)∧ ∀ e∈L,Gy e
 | [],_,_=>⟨fun _=>⟨.nil,fun _ _ e he=>(by cases he),fun e he=>(by cases he)⟩,fun _=>rfl⟩
 |x::r,i,b=>by
  rw [dS]
  split
  ·
   rename_i h
   refine ⟨fun h2=>absurd h2 h,fun h2=>absurd (vu.2 ⟨fun p hp=>h2.2.1 p hp x MY,h2.2.2 x MY⟩) h⟩
  ·
   rename_i h
   have h0:=vu.1 (Classical.not_not.1 h)
   rw [mO (L:=r)]
   constructor
   ·
    rintro ⟨h1,h2,h3⟩
    have h4:=h2 x.at_ rfl
    refine ⟨Nr.2 ⟨h4,h1⟩,fun p hp e he=> ?_,fun e he=> ?_⟩
    ·
     rcases M8.1 he with rfl|he
     ·
      exact h0.1 p hp
     ·
      exact pW (h0.1 p hp) (h4 e he)
    ·
     rcases M8.1 he with rfl|he
     ·
      exact h0.2
     ·
      exact h3 e he
   ·
    rintro ⟨h1,h2,h3⟩
    have h4:=Nr.1 h1
    exact ⟨h4.2,fun p hp e he=>by cases hp;exact h4.1 e he,fun e he=>h3 e (M7 _ he)⟩
theorem vG {L:List Et}:(eR L).2=0↔(L.Pairwise fun x y=>bJ x.at_ y.at_=true)∧ ∀ e∈L,Gy e:=by
 unfold eR
 rw [mO]
 exact ⟨fun h=>⟨h.1,h.2.2⟩,fun h=>⟨h.1,fun p hp=>(by cases hp),h.2⟩⟩
theorem GZ {L:List Et} {o:Ox} {e:Et} (h:e∈wU L o):e∈L∨(e=⟨toO o,o.input⟩∧o.input≠av):=by
 unfold wU at h
 split at h
 ·
  exact .inl h
 ·
  rename_i hn
  rcases Nu.1 h with h|h
  ·
   exact .inl (NX h)
  ·
   rcases M8.1 h with h|h
   ·
    exact .inr ⟨h,hn⟩
   ·
    exact .inl (OQ h)
theorem tr {p:Et→Bool}: ∀ L:List Et,L.drop (L.takeWhile p).length=L.dropWhile p
 | []=>rfl
 |a::L=>by
  rw [OV,PI]
  split
  ·
   exact tr L
  ·
   rfl
theorem rA {p:Et→Bool}: ∀ L:List Et,L.take (L.takeWhile p).length=L.takeWhile p
 | []=>rfl
 |a::L=>by
  rw [OV]
  split
  ·
   rw [Nq,NN,rA L]
  ·
   rfl
theorem zi {p:Et→Bool}: ∀ {L:List Et} {a:Et} {R:List Et},L.dropWhile p=a::R→p a=false
 |b::L,a,R,h=>by
  rw [PI] at h
  split at h
  ·
   exact zi h
  ·
   rename_i hp
   cases h
   simpa using hp
theorem uz {p:Et→Bool}: ∀ {L:List Et},∀ a∈L.takeWhile p,p a=true
 |b::L,a,h=>by
  rw [OV] at h
  split at h
  ·
   rename_i hb
   rcases M8.1 h with rfl|h
   ·
    exact hb
   ·
    exact uz a h
  ·
   cases h
theorem zh {L:List Et} {o:Ox} (hs:L.Pairwise fun x y=>bJ x.at_ y.at_=true) (hne: ∀ e∈L,e.at_≠toO o):(wU L o).Pairwise fun x y=>bJ x.at_ y.at_=true:=by
 unfold wU
 split
 ·
  exact hs
 unfold Ge
 rw [rA,tr]
 have hsp:L.takeWhile (fun e=>bJ e.at_ (toO o))++L.dropWhile (fun e=>bJ e.at_ (toO o))=L:=List.takeWhile_append_dropWhile
 rw [← hsp,Oj] at hs
 obtain ⟨h1,h2,h3⟩:=hs
 have h4: ∀ e∈L.takeWhile (fun e=>bJ e.at_ (toO o)),bJ e.at_ (toO o)=true:=fun e he=>uz e he
 have h5: ∀ e∈L.dropWhile (fun e=>bJ e.at_ (toO o)),bJ (toO o) e.at_=true:=by
  cases hd:L.dropWhile (fun e=>bJ e.at_ (toO o)) with
  |nil=>intro e he;cases he
  |cons a R=>
   have h6:=zi hd
   rw [hd] at h2 hsp
   have haL:a∈L:=by rw [← hsp];exact O9 _ MY
   have h7:bJ (toO o) a.at_=true:=(GM (hne a haL)).resolve_left fun h=>by
    rw [show bJ a.at_ (toO o)=false from h6] at h;cases h
   intro e he
   rcases M8.1 he with rfl|he
   ·
    exact h7
   ·
    exact pW h7 ((Nr.1 h2).1 e he)
 rw [Oj]
 refine ⟨h1,Nr.2 ⟨h5,h2⟩,fun a ha b hb=> ?_⟩
 rcases M8.1 hb with rfl|hb
 ·
  exact h4 a ha
 ·
  exact h3 a ha b hb
theorem tC {b:Bk} {o:Ox} (h:(cdE b o).1=0∨(cdE b o).1=5): ∀ j,j<5→tst b o j=false:=by
 unfold cdE at h
 have hno: ∀ {x y:Int},x≠0→x≠5→ ¬ ((x,y).1=0∨(x,y).1=5):=fun h0 h5 h=>h.elim h0 h5
 split at h
 ·
  exact absurd h (hno (by decide) (by decide))
 split at h
 ·
  exact absurd h (hno (by decide) (by decide))
 split at h
 ·
  exact absurd h (hno (by decide) (by decide))
 split at h
 ·
  exact absurd h (hno (by decide) (by decide))
 split at h
 ·
  exact absurd h (hno (by decide) (by decide))
 rename_i h0 h1 h2 h3 h4
 intro j hj
 rcases (by omega:j=0∨j=1∨j=2∨j=3∨j=4) with rfl|rfl|rfl|rfl|rfl
 ·
  simpa using h0
 ·
  simpa using h1
 ·
  simpa using h2
 ·
  simpa using h3
 ·
  simpa using h4
theorem J9 {b:Bk} {o:Ox} (h:(cdE b o).1=0): ∀ j,j<8→tst b o j=false:=by
 have hf:=tC (.inl h)
 unfold cdE at h
 rw [if_neg (by rw [hf 0 (by decide)];decide),if_neg (by rw [hf 1 (by decide)];decide),if_neg (by rw [hf 2 (by decide)];decide),if_neg (by rw [hf 3 (by decide)];decide),if_neg (by rw [hf 4 (by decide)];decide)] at h
 split at h
 ·
  exact absurd h (by decide)
 split at h
 ·
  exact absurd h (by dsimp only;decide)
 split at h
 ·
  exact absurd h (by decide)
 rename_i h5 h6 h7
 intro j hj
 by_cases hj5:j<5
 ·
  exact hf j hj5
 rcases (by omega:j=5∨j=6∨j=7) with rfl|rfl|rfl
 ·
  simpa using h5
 ·
  simpa using h6
 ·
  simpa using h7
theorem CN {m:Nat} (h:m<64) (i:Nat):(1#64<<<m).getLsbD i=decide (i=m):=by
 have hb: ∀ m:Fin 64,∀ i:Fin 64,(1#64<<<m.val).getLsbD i.val=decide (i.val=m.val):=by decide+kernel
 by_cases hi:i<64
 ·
  exact hb ⟨m,h⟩ ⟨i,hi⟩
 ·
  rw [BitVec.getLsbD_of_ge _ _ (by omega),decide_eq_false (by omega)]
theorem K8 {u:Int} {L:List Rl} {T:Rct} (hL:(fP u L).2=0) (hT:aG T=true):WiU u (ovE T L).1.2.2:=vZ.2 fun i hi=>by
 have h64:=H9 hi
 rw [JE (Iz hL) hT h64] at hi
 have hs:=cQ.1 hT
 have h1:=hi ⟨T.c1,T.r1⟩ (dF.2 ⟨Od _,hs.2.1,Od _,hs.2.2.2.2.1⟩)
 unfold GR at h1
 cases hx:L[Dd L ⟨T.c1,T.r1⟩]? with
 |none=>rw [hx] at h1;simp at h1
 |some x=>
  rw [hx] at h1
  have h2:=((qH.1 hL).2.2.2.2 x (Pd hx)).2
  exact vZ.1 (Fx.1 h2).2 i h1
theorem GG {k:Int}:jf k=true↔k=3∨k=4∨k=7∨k=8∨k=9:=by
 simp only [jf,OG,decide_eq_true_eq,or_assoc]
theorem rr {b:Bk} {o:Ox} (h:tst b o 1=false):0≤o.user∧o.user<b.users:=by
 simp only [tst,OT,decide_eq_false_iff_not] at h
 omega
theorem FO {b:Bk} {o:Ox} (h:tst b o 0=false):opE o=0:=by
 simp only [tst,decide_eq_false_iff_not] at h
 exact Decidable.not_not.1 h
theorem nC {b:Bk} {o:Ox} (h:tst b o 2=false) (hk:o.kind=3∨o.kind=4∨o.kind=5∨o.kind=6∨o.kind=7∨o.kind=8):aG o.rect=true:=by
 have hr:DZ o.kind=true:=by
  simp only [DZ,OG,decide_eq_true_eq]
  omega
 simp only [tst,jG,hr,if_true,Ns,decide_eq_false_iff_not] at h
 exact (Bm _).1 (Decidable.not_not.1 h)
theorem FN {b:Bk} {o:Ox} (h:tst b o 3=false):WiU b.users (o.rd|||o.wr|||o.ow)∧WiU b.users o.to:=by
 simp only [tst,decide_eq_false_iff_not] at h
 exact Fx.1 (show WiU b.users ((o.rd|||o.wr|||o.ow)|||o.to) from Classical.not_not.1 h)
theorem CJ {b:Bk} {o:Ox} (h:tst b o 4=false) (hk:o.kind=9): ∃ j:Nat,o.idx=(j:Int)∧ ∃ h:j<b.grants.length,b.grants[j].rev=false:=by
 simp only [tst,hk,decide_true,Ns,OT,decide_eq_false_iff_not] at h
 obtain ⟨⟨h1,h2⟩,h3⟩:=h
 have hj:o.idx=(o.idx.toNat:Int):=by omega
 have hl:o.idx.toNat<b.grants.length:=by omega
 exact ⟨_,hj,hl,by rw [← CU hj hl];exact h3⟩
theorem Hy {b:Bk} {o:Ox} (h:BkOk b) (hm:jf o.kind=true) (ht: ∀ j,j<5→tst b o j=false):aG (evT o b.grants)=true:=by
 unfold evT
 split
 ·
  rename_i hk
  obtain ⟨j,hj,hl,_⟩:=CJ (ht 4 (by decide)) hk
  rw [hj,Om,MV hl]
  exact ((mq.1 h.g).2.2 _ (NK hl)).1
 ·
  rename_i hk
  have:=GG.1 hm
  exact nC (ht 2 (by decide)) (by omega)
theorem Hz {b:Bk} {o:Ox} {dn:Bool} (h:BkOk b) (hm:jf o.kind=true) (ht: ∀ j,j<5→tst b o j=false):evO b.step o dn b.rules b.grants=(⟨b.step,o.user,o.kind,evT o b.grants,dn,(ovE (evT o b.grants) b.rules).1.2.2|||(1#64<<<o.user.toNat)⟩,0):=by
 have hu:=rr (ht 1 (by decide))
 have h0:=FO (ht 0 (by decide))
 have hs:=h.s
 have hus:=h.u
 have hT:=Hy h hm ht
 have h9: ¬ (o.kind=9∧(o.idx<0∨(b.grants.length:Int)≤o.idx)):=by
  rintro ⟨hk,hn⟩
  obtain ⟨j,hj,hl,_⟩:=CJ (ht 4 (by decide)) hk
  omega
 unfold evO ofS
 rw [if_neg (by rw [hm];decide),if_neg (by omega),if_neg (by rw [Iz h.r];decide),if_neg (by rw [Lt h.g];decide),if_neg h9,if_neg (by rw [hT];decide),if_neg (by omega)]
theorem Mx {b:Bk} {o:Ox} {dn:Bool} (h:BkOk b) (hm:jf o.kind=true) (ht: ∀ j,j<5→tst b o j=false):jN (cN b.users).1 (kU (-1) b.log) (evO b.step o dn b.rules b.grants).1=0:=by
 have hu:=rr (ht 1 (by decide))
 have hus:=h.u
 have hT:=Hy h hm ht
 have hle:=Ew h.le h.s.1
 have hm64:o.user.toNat<64:=by omega
 have hto:WiU b.users ((ovE (evT o b.grants) b.rules).1.2.2|||(1#64<<<o.user.toNat)):=Fx.2 ⟨K8 h.r hT,vZ.2 fun i hi=>by
  rw [CN hm64,decide_eq_true_eq] at hi
  rw [Kd hus,decide_eq_true_eq]
  omega⟩
 have hhs:fA ((ovE (evT o b.grants) b.rules).1.2.2|||(1#64<<<o.user.toNat)) o.user=true:=by
  unfold fA
  rw [BitVec.getLsbD_or,CN hm64]
  simp only [M0,decide_eq_true_eq,decide_true,Bool.or_true,and_true]
  omega
 have hus2:fA (cN b.users).1 o.user=true:=by
  rw [oC (by omega)]
  simp only [M0,decide_eq_true_eq]
  omega
 rw [Hz h hm ht]
 unfold jN
 dsimp only
 rw [if_neg (by omega),if_neg (by rw [hm,hus2];decide),if_neg (by rw [hT];decide),if_neg (by rw [hhs,decide_eq_true (show _ &&& ~~~(cN b.users).1=0#64 from hto)];decide)]
theorem GK {b:Bk} {o:Ox} (h:BkOk b) (hs:b.step≠1099511627776):BkOk (BH b o):=by
 have hst:=h.s
 unfold BH
 refine ⟨h.u,h.e,h.r,h.g,?_,⟨by dsimp only;omega,by dsimp only;omega⟩,?_,BJ h.lr⟩
 ·
  dsimp only
  split
  ·
   rename_i hc
   have h1:=qG.1 h.l
   exact qG.2 ⟨h1.1,p7 h1.2.1 (Mx h hc.2 (tC hc.1)),h1.2.2⟩
  ·
   exact h.l
 ·
  dsimp only
  split
  ·
   rename_i hc
   rw [BK,Hz h hc.2 (tC hc.1),decide_eq_false_iff_not]
   dsimp only
   omega
  ·
   exact BL h.le
theorem Gw {o:Ox} (h:opE o=0) (hk:o.kind≠3):o.input=av:=by
 unfold opE at h
 split at h
 ·
  cases h
 rename_i h1
 have h2:o=lA o:=Classical.not_not.1 fun hn=>h1 (.inr (.inr hn))
 have h3:=congrArg Ox.input h2
 rw [h3]
 unfold lA
 split
 ·
  rfl
 ·
  first|(dsimp only;done)|(dsimp only;rw [if_neg hk])
theorem Le {o:Ox} (h:opE o=0) (hk:o.kind=8):1≤o.fns∧o.fns≤31:=by
 unfold opE at h
 split at h
 ·
  cases h
 rw [if_neg (show ¬ (o.kind=3∨o.kind=6) by omega)] at h
 try rw [if_pos hk] at h
 by_cases hc:o.fns<1∨31<o.fns
 ·
  rw [if_pos hc] at h;cases h
 ·
  omega
theorem LH {b c:Bk} {o:Ox} (h:BkOk c) (e1:c.users=b.users) (e2:c.rules=b.rules) (e3:c.grants=b.grants) (ht: ∀ j,j<8→tst b o j=false):BkOk (tI c o):=by
 have hop:=FO (ht 0 (by decide))
 have hu:=rr (ht 1 (by decide))
 have hwi:=FN (ht 3 (by decide))
 have h7:=ht 7 (by decide)
 unfold tI
 split
 ·
  rename_i hk
  have hr:=nC (ht 2 (by decide)) (by omega)
  have hs:=cQ.1 hr
  obtain ⟨k1,k2⟩:=vG.1 h.e
  refine ⟨h.u,vG.2 ⟨zh (k1.sublist List.filter_sublist) fun e he hn=> ?_,fun e he=> ?_⟩,h.r,h.g,h.l,h.s,h.le,h.lr⟩
  ·
   have h1:=(List.mem_filter.1 he).2
   unfold iU at h1
   rw [hn] at h1
   have h2:eM o.rect (toO o)=true:=dF.2 ⟨Od _,hs.2.1,Od _,hs.2.2.2.2.1⟩
   rw [h2] at h1;cases h1
  ·
   rcases GZ he with he|⟨rfl,hne⟩
   ·
    exact k2 e (List.mem_filter.1 he).1
   ·
    have hk3:o.kind=3:=Classical.not_not.1 fun hn=>hne (Gw hop hn)
    have h6:=ht 6 (by decide)
    simp only [tst,hk3,decide_true,Ns,decide_eq_false_iff_not] at h6
    refine ⟨?_,hne,Decidable.not_not.1 h6⟩
    show valid o.rect.c1 o.rect.r1=true
    rw [uB];omega
 split
 ·
  rename_i hk
  have hr:=nC (ht 2 (by decide)) (by omega)
  have h1:=qH.1 h.r
  simp [tst,hk] at h7
  have hlen:c.rules.length+1≤64:=by rw [e2];omega
  refine ⟨h.u,h.e,qH.2 ⟨h1.1,by simp,by simpa using hlen,?_,fun r hm=> ?_⟩,h.g,h.l,h.s,h.le,h.lr⟩
  ·
   dsimp only
   cases hcr:c.rules with
   |nil=>exact absurd hcr h1.2.1
   |cons a l=>rw [hcr] at h1;exact h1.2.2.2.1
  ·
   rcases Nu.1 hm with hm|hm
   ·
    exact h1.2.2.2.2 r hm
   ·
    rw [Nz.1 hm]
    exact ⟨hr,by rw [e1];exact hwi.1⟩
 split
 ·
  rename_i hk
  have hr:=nC (ht 2 (by decide)) (by omega)
  have h1:=mq.1 h.g
  simp [tst,hk] at h7
  have hlen:c.grants.length+1≤64:=by rw [e3];omega
  have hf:=Le hop hk
  refine ⟨h.u,h.e,h.r,mq.2 ⟨h1.1,by simpa using hlen,fun g hm=> ?_⟩,h.l,h.s,h.le,h.lr⟩
  rcases Nu.1 hm with hm|hm
  ·
   exact h1.2.2 g hm
  ·
   rw [Nz.1 hm]
   exact ⟨hr,(sw h.u).2 ⟨hf,by rw [e1];exact hwi.2,hu.1,by rw [e1];exact hu.2⟩⟩
 split
 ·
  rename_i hk
  have h1:=mq.1 h.g
  refine ⟨h.u,h.e,h.r,mq.2 ?_,h.l,h.s,h.le,h.lr⟩
  dsimp only
  unfold JA
  cases hg:c.grants[o.idx.toNat]? with
  |none=>exact h1
  |some g=>
   dsimp only
   refine ⟨h1.1,by rw [Pa];exact h1.2.1,fun x hx=> ?_⟩
   rcases List.mem_or_eq_of_mem_set hx with hx|rfl
   ·
    exact h1.2.2 x hx
   ·
    have h2:=h1.2.2 g (Pd hg)
    exact ⟨h2.1,h2.2⟩
 ·
  exact h
theorem MH {b:Bk} {o:Ox} (h:BkOk b) (hs:b.step≠1099511627776):BkOk (apE b o).1∧(apE b o).2.2.2=0:=by
 unfold apE
 rw [if_neg (by rw [tE.2 h];decide),if_neg hs]
 split
 ·
  exact ⟨GK h hs,rfl⟩
 ·
  rename_i hc
  exact ⟨LH (GK h hs) rfl rfl rfl (J9 (Decidable.not_not.1 hc)),rfl⟩
end Go.SL
namespace Go.SL
open Go Go.Proofs
attribute [local irreducible] W WL WQ WG WA WX WLI WR WT WC WE VOp RW thn blk bL scp bi bz bY aQ FnIn FnP ceP
theorem zt {all:BitVec 64}: ∀ {L:List Ev} {last:Int},dM all last L=0→ ∀ x∈L,x.step≤kU last L
 | [],_,_,x,hx=>by cases hx
 |y::L,last,h,x,hx=>by
  rw [gQ] at h
  split at h
  ·
   rename_i h2;exact absurd h h2
  have hmono: ∀ {L:List Ev} {a:Int},dM all a L=0→a≤kU a L:=by
   intro L
   induction L with
   |nil=>intro a _;exact Od _
   |cons z L ih=>
    intro a h
    rw [gQ] at h
    split at h
    ·
     rename_i h2;exact absurd h h2
    rename_i h2
    have h3:=ih h
    have h4: ¬ z.step≤a:=fun h5=>by
     have h6:=Classical.not_not.1 h2
     unfold jN at h6
     rw [if_pos h5] at h6
     cases h6
    show a≤kU z.step L
    omega
  show x.step≤kU y.step L
  rcases M8.1 hx with rfl|hx
  ·
   exact hmono h
  ·
   exact zt h x hx
def p8 (last:Int):List Rv→Int
 | []=>last
 |x::l=>p8 x.step l
theorem zz: ∀ (L:List Rv) (last:Int),p8 last L=if L.length=0 then last else ((L[L.length - 1]?).map Rv.step).getD 0
 | [],_=>rfl
 | [x],_=>rfl
 |x::y::L,last=>by
  have ih:=zz (y::L) x.step
  rw [show p8 last (x::y::L)=p8 x.step (y::L) from rfl,ih]
  simp
theorem yj {all:BitVec 64}: ∀ {L:List Rv} {last:Int},eY all last L=0→ ∀ x∈L,x.step≤p8 last L
 | [],_,_,x,hx=>by cases hx
 |y::L,last,h,x,hx=>by
  rw [m7] at h
  split at h
  ·
   rename_i h2;exact absurd h h2
  have hmono: ∀ {L:List Rv} {a:Int},eY all a L=0→a≤p8 a L:=by
   intro L
   induction L with
   |nil=>intro a _;exact Od _
   |cons z L ih=>
    intro a h
    rw [m7] at h
    split at h
    ·
     rename_i h2;exact absurd h h2
    rename_i h2
    have h3:=ih h
    have h4: ¬ z.step<a:=fun h5=>by
     have h6:=Classical.not_not.1 h2
     unfold mZ at h6
     rw [if_pos h5] at h6
     cases h6
    show a≤p8 z.step L
    omega
  show x.step≤p8 y.step L
  rcases M8.1 hx with rfl|hx
  ·
   exact hmono h
  ·
   exact yj h x hx
theorem Ey {all:BitVec 64} {s:Int} {L:List Ev} (h:dM all (-1) L=0):il s L=false↔ ∀ x∈L,x.step<s:=by
 have h1:=zt h
 rw [sY] at h1
 unfold il
 by_cases hl:0<L.length
 ·
  rw [if_pos hl,decide_eq_false_iff_not]
  rw [if_neg (by omega)] at h1
  constructor
  ·
   intro h2 x hx
   have:=h1 x hx
   omega
  ·
   intro h2 h3
   have hlt:L.length - 1<L.length:=by omega
   have h4:=h2 _ (NK hlt)
   rw [MV hlt] at h3
   simp only [NW,PB] at h3
   omega
 ·
  rw [if_neg hl]
  have:L= []:=OD.1 (by omega)
  subst this
  simp
theorem Eu {all:BitVec 64} {s:Int} {L:List Rv} (h:eY all (-1) L=0):kg s L=false↔ ∀ x∈L,x.step<s:=by
 have h1:=yj h
 rw [zz] at h1
 unfold kg
 by_cases hl:0<L.length
 ·
  rw [if_pos hl,decide_eq_false_iff_not]
  rw [if_neg (by omega)] at h1
  constructor
  ·
   intro h2 x hx
   have:=h1 x hx
   omega
  ·
   intro h2 h3
   have hlt:L.length - 1<L.length:=by omega
   have h4:=h2 _ (NK hlt)
   rw [MV hlt] at h3
   simp only [NW,PB] at h3
   omega
 ·
  rw [if_neg hl]
  have:L= []:=OD.1 (by omega)
  subst this
  simp
set_option maxHeartbeats 16000000 in
theorem mJ (b:Bk) (x:Bv) (w:World) (h:BRd w b x) (hlen:b.ents.length≤1000000):ax Tryz.prog 21 [.agg (bG b x).toArray] w (.int .i64 (bkE b)):=by
 have hent:=fun (w' :World) (H:List Blk) (hm:Mem w w' H)=>tZ b.ents _ w' (h.e.of_w0 hm) hlen
 have hacl:=fun (w' :World) (H:List Blk) (hm:Mem w w' H)=>mK b.users b.rules _ w' (h.r.of_w0 hm)
 have hgnt:=fun (w' :World) (H:List Blk) (hm:Mem w w' H)=>ud b.users b.grants _ w' (h.g.of_w0 hm)
 have haud:=fun (w' :World) (H:List Blk) (hm:Mem w w' H)=>ub b.users b.log b.rels _ _ w' (h.l.of_w0 hm) (h.s.of_w0 hm)
 refine aq Tryz.func21 rfl Tryz.ntmps21 rfl ?_
 unfold bkE
 obtain ⟨Al,cl,el,hl1,hl2,hl3⟩:=h.l
 obtain ⟨Am,cm,em,hm1,hm2,hm3⟩:=h.s
 have hl3' :0<b.log.length→ ∃ g o,x.al=some ⟨g,o,none⟩∧Ro w g o (b.log.flatMap aO):=by
  cases el
  exact hl3
 have hm3' :0<b.rels.length→ ∃ g o,x.as_=some ⟨g,o,none⟩∧Ro w g o (b.rels.flatMap ck):=by
  cases em
  exact hm3
 have hLm:b.log.length≤maxLen:=Nt hl1 hl2
 have hMm:b.rels.length≤maxLen:=Nt hm1 hm2
 clear hl1 hl2 hl3 hm1 hm2 hm3 el em
 have hlE:=fun (hz:pE b.users b.log b.rels=0)=>Ey (s:=b.step) (qG.1 hz).2.1
 have hlR:=fun (hz:pE b.users b.log b.rels=0)=>Eu (s:=b.step) (qG.1 hz).2.2
 generalize eR b.ents=ce at hent ⊢
 generalize fP b.users b.rules=ae at hacl ⊢
 generalize jL b.users b.grants=ge at hgnt ⊢
 generalize pE b.users b.log b.rels=ue at haud hlE hlR ⊢
 obtain ⟨us,E,RU,G,L,M,st⟩:=b
 obtain ⟨ae1,ar1,ag1,al1,as1,ce1,cr1,cg1,cl1,cs1⟩:=x
 dsimp only at*
 simp only [bG] at*
 generalize il st L=le at hlE ⊢
 generalize kg st M=lr at hlR ⊢
 repeat' (first|(apply aa (f:=66);exact rfl;exact rfl;(intro w' hm;exact hent w' _ hm))|(apply aa (f:=65);exact rfl;exact rfl;(intro w' hm;exact hacl w' _ hm))|(apply aa (f:=67);exact rfl;exact rfl;(intro w' hm;exact hgnt w' _ hm))|(apply aa (f:=68);exact rfl;exact rfl;(intro w' hm;exact haud w' _ hm))|refine sT ?_|refine sS ?_|refine sN ?_|refine sM fun _=> ?_|(refine sC ?_ ?_<;>intro hb<;>try omega)|fail)
 all_goals first
  |(exfalso;omega)
  |((refine rT1 ?_);simp_all;done)
  |((refine rT1 ?_);simp_all;omega)
  |skip
 rename_i g1 _ _ _ _ _ _ _
 have hue:ue=0:=Decidable.not_not.1 (show ¬ (ue≠0) by assumption)
 have hlE1:=hlE hue
 have hlR1:=hlR hue
 rw [if_neg (by omega),if_neg (show ¬ (ce.2≠0) by assumption),if_neg (show ¬ (ae.2≠0) by assumption),if_neg (show ¬ (ge.2≠0) by assumption),if_neg (show ¬ (ue≠0) by assumption),if_neg (by omega)]
 clear hlE hlR hent hacl hgnt haud
 refine ay [1] rfl (fun i:Nat=> [(10,.int .i64 (i:Int))]) (fun _=> [.box g1 28 [.int .i64 us,.slice ae1 E.length ce1,.slice ar1 RU.length cr1,.slice ag1 G.length cg1,.slice al1 L.length cl1,.slice as1 M.length cs1,.int .i64 st]]) (fun i=>i≤L.length∧ ∀ j (h:j<L.length),j<i→L[j].step<st) (fun i=>L.length - i) 0 ⟨Nl _,fun j _ h=>absurd h (Nat.not_lt_zero _)⟩ sB mS ?_
 rintro i ⟨hi,hall⟩
 by_cases hlt:i<L.length
 ·
  obtain ⟨gl,ol,rfl,hrl⟩:=hl3' (by omega)
  have he:=(Ev.ro (hrl.elem eP i hlt)).1
  have hnx:L[i].step<st→ ∀ j (h:j<L.length),j<i+1→L[j].step<st:=fun hs j hj hji=>by
   by_cases e:j=i
   ·
    subst e;exact hs
   ·
    exact hall j hj (by omega)
  have hbad:st≤L[i].step→le=true:=fun hs=>by
   cases hle:le with
   |true=>rfl
   |false=>exact absurd (hlE1.1 hle _ (NK hlt)) (by omega)
  generalize L[i].step=sp at he hnx hbad
  repeat' (first|(apply aP;exact rfl;apply ak (j:=i);exact rfl;exact rfl;exact hlt)|refine sT ?_|refine sS ?_|refine sQ ?_|refine sN ?_|refine sNQ ?_|refine sO ?_|refine sOQ ?_|refine sD ?_|refine sM fun _=> ?_|(refine sC ?_ ?_<;>intro hb<;>try omega)|(refine sCQ ?_ ?_<;>intro hb<;>try omega)|fail)
  all_goals first
   |(exfalso;omega)
   |((refine rT1 ?_);rw [if_pos (hbad (by omega))];done)
   |(refine ⟨i+1,⟨hlt,hnx (by omega)⟩,by omega,by exact sB,by exact sB,by exact mS⟩;done)
   |trace_state
 have hle:le=false:=hlE1.2 fun x hx=>by
  obtain ⟨j,hj,rfl⟩:=OW hx
  exact hall j hj (by omega)
 rw [hle,if_neg (by decide)]
 repeat' (first|refine sT ?_|refine sS ?_|refine sN ?_|refine sM fun _=> ?_|(refine sC ?_ ?_<;>intro hb<;>try omega)|fail)
 all_goals try (exfalso;omega)
 refine ay [1] rfl (fun i:Nat=> [(11,.int .i64 (i:Int))]) (fun _=> [.box g1 28 [.int .i64 us,.slice ae1 E.length ce1,.slice ar1 RU.length cr1,.slice ag1 G.length cg1,.slice al1 L.length cl1,.slice as1 M.length cs1,.int .i64 st]]) (fun i=>i≤M.length∧ ∀ j (h:j<M.length),j<i→M[j].step<st) (fun i=>M.length - i) 0 ⟨Nl _,fun j _ h=>absurd h (Nat.not_lt_zero _)⟩ sB mS ?_
 rintro k ⟨hk,hall2⟩
 by_cases hltk:k<M.length
 ·
  obtain ⟨gm,om,rfl,hrm⟩:=hm3' (by omega)
  have he:=Rv.ro1 (hrm.elem gR k hltk)
  have hnx:M[k].step<st→ ∀ j (h:j<M.length),j<k+1→M[j].step<st:=fun hs j hj hji=>by
   by_cases e:j=k
   ·
    subst e;exact hs
   ·
    exact hall2 j hj (by omega)
  have hbad:st≤M[k].step→lr=true:=fun hs=>by
   cases hlr:lr with
   |true=>rfl
   |false=>exact absurd (hlR1.1 hlr _ (NK hltk)) (by omega)
  generalize M[k].step=sp at he hnx hbad
  repeat' (first|(apply aP;exact rfl;apply ak (j:=k);exact rfl;exact rfl;exact hltk)|refine sT ?_|refine sS ?_|refine sQ ?_|refine sN ?_|refine sNQ ?_|refine sO ?_|refine sOQ ?_|refine sD ?_|refine sM fun _=> ?_|(refine sC ?_ ?_<;>intro hb<;>try omega)|(refine sCQ ?_ ?_<;>intro hb<;>try omega)|fail)
  all_goals first
   |(exfalso;omega)
   |((refine rT1 ?_);rw [if_pos (hbad (by omega))];done)
   |(refine ⟨k+1,⟨hltk,hnx (by omega)⟩,by omega,by exact sB,by exact sB,by exact mS⟩;done)
   |trace_state
 have hlr:lr=false:=hlR1.2 fun x hx=>by
  obtain ⟨j,hj,rfl⟩:=OW hx
  exact hall2 j hj (by omega)
 rw [hlr,if_neg (by decide)]
 repeat' (first|refine sT ?_|refine sS ?_|refine sN ?_|refine sM fun _=> ?_|(refine sC ?_ ?_<;>intro hb<;>try omega)|fail)
 all_goals first|(exfalso;omega)|((refine rT1 ?_);rfl)|trace_state
def BS:Bk:=⟨3,G9,bkR,[],[],[],0⟩
theorem xo (w:World):aQ Tryz.prog 11 [] w fun v H=> ∃ a:Bo,v= .agg (bG BS a.v).toArray∧H=bw BS a:=by
 refine aq Tryz.func11 rfl Tryz.ntmps11 rfl ?_
 refine aI 56 8 ?_
 refine aI 48 9 ?_
 refine aI 70 11 ?_
 repeat' (first|(apply aC (f:=49);exact rfl;exact rfl;(intro w' hm;exact E7 w');rintro _ _ ⟨ge,gr,gn,rfl,rfl⟩)|refine sT ?_|refine sS ?_|refine sM fun _=> ?_|(refine sC ?_ ?_<;>intro hb<;>try omega)|fail)
 exact wA (.inl rfl) rfl rfl pK rfl (H' :=bw BS ⟨some ge,some gr,none,none,none,6,2,0,0,0⟩) (by unfold bw;exact mS) ⟨⟨some ge,some gr,none,none,none,6,2,0,0,0⟩,rfl,rfl⟩
def H7 (c r:Int):Rct:=⟨c,r,c,r⟩
theorem EO (c r:Int) (w:World):ax Tryz.prog 13 [.int .i64 c,.int .i64 r] w (.agg (bK (H7 c r)).toArray):=by
 refine aq Tryz.func13 rfl Tryz.ntmps13 rfl ?_
 repeat' (first|refine sT ?_|refine sM fun _=> ?_|(refine sC ?_ ?_<;>intro hb<;>try omega)|fail)
 (refine eRC ?_)
 rfl
def mX (b:Bk):Bool:=
 decide (b.ents.length≤40) && (decide (b.rules.length≤10)||(decide ((fP b.users b.rules).2≠0) && decide (b.rules.length<70))) && (decide (b.grants.length≤10)||(decide (64<b.grants.length) && decide (b.grants.length<70))) && decide (b.log.length≤60) && decide (b.rels.length≤60)
theorem DS {b:Bk} (h:mX b=true):b.ents.length≤40∧b.rules.length<70∧b.grants.length<70∧b.log.length≤60∧b.rels.length≤60:=by
 simp only [mX,M0,OG,decide_eq_true_eq] at h
 omega
set_option maxHeartbeats 8000000 in
theorem tJ (b:Bk) (x:Bv) (w:World) (h:BRd w b x):ax Tryz.prog 20 [.agg (bG b x).toArray] w (.bool (mX b)):=by
 refine aq Tryz.func20 rfl Tryz.ntmps20 rfl ?_
 have h1:=fun (w' :World) (H:List Blk) (hm:Mem w w' H)=>mK b.users b.rules _ w' (h.r.of_w0 hm)
 unfold mX
 generalize fP b.users b.rules=ae at h1 ⊢
 obtain ⟨us,E,RU,G,L,M,st⟩:=b
 obtain ⟨ae1,ar1,ag1,al1,as1,ce1,cr1,cg1,cl1,cs1⟩:=x
 dsimp only at*
 clear h
 simp only [bG]
 generalize E.length=nE
 generalize RU.length=nR at h1 ⊢
 generalize G.length=nG
 generalize L.length=nL
 generalize M.length=nM
 repeat' (first|(apply aa (f:=65);exact rfl;exact rfl;(intro w' hm;exact h1 w' _ hm))|refine sT ?_|refine sS ?_|refine sM fun _=> ?_|(refine sC ?_ ?_<;>intro hb<;>try omega)|fail)
 all_goals first
  |(exfalso;omega)
  |((refine rT1 ?_);refine congrArg Value.bool (NG.2 ?_);simp only [M0,OG,decide_eq_true_eq,NV,true_iff,false_iff];omega)
  |trace_state
def Ms:Ox:=⟨3,1,H7 3 3,⟨#[55]⟩,0#64,0#64,0#64,0,0#64,0⟩
section
variable (ov:Rct→List Rl→(BitVec 64 × BitVec 64 × BitVec 64) × Int)
def MO (b:Bk) (o:Ox):Bool:=
 if o.kind=3∨o.kind=4 then !fA (ov o.rect b.rules).1.2.1 o.user
 else if o.kind=6 then !fA (ov o.rect b.rules).1.1 o.user
 else if o.kind=7∨o.kind=8 then !fA (ov o.rect b.rules).1.2.2 o.user
 else if o.kind=9 then (match b.grants[o.idx.toNat]? with|some g=>decide (g.by_≠o.user) && !fA (ov g.rect b.rules).1.2.2 o.user|none=>false)
 else false
def cdV (b:Bk) (o:Ox):Int × Int:=
 if tst b o 0 then (1,0) else if tst b o 1 then (2,0) else if tst b o 2 then (4,0) else if tst b o 3 then (2,0) else if tst b o 4 then (8,0)
 else if MO ov b o then (5,0) else if tst b o 6 then (6,(ofP o.input).2.1) else if tst b o 7 then (7,0) else (0,0)
def evV (step:Int) (x:Ox) (dn:Bool) (L:List Rl) (N:List Gn):Ev × Int:=
 if jf x.kind=false then (iy,2)
 else if step<0∨opE x≠0∨x.user<0∨64≤x.user then (iy,2)
 else if (fP 64 L).2≠0 then (iy,(fP 64 L).2)
 else if (jL 64 N).2≠0 then (iy,(jL 64 N).2)
 else if x.kind=9∧(x.idx<0∨(N.length:Int)≤x.idx) then (iy,6)
 else if aG (evT x N)=false then (iy,3)
 else (⟨step,x.user,x.kind,evT x N,dn,(ov (evT x N) L).1.2.2|||(ofS x.user).1⟩,0)
def Mt (b:Bk) (o:Ox) (c:Int):Bk:=
 ⟨b.users,b.ents,b.rules,b.grants,if (c=0∨c=5)∧jf o.kind=true then b.log++ [(evV ov b.step o (decide (c=0)) b.rules b.grants).1] else b.log,b.rels,b.step+1⟩
def apW (b:Bk) (o:Ox) (c:Int × Int):Bk × Int × Int × Int:=
 if c.1≠0 then (Mt ov b o c.1,c.1,c.2,0) else (tI (Mt ov b o c.1) o,0,0,0)
def apV (b:Bk) (o:Ox):Bk × Int × Int × Int:=
 if bkE b≠0 then (oS,0,0,bkE b)
 else if b.step=1099511627776 then (oS,0,0,5)
 else apW ov b o (cdV ov b o)
end
theorem LF (b:Bk) (o:Ox):apE b o=apV ovC b o:=by rw [← Lb];rfl
theorem MG {b:Bk} {o:Ox} {b' :Bk} {x:Int × Int × Int} (h:LA (apV ovC b o).1 b' =true) (h2:(apV ovC b o).2=x):apE b o=(b',x):=by
 rw [LF]
 exact Prod.ext (HJ.1 h) h2
def Iq:Bk:=⟨3,[⟨⟨1,1⟩,⟨#[53]⟩⟩,⟨⟨2,1⟩,⟨#[49,48]⟩⟩,⟨⟨1,2⟩,inB⟩,⟨⟨2,2⟩,⟨#[50,48]⟩⟩,⟨⟨1,3⟩,inC⟩,⟨⟨3,3⟩,⟨#[55]⟩⟩,⟨⟨1,4⟩,inD⟩],bkR,[],[⟨0,1,3,H7 3 3,true,3#64⟩],[],1⟩
set_option maxRecDepth 100000 in
theorem Ch:apE BS Ms=(Iq,0,0,0):=MG (by decide+kernel) (by decide+kernel)
set_option maxRecDepth 100000 in
theorem Cf:JO Iq ⟨3,3⟩=(⟨#[55]⟩,0):=by decide+kernel
set_option maxHeartbeats 8000000 in
theorem Cg (w:World) (hW:Words w):ax Tryz.prog 24 [] w (.bool true):=by
 refine aq Tryz.func24 rfl Tryz.ntmps24 rfl ?_
 have hC:=fun w=>EO 3 3 w
 have hs:Small BS:=⟨by decide,by decide,by decide,by decide,by decide⟩
 have hs2:Iq.ents.length≤1000000:=by decide
 have hA:=fun (a:Bo) (w' :World) (H:List Blk) (hm:Mem w w' H) (h:BRd w' BS a.v)=>Ch ▸ tL BS a.v Ms w' h (hW.next hm) hs
 have hI:=fun (a:Bo) (w' :World) (H:List Blk) (hm:Mem w w' H) (h:BRd w' Iq a.v)=>Cf ▸ Cd Iq a.v ⟨3,3⟩ w' h (hW.next hm) hs2
 repeat' (first|(apply aC (f:=11);exact rfl;exact rfl;(intro w' hm;exact xo w');rintro _ _ ⟨a,rfl,rfl⟩)|(apply aa;exact rfl;exact rfl;(intro w hm;exact hC w))|(apply aC (f:=14);exact rfl;exact rfl;(intro w' hm;exact hA a w' _ hm (BRd.of_rows hm pK pK pK pK pK));rintro _ _ ⟨a2,rfl,rfl⟩)|(apply aa (f:=19);exact rfl;exact rfl;(intro w' hm;exact hI a2 w' _ hm (BRd.of_rows hm pK pK pK pK pK)))|(apply aj (d:=32);exact rfl;apply wt (b:=(⟨#[55]⟩:ByteArray));exact rfl;exact rfl)|refine sT ?_|refine sS ?_|refine sM fun _=> ?_|(refine sC ?_ ?_<;>intro hb<;>try omega)|fail)
 all_goals first|(exfalso;omega)|((refine rT1 ?_);rfl)|trace_state
theorem zX (L M:List Ev) (lv mv:Value) (w:World) (hl:Reads w lv L.length (L.flatMap aO)) (hm:Reads w mv M.length (M.flatMap aO)):
  ax Tryz.prog 15 [lv,mv] w (.bool (decide (L=M))):=by
 obtain ⟨Al,cl,rfl,hl1,hl2,hl3⟩:=hl
 obtain ⟨Am,cm,rfl,hm1,hm2,hm3⟩:=hm
 refine aq Tryz.func15 rfl Tryz.ntmps15 rfl ?_
 by_cases hlen:L.length=M.length
 ·
  repeat' (first|refine sT ?_|refine sS ?_|refine sM fun _=> ?_|(refine sC ?_ ?_<;>intro hb<;>try omega)|fail)
  refine fT (fun i:Nat=> [(0,.slice Al L.length cl),(1,.slice Am M.length cm),(5,.int .i64 (i:Int))]) (fun _=> []) (fun i=>i≤L.length∧decide (L=M)=decide (L.drop i=M.drop i)) (fun i=>L.length - i) 0 ⟨by omega,rfl⟩ ?_ ?_ ?_
  ·
   exact sB
  ·
   exact mS
  ·
   rintro i ⟨hi,hrec⟩
   by_cases hlt:i<L.length
   ·
    have hlt2:i<M.length:=by omega
    obtain ⟨gl,ol,rfl,hrl⟩:=hl3 (by omega)
    obtain ⟨gm,om,rfl,hrm⟩:=hm3 (by omega)
    have he1:=hrl.elem eP i hlt
    have he2:=hrm.elem eP i hlt2
    rw [w7 hlt hlt2,← HG] at hrec
    repeat' (first|(apply aP;exact rfl;apply ak;exact rfl;exact rfl;(first|exact hlt|exact hlt2))|(apply aP;exact rfl;apply aA;exact rfl;(first|exact he1|exact he2);exact rfl)|(apply aP;exact rfl;apply I8;exact rfl;exact rfl)|(apply aj;exact rfl;apply iJ;exact rfl;exact rfl;(simp only [maxLen] at*;omega))|refine sT ?_|refine sS ?_|refine sQ ?_|refine sD ?_|refine sM fun _=> ?_|(refine sC ?_ ?_<;>intro hb<;>try omega)|(refine sCQ ?_ ?_<;>intro hb<;>try omega)|fail)
    all_goals first
     |(exfalso;omega)
     |((refine rT1 ?_);rw [hrec];simp_all;done)
     |(refine ⟨i+1,⟨by omega,?_⟩,by omega,by exact sB,by exact mS⟩;rw [hrec];simp_all;done)
     |trace_state
   ·
    have e:i=L.length:=by omega
    subst e
    repeat' (first|refine sT ?_|refine sS ?_|refine sM fun _=> ?_|(refine sC ?_ ?_<;>intro hb<;>try omega)|fail)
    (refine rT1 ?_)
    rw [hrec,ND,hlen,ND]
    rfl
 ·
  repeat' (first|refine sT ?_|refine sS ?_|refine sM fun _=> ?_|(refine sC ?_ ?_<;>intro hb<;>try omega)|fail)
  (refine rT1 ?_)
  rw [decide_eq_false]
  intro e
  exact hlen (congrArg List.length e)
theorem zV (L M:List Gn) (lv mv:Value) (w:World) (hl:Reads w lv L.length (L.flatMap bg)) (hm:Reads w mv M.length (M.flatMap bg)):
  ax Tryz.prog 17 [lv,mv] w (.bool (decide (L=M))):=by
 obtain ⟨Al,cl,rfl,hl1,hl2,hl3⟩:=hl
 obtain ⟨Am,cm,rfl,hm1,hm2,hm3⟩:=hm
 refine aq Tryz.func17 rfl Tryz.ntmps17 rfl ?_
 by_cases hlen:L.length=M.length
 ·
  repeat' (first|refine sT ?_|refine sS ?_|refine sM fun _=> ?_|(refine sC ?_ ?_<;>intro hb<;>try omega)|fail)
  refine fT (fun i:Nat=> [(0,.slice Al L.length cl),(1,.slice Am M.length cm),(5,.int .i64 (i:Int))]) (fun _=> []) (fun i=>i≤L.length∧decide (L=M)=decide (L.drop i=M.drop i)) (fun i=>L.length - i) 0 ⟨by omega,rfl⟩ ?_ ?_ ?_
  ·
   exact sB
  ·
   exact mS
  ·
   rintro i ⟨hi,hrec⟩
   by_cases hlt:i<L.length
   ·
    have hlt2:i<M.length:=by omega
    obtain ⟨gl,ol,rfl,hrl⟩:=hl3 (by omega)
    obtain ⟨gm,om,rfl,hrm⟩:=hm3 (by omega)
    have he1:=hrl.elem cW i hlt
    have he2:=hrm.elem cW i hlt2
    rw [w7 hlt hlt2,← HF] at hrec
    repeat' (first|(apply aP;exact rfl;apply ak;exact rfl;exact rfl;(first|exact hlt|exact hlt2))|(apply aP;exact rfl;apply aA;exact rfl;(first|exact he1|exact he2);exact rfl)|(apply aP;exact rfl;apply I7;exact rfl;exact rfl)|(apply aj;exact rfl;apply iJ;exact rfl;exact rfl;(simp only [maxLen] at*;omega))|refine sT ?_|refine sS ?_|refine sQ ?_|refine sD ?_|refine sM fun _=> ?_|(refine sC ?_ ?_<;>intro hb<;>try omega)|(refine sCQ ?_ ?_<;>intro hb<;>try omega)|fail)
    all_goals first
     |(exfalso;omega)
     |((refine rT1 ?_);rw [hrec];simp_all;done)
     |(refine ⟨i+1,⟨by omega,?_⟩,by omega,by exact sB,by exact mS⟩;rw [hrec];simp_all;done)
     |trace_state
   ·
    have e:i=L.length:=by omega
    subst e
    repeat' (first|refine sT ?_|refine sS ?_|refine sM fun _=> ?_|(refine sC ?_ ?_<;>intro hb<;>try omega)|fail)
    (refine rT1 ?_)
    rw [hrec,ND,hlen,ND]
    rfl
 ·
  repeat' (first|refine sT ?_|refine sS ?_|refine sM fun _=> ?_|(refine sC ?_ ?_<;>intro hb<;>try omega)|fail)
  (refine rT1 ?_)
  rw [decide_eq_false]
  intro e
  exact hlen (congrArg List.length e)
theorem zT (L M:List Rl) (lv mv:Value) (w:World) (hl:Reads w lv L.length (L.flatMap bf)) (hm:Reads w mv M.length (M.flatMap bf)):
  ax Tryz.prog 23 [lv,mv] w (.bool (decide (L=M))):=by
 obtain ⟨Al,cl,rfl,hl1,hl2,hl3⟩:=hl
 obtain ⟨Am,cm,rfl,hm1,hm2,hm3⟩:=hm
 refine aq Tryz.func23 rfl Tryz.ntmps23 rfl ?_
 by_cases hlen:L.length=M.length
 ·
  repeat' (first|refine sT ?_|refine sS ?_|refine sM fun _=> ?_|(refine sC ?_ ?_<;>intro hb<;>try omega)|fail)
  refine fT (fun i:Nat=> [(0,.slice Al L.length cl),(1,.slice Am M.length cm),(5,.int .i64 (i:Int))]) (fun _=> []) (fun i=>i≤L.length∧decide (L=M)=decide (L.drop i=M.drop i)) (fun i=>L.length - i) 0 ⟨by omega,rfl⟩ ?_ ?_ ?_
  ·
   exact sB
  ·
   exact mS
  ·
   rintro i ⟨hi,hrec⟩
   by_cases hlt:i<L.length
   ·
    have hlt2:i<M.length:=by omega
    obtain ⟨gl,ol,rfl,hrl⟩:=hl3 (by omega)
    obtain ⟨gm,om,rfl,hrm⟩:=hm3 (by omega)
    have he1:=hrl.elem dg i hlt
    have he2:=hrm.elem dg i hlt2
    rw [w7 hlt hlt2,← HC] at hrec
    repeat' (first|(apply aP;exact rfl;apply ak;exact rfl;exact rfl;(first|exact hlt|exact hlt2))|(apply aP;exact rfl;apply aA;exact rfl;(first|exact he1|exact he2);exact rfl)|(apply aP;exact rfl;apply I5;exact rfl;exact rfl)|(apply aj;exact rfl;apply iJ;exact rfl;exact rfl;(simp only [maxLen] at*;omega))|refine sT ?_|refine sS ?_|refine sQ ?_|refine sD ?_|refine sM fun _=> ?_|(refine sC ?_ ?_<;>intro hb<;>try omega)|(refine sCQ ?_ ?_<;>intro hb<;>try omega)|fail)
    all_goals first
     |(exfalso;omega)
     |((refine rT1 ?_);rw [hrec];simp_all;done)
     |(refine ⟨i+1,⟨by omega,?_⟩,by omega,by exact sB,by exact mS⟩;rw [hrec];simp_all;done)
     |trace_state
   ·
    have e:i=L.length:=by omega
    subst e
    repeat' (first|refine sT ?_|refine sS ?_|refine sM fun _=> ?_|(refine sC ?_ ?_<;>intro hb<;>try omega)|fail)
    (refine rT1 ?_)
    rw [hrec,ND,hlen,ND]
    rfl
 ·
  repeat' (first|refine sT ?_|refine sS ?_|refine sM fun _=> ?_|(refine sC ?_ ?_<;>intro hb<;>try omega)|fail)
  (refine rT1 ?_)
  rw [decide_eq_false]
  intro e
  exact hlen (congrArg List.length e)
end Go.SL
