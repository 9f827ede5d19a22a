/-
  Lemmas and walks, put together: Oc Od Ob Jb Jj.
-/
import Derived.Test.YthefeclkaaocnaaGreatDoorKj32
set_option linter.unusedSimpArgs false
set_option linter.unusedVariables false
set_option maxRecDepth 20000
namespace Go.SL
open Go
structure BkOk (b:Bk):Prop where
 u:1≤b.users∧b.users≤64
 e:(fA b.ents).2=0
 r:(eL b.users b.rules).2=0
 g:(kR b.users b.grants).2=0
 l:qZ b.users b.log b.rels=0
 s:0≤b.step∧b.step≤1099511627776
 le:iZ b.step b.log=false
 lr:lC b.step b.rels=false
theorem dz {b:Bk}:bkE b=0↔BkOk b:=by
 constructor
 ·
  intro h
  unfold bkE at h
  split at h
  ·
   cases h
  split at h
  ·
   rename_i h2;exact absurd h h2
  split at h
  ·
   rename_i h2;exact absurd h h2
  split at h
  ·
   rename_i h2;exact absurd h h2
  split at h
  ·
   rename_i h2;exact absurd h h2
  split at h
  ·
   cases h
  split at h
  ·
   cases h
  split at h
  ·
   cases h
  exact ⟨by omega,by omega,by omega,by omega,by omega,by omega,by simp_all,by simp_all⟩
 ·
  intro h
  have h1:=h.u
  have h2:=h.s
  unfold bkE
  rw [if_neg (by omega),if_neg (by rw [h.e];decide),if_neg (by rw [h.r];decide),if_neg (by rw [h.g];decide),if_neg (by rw [h.l];decide),if_neg (by omega),if_neg (by rw [h.le];decide),if_neg (by rw [h.lr];decide)]
def WiU (u:Int) (x:BitVec 64):Prop:=x &&& ~~~(db u).1=0#64
theorem xq {u:Int} {x:BitVec 64}:WiU u x↔ ∀ i,x.getLsbD i=true→(db u).1.getLsbD i=true:=by
 unfold WiU
 constructor
 ·
  intro h i hx
  have h1:(x &&& ~~~(db u).1).getLsbD i=false:=by rw [h];simp
  have hi:=JI hx
  rw [PL,hx,BitVec.getLsbD_not,O8] at h1
  simpa [hi] using h1
 ·
  intro h
  apply Qc
  intro i hi
  rw [PL,BitVec.getLsbD_not]
  cases hx:x.getLsbD i with
  |false=>simp
  |true=>rw [h i hx];simp
theorem GW {u:Int} {x y:BitVec 64}:WiU u (x|||y)↔WiU u x∧WiU u y:=by
 simp only [xq,BitVec.getLsbD_or,Pn]
 exact ⟨fun h=>⟨fun i hi=>h i (.inl hi),fun i hi=>h i (.inr hi)⟩,fun h i hi=>hi.elim (h.1 i) (h.2 i)⟩
theorem Ly (x:BitVec 64):WiU 64 x:=by
 unfold WiU
 rw [show ~~~(db 64).1=0#64 by decide+kernel,BitVec.and_zero]
theorem Lh {u:Int} (h:1≤u∧u≤64) (i:Nat):(db u).1.getLsbD i=decide ((i:Int)<u):=by
 unfold db
 rw [if_neg (by omega),Bw _ (by omega)]
 exact decide_eq_decide.2 (by omega)
theorem rR {u:Int}: ∀ {L:List Rl} {i:Int},(eR u L i).2=0↔ ∀ r∈L,aF r.rect=true∧WiU u (r.read|||r.write|||r.own)
 | [],_=>⟨fun _ _ h=>(by cases h),fun _=>rfl⟩
 |r::L,i=>by
  rw [eR]
  split
  ·
   rename_i h
   exact ⟨fun h=>(by cases h),fun h2=>by rw [(h2 r NI).1] at h;cases h⟩
  split
  ·
   rename_i h
   exact ⟨fun h=>(by cases h),fun h2=>absurd (h2 r NI).2 h⟩
  ·
   rename_i h1 h2
   rw [rR (L:=L)]
   refine ⟨fun h r' hr=> ?_,fun h r' hr=>h r' (NQ _ hr)⟩
   rcases NS.1 hr with rfl|hr
   ·
    exact ⟨by simpa using h1,Classical.not_not.1 h2⟩
   ·
    exact h r' hr
theorem qt {u:Int} {L:List Rl}:(eL u L).2=0↔(1≤u∧u≤64)∧L≠ []∧L.length≤64∧L.head?.map (fun x=>x.rect)=some mU∧ ∀ r∈L,aF r.rect=true∧WiU u (r.read|||r.write|||r.own):=by
 unfold eL
 split
 ·
  rename_i h
  refine ⟨fun h=>(by cases h),fun h2=> ?_⟩
  rcases h with h|h|h|h
  ·
   omega
  ·
   omega
  ·
   omega
  ·
   exact absurd h h2.2.1
 rename_i h1
 have hL:L≠ []:=fun e=>h1 (.inr (.inr (.inr e)))
 have hu:1≤u∧u≤64:=by omega
 split
 ·
  exact ⟨fun h=>(by cases h),fun h2=>by omega⟩
 split
 ·
  rename_i h3;exact ⟨fun h=>(by cases h),fun h2=>absurd h2.2.2.2.1 h3⟩
 ·
  rename_i h2 h3
  rw [rR]
  exact ⟨fun h=>⟨hu,hL,by omega,Decidable.not_not.1 h3,h⟩,fun h=>h.2.2.2.2⟩
theorem kY {u:Int} {L:List Rl} (h:(eL u L).2=0):(eL 64 L).2=0:=by
 rw [qt] at h ⊢
 exact ⟨by decide,h.2.1,h.2.2.1,h.2.2.2.1,fun r hr=>⟨(h.2.2.2.2 r hr).1,Ly _⟩⟩
theorem rH {u:Int}: ∀ {L:List Gn} {i:Int},(f9 u L i).2=0↔ ∀ g∈L,aF g.rect=true∧Da u g=true
 | [],_=>⟨fun _ _ h=>(by cases h),fun _=>rfl⟩
 |r::L,i=>by
  rw [f9]
  split
  ·
   rename_i h
   exact ⟨fun h=>(by cases h),fun h2=>by rw [(h2 r NI).1] at h;cases h⟩
  split
  ·
   rename_i h
   exact ⟨fun h=>(by cases h),fun h2=>by rw [(h2 r NI).2] at h;cases h⟩
  ·
   rename_i h1 h2
   rw [rH (L:=L)]
   refine ⟨fun h r' hr=> ?_,fun h r' hr=>h r' (NQ _ hr)⟩
   rcases NS.1 hr with rfl|hr
   ·
    exact ⟨by simpa using h1,by simpa using h2⟩
   ·
    exact h r' hr
theorem n9 {u:Int} {L:List Gn}:(kR u L).2=0↔(1≤u∧u≤64)∧L.length≤64∧ ∀ g∈L,aF g.rect=true∧Da u g=true:=by
 unfold kR
 split
 ·
  exact ⟨fun h=>(by cases h),fun h2=>by omega⟩
 split
 ·
  exact ⟨fun h=>(by cases h),fun h2=>by omega⟩
 ·
  rw [rH]
  exact ⟨fun h=>⟨by omega,by omega,h⟩,fun h=>h.2.2⟩
theorem uK {u:Int} (hu:1≤u∧u≤64) {g:Gn}:Da u g=true↔(1≤g.fns∧g.fns≤31)∧WiU u g.to∧0≤g.by_∧g.by_<u:=by
 unfold Da
 rw [qd (by omega)]
 simp only [NK,decide_eq_true_eq,and_assoc]
 exact Iff.rfl
theorem Mv {u:Int} {L:List Gn} (h:(kR u L).2=0):(kR 64 L).2=0:=by
 rw [n9] at h ⊢
 refine ⟨by decide,h.2.1,fun g hg=>⟨(h.2.2 g hg).1,?_⟩⟩
 have h1:=(uK h.1).1 (h.2.2 g hg).2
 exact (uK (by decide)).2 ⟨h1.1,Ly _,h1.2.2.1,by omega⟩
def mC (last:Int):List Ev→Int
 | []=>last
 |x::l=>mC x.step l
theorem uT: ∀ (L:List Ev) (last:Int),mC last L=if L.length=0 then last else ((L[L.length - 1]?).map Ev.step).getD 0
 | [],_=>rfl
 | [x],_=>rfl
 |x::y::L,last=>by
  have ih:=uT (y::L) x.step
  rw [show mC last (x::y::L)=mC x.step (y::L) from rfl,ih]
  simp
theorem FY {s:Int} {L:List Ev} (h:iZ s L=false) (hs:0≤s):mC (-1) L<s:=by
 rw [uT]
 unfold iZ at h
 split
 ·
  omega
 ·
  rw [if_pos (by omega)] at h
  simpa using h
theorem C0 {s:Int} {L:List Ev} {x:Ev}:iZ s (L++ [x])=decide (s≤x.step):=by
 unfold iZ
 rw [if_pos (by simp),ND,NG,Pa,OC (NJ _),Qp]
 rfl
theorem C8 {s:Int} {L:List Ev} (h:iZ s L=false):iZ (s+1) L=false:=by
 unfold iZ at h ⊢
 split
 ·
  rename_i h1
  rw [if_pos h1,decide_eq_false_iff_not] at h
  rw [decide_eq_false_iff_not];omega
 ·
  rfl
theorem CZ {s:Int} {L:List Rv} (h:lC s L=false):lC (s+1) L=false:=by
 unfold lC at h ⊢
 split
 ·
  rename_i h1
  rw [if_pos h1,decide_eq_false_iff_not] at h
  rw [decide_eq_false_iff_not];omega
 ·
  rfl
theorem rK {all:BitVec 64} {x:Ev}: ∀ {L:List Ev} {last:Int},eu all last L=0→kT all (mC last L) x=0→eu all last (L++ [x])=0
 | [],last,_,h=>by
  rw [NH,iD,if_neg (by rw [show mC last []=last from rfl] at h;rw [h];decide)];rfl
 |y::L,last,h1,h2=>by
  rw [iD] at h1
  rw [NF,iD]
  split at h1
  ·
   rename_i h;exact absurd h1 h
  ·
   rename_i h
   rw [if_neg h]
   exact rK h1 h2
theorem sV {u:Int} {L:List Ev} {M:List Rv}:qZ u L M=0↔(1≤u∧u≤64)∧eu (db u).1 (-1) L=0∧fG (db u).1 (-1) M=0:=by
 unfold qZ
 split
 ·
  exact ⟨fun h=>(by cases h),fun h=>by omega⟩
 split
 ·
  rename_i h;exact ⟨fun h2=>absurd h2 h,fun h2=>absurd h2.2.1 h⟩
 ·
  exact ⟨fun h=>⟨by omega,by omega,h⟩,fun h=>h.2.2⟩
theorem oR: ∀ {L:List Et} {i:Nat} {b:Option Rf},(eH i b L).2=0↔(L.Pairwise fun x y=>bP x.at_ y.at_=true)∧(∀ p,b=some p→ ∀ e∈L,bP p e.at_=true)∧ ∀ e∈L,ID e
 | [],_,_=>⟨fun _=>⟨.nil,fun _ _ e he=>(by cases he),fun e he=>(by cases he)⟩,fun _=>rfl⟩
 |x::r,i,b=>by
  rw [eH]
  split
  ·
   rename_i h
   refine ⟨fun h2=>absurd h2 h,fun h2=>absurd (wV.2 ⟨fun p hp=>h2.2.1 p hp x NI,h2.2.2 x NI⟩) h⟩
  ·
   rename_i h
   have h0:=wV.1 (Classical.not_not.1 h)
   rw [oR (L:=r)]
   constructor
   ·
    rintro ⟨h1,h2,h3⟩
    have h4:=h2 x.at_ rfl
    refine ⟨Oi.2 ⟨h4,h1⟩,fun p hp e he=> ?_,fun e he=> ?_⟩
    ·
     rcases NS.1 he with rfl|he
     ·
      exact h0.1 p hp
     ·
      exact rF (h0.1 p hp) (h4 e he)
    ·
     rcases NS.1 he with rfl|he
     ·
      exact h0.2
     ·
      exact h3 e he
   ·
    rintro ⟨h1,h2,h3⟩
    have h4:=Oi.1 h1
    exact ⟨h4.2,fun p hp e he=>by cases hp;exact h4.1 e he,fun e he=>h3 e (NQ _ he)⟩
theorem w8 {L:List Et}:(fA L).2=0↔(L.Pairwise fun x y=>bP x.at_ y.at_=true)∧ ∀ e∈L,ID e:=by
 unfold fA
 rw [oR]
 exact ⟨fun h=>⟨h.1,h.2.2⟩,fun h=>⟨h.1,fun p hp=>(by cases hp),h.2⟩⟩
theorem I2 {L:List Et} {o:Ox} {e:Et} (h:e∈ma L o):e∈L∨(e=⟨toO o,o.input⟩∧o.input≠au):=by
 unfold ma at h
 split at h
 ·
  exact .inl h
 ·
  rename_i hn
  rcases Ol.1 h with h|h
  ·
   exact .inl (OO h)
  ·
   rcases NS.1 h with h|h
   ·
    exact .inr ⟨h,hn⟩
   ·
    exact .inl (Py h)
theorem uY {p:Et→Bool}: ∀ L:List Et,L.drop (L.takeWhile p).length=L.dropWhile p
 | []=>rfl
 |a::L=>by
  rw [PF,Qm]
  split
  ·
   exact uY L
  ·
   rfl
theorem tR {p:Et→Bool}: ∀ L:List Et,L.take (L.takeWhile p).length=L.takeWhile p
 | []=>rfl
 |a::L=>by
  rw [PF]
  split
  ·
   rw [N8,OI,tR L]
  ·
   rfl
theorem Aw {p:Et→Bool}: ∀ {L:List Et} {a:Et} {R:List Et},L.dropWhile p=a::R→p a=false
 |b::L,a,R,h=>by
  rw [Qm] at h
  split at h
  ·
   exact Aw h
  ·
   rename_i hp
   cases h
   simpa using hp
theorem vZ {p:Et→Bool}: ∀ {L:List Et},∀ a∈L.takeWhile p,p a=true
 |b::L,a,h=>by
  rw [PF] at h
  split at h
  ·
   rename_i hb
   rcases NS.1 h with rfl|h
   ·
    exact hb
   ·
    exact vZ a h
  ·
   cases h
theorem Aq {L:List Et} {o:Ox} (hs:L.Pairwise fun x y=>bP x.at_ y.at_=true) (hne: ∀ e∈L,e.at_≠toO o):(ma L o).Pairwise fun x y=>bP x.at_ y.at_=true:=by
 unfold ma
 split
 ·
  exact hs
 unfold CL
 rw [tR,uY]
 have hsp:L.takeWhile (fun e=>bP e.at_ (toO o))++L.dropWhile (fun e=>bP e.at_ (toO o))=L:=List.takeWhile_append_dropWhile
 rw [← hsp,O5] at hs
 obtain ⟨h1,h2,h3⟩:=hs
 have h4: ∀ e∈L.takeWhile (fun e=>bP e.at_ (toO o)),bP e.at_ (toO o)=true:=fun e he=>vZ e he
 have h5: ∀ e∈L.dropWhile (fun e=>bP e.at_ (toO o)),bP (toO o) e.at_=true:=by
  cases hd:L.dropWhile (fun e=>bP e.at_ (toO o)) with
  |nil=>intro e he;cases he
  |cons a R=>
   have h6:=Aw hd
   rw [hd] at h2 hsp
   have haL:a∈L:=by rw [← hsp];exact PW _ NI
   have h7:bP (toO o) a.at_=true:=(IQ (hne a haL)).resolve_left fun h=>by
    rw [show bP a.at_ (toO o)=false from h6] at h;cases h
   intro e he
   rcases NS.1 he with rfl|he
   ·
    exact h7
   ·
    exact rF h7 ((Oi.1 h2).1 e he)
 rw [O5]
 refine ⟨h1,Oi.2 ⟨h5,h2⟩,fun a ha b hb=> ?_⟩
 rcases NS.1 hb with rfl|hb
 ·
  exact h4 a ha
 ·
  exact h3 a ha b hb
theorem nK {b:Bk} {o:Ox} (h:(cdE b o).1=0∨(cdE b o).1=5): ∀ j,j<5→tst b o j=false:=by
 unfold cdE at h
 have hno: ∀ {x y:Int},x≠0→x≠5→ ¬ ((x,y).1=0∨(x,y).1=5):=fun h0 h5 h=>h.elim h0 h5
 split at h
 ·
  exact absurd h (hno (by decide) (by decide))
 split at h
 ·
  exact absurd h (hno (by decide) (by decide))
 split at h
 ·
  exact absurd h (hno (by decide) (by decide))
 split at h
 ·
  exact absurd h (hno (by decide) (by decide))
 split at h
 ·
  exact absurd h (hno (by decide) (by decide))
 rename_i h0 h1 h2 h3 h4
 intro j hj
 rcases (by omega:j=0∨j=1∨j=2∨j=3∨j=4) with rfl|rfl|rfl|rfl|rfl
 ·
  simpa using h0
 ·
  simpa using h1
 ·
  simpa using h2
 ·
  simpa using h3
 ·
  simpa using h4
theorem EU {b:Bk} {o:Ox} (h:(cdE b o).1=0): ∀ j,j<8→tst b o j=false:=by
 have hf:=nK (.inl h)
 unfold cdE at h
 rw [if_neg (by rw [hf 0 (by decide)];decide),if_neg (by rw [hf 1 (by decide)];decide),if_neg (by rw [hf 2 (by decide)];decide),if_neg (by rw [hf 3 (by decide)];decide),if_neg (by rw [hf 4 (by decide)];decide)] at h
 split at h
 ·
  exact absurd h (by decide)
 split at h
 ·
  exact absurd h (by dsimp only;decide)
 split at h
 ·
  exact absurd h (by decide)
 rename_i h5 h6 h7
 intro j hj
 by_cases hj5:j<5
 ·
  exact hf j hj5
 rcases (by omega:j=5∨j=6∨j=7) with rfl|rfl|rfl
 ·
  simpa using h5
 ·
  simpa using h6
 ·
  simpa using h7
theorem Eu {m:Nat} (h:m<64) (i:Nat):(1#64<<<m).getLsbD i=decide (i=m):=by
 have hb: ∀ m:Fin 64,∀ i:Fin 64,(1#64<<<m.val).getLsbD i.val=decide (i.val=m.val):=by decide+kernel
 by_cases hi:i<64
 ·
  exact hb ⟨m,h⟩ ⟨i,hi⟩
 ·
  rw [BitVec.getLsbD_of_ge _ _ (by omega),decide_eq_false (by omega)]
theorem Mf {u:Int} {L:List Rl} {T:Rct} (hL:(eL u L).2=0) (hT:aF T=true):WiU u (ovE T L).1.2.2:=xq.2 fun i hi=>by
 have h64:=JI hi
 rw [Kz (kY hL) hT h64] at hi
 have hs:=cN.1 hT
 have h1:=hi ⟨T.c1,T.r1⟩ (dc.2 ⟨OW _,hs.2.1,OW _,hs.2.2.2.2.1⟩)
 unfold IW at h1
 cases hx:L[fV L ⟨T.c1,T.r1⟩]? with
 |none=>rw [hx] at h1;simp at h1
 |some x=>
  rw [hx] at h1
  have h2:=((qt.1 hL).2.2.2.2 x (P2 hx)).2
  exact xq.1 (GW.1 h2).2 i h1
theorem ni {k:Int}:dh k=true↔k=3∨k=4∨k=7∨k=8∨k=9:=by
 simp only [dh,Pn,decide_eq_true_eq,or_assoc]
theorem pJ {b:Bk} {o:Ox} (h:tst b o 1=false):0≤o.user∧o.user<b.users:=by
 simp only [tst,PA,decide_eq_false_iff_not] at h
 omega
theorem Cd {b:Bk} {o:Ox} (h:tst b o 0=false):opE o=0:=by
 simp only [tst,decide_eq_false_iff_not] at h
 exact Decidable.not_not.1 h
theorem lg {b:Bk} {o:Ox} (h:tst b o 2=false) (hk:o.kind=3∨o.kind=4∨o.kind=5∨o.kind=6∨o.kind=7∨o.kind=8):aF o.rect=true:=by
 have hr:FC o.kind=true:=by
  simp only [FC,Pn,decide_eq_true_eq]
  omega
 simp only [tst,kM,hr,if_true,O8,decide_eq_false_iff_not] at h
 exact (CI _).1 (Decidable.not_not.1 h)
theorem HE {b:Bk} {o:Ox} (h:tst b o 3=false):WiU b.users (o.rd|||o.wr|||o.ow)∧WiU b.users o.to:=by
 simp only [tst,decide_eq_false_iff_not] at h
 exact GW.1 (show WiU b.users ((o.rd|||o.wr|||o.ow)|||o.to) from Classical.not_not.1 h)
theorem Em {b:Bk} {o:Ox} (h:tst b o 4=false) (hk:o.kind=9): ∃ j:Nat,o.idx=(j:Int)∧ ∃ h:j<b.grants.length,b.grants[j].rev=false:=by
 simp only [tst,hk,decide_true,O8,PA,decide_eq_false_iff_not] at h
 obtain ⟨⟨h1,h2⟩,h3⟩:=h
 have hj:o.idx=(o.idx.toNat:Int):=by omega
 have hl:o.idx.toNat<b.grants.length:=by omega
 exact ⟨_,hj,hl,by rw [← EB hj hl];exact h3⟩
theorem Jg {b:Bk} {o:Ox} (h:BkOk b) (hm:dh o.kind=true) (ht: ∀ j,j<5→tst b o j=false):aF (evT o b.grants)=true:=by
 unfold evT
 split
 ·
  rename_i hk
  obtain ⟨j,hj,hl,_⟩:=Em (ht 4 (by decide)) hk
  rw [hj,OZ,NE hl]
  exact ((n9.1 h.g).2.2 _ (OD hl)).1
 ·
  rename_i hk
  have:=ni.1 hm
  exact lg (ht 2 (by decide)) (by omega)
theorem yq {b:Bk} {o:Ox} {dn:Bool} (h:BkOk b) (hm:dh o.kind=true) (ht: ∀ j,j<5→tst b o j=false):evO b.step o dn b.rules b.grants=(⟨b.step,o.user,o.kind,evT o b.grants,dn,(ovE (evT o b.grants) b.rules).1.2.2|||(1#64<<<o.user.toNat)⟩,0):=by
 have hu:=pJ (ht 1 (by decide))
 have h0:=Cd (ht 0 (by decide))
 have hs:=h.s
 have hus:=h.u
 have hT:=Jg h hm ht
 have h9: ¬ (o.kind=9∧(o.idx<0∨(b.grants.length:Int)≤o.idx)):=by
  rintro ⟨hk,hn⟩
  obtain ⟨j,hj,hl,_⟩:=Em (ht 4 (by decide)) hk
  omega
 unfold evO ofS
 rw [if_neg (by rw [hm];decide),if_neg (by omega),if_neg (by rw [kY h.r];decide),if_neg (by rw [Mv h.g];decide),if_neg h9,if_neg (by rw [hT];decide),if_neg (by omega)]
theorem Nk {b:Bk} {o:Ox} {dn:Bool} (h:BkOk b) (hm:dh o.kind=true) (ht: ∀ j,j<5→tst b o j=false):kT (db b.users).1 (mC (-1) b.log) (evO b.step o dn b.rules b.grants).1=0:=by
 have hu:=pJ (ht 1 (by decide))
 have hus:=h.u
 have hT:=Jg h hm ht
 have hle:=FY h.le h.s.1
 have hm64:o.user.toNat<64:=by omega
 have hto:WiU b.users ((ovE (evT o b.grants) b.rules).1.2.2|||(1#64<<<o.user.toNat)):=GW.2 ⟨Mf h.r hT,xq.2 fun i hi=>by
  rw [Eu hm64,decide_eq_true_eq] at hi
  rw [Lh hus,decide_eq_true_eq]
  omega⟩
 have hhs:eU ((ovE (evT o b.grants) b.rules).1.2.2|||(1#64<<<o.user.toNat)) o.user=true:=by
  unfold eU
  rw [BitVec.getLsbD_or,Eu hm64]
  simp only [NK,decide_eq_true_eq,decide_true,Bool.or_true,and_true]
  omega
 have hus2:eU (db b.users).1 o.user=true:=by
  rw [qd (by omega)]
  simp only [NK,decide_eq_true_eq]
  omega
 rw [yq h hm ht]
 unfold kT
 dsimp only
 rw [if_neg (by omega),if_neg (by rw [hm,hus2];decide),if_neg (by rw [hT];decide),if_neg (by rw [hhs,decide_eq_true (show _ &&& ~~~(db b.users).1=0#64 from hto)];decide)]
theorem IM {b:Bk} {o:Ox} (h:BkOk b) (hs:b.step≠1099511627776):BkOk (fK b o):=by
 have hst:=h.s
 unfold fK
 refine ⟨h.u,h.e,h.r,h.g,?_,⟨by dsimp only;omega,by dsimp only;omega⟩,?_,CZ h.lr⟩
 ·
  dsimp only
  split
  ·
   rename_i hc
   have h1:=sV.1 h.l
   exact sV.2 ⟨h1.1,rK h1.2.1 (Nk h hc.2 (nK hc.1)),h1.2.2⟩
  ·
   exact h.l
 ·
  dsimp only
  split
  ·
   rename_i hc
   rw [C0,yq h hc.2 (nK hc.1),decide_eq_false_iff_not]
   dsimp only
   omega
  ·
   exact C8 h.le
theorem um {o:Ox} (h:opE o=0) (hk:o.kind≠3):o.input=au:=by
 unfold opE at h
 split at h
 ·
  cases h
 rename_i h1
 have h2:o=mY o:=Classical.not_not.1 fun hn=>h1 (.inr (.inr hn))
 have h3:=congrArg Ox.input h2
 rw [h3]
 unfold mY
 split
 ·
  rfl
 ·
  first|(dsimp only;done)|(dsimp only;rw [if_neg hk])
theorem Mj {o:Ox} (h:opE o=0) (hk:o.kind=8):1≤o.fns∧o.fns≤31:=by
 unfold opE at h
 split at h
 ·
  cases h
 rw [if_neg (show ¬ (o.kind=3∨o.kind=6) by omega)] at h
 try rw [if_pos hk] at h
 by_cases hc:o.fns<1∨31<o.fns
 ·
  rw [if_pos hc] at h;cases h
 ·
  omega
theorem MD {b c:Bk} {o:Ox} (h:BkOk c) (e1:c.users=b.users) (e2:c.rules=b.rules) (e3:c.grants=b.grants) (ht: ∀ j,j<8→tst b o j=false):BkOk (fZ c o):=by
 have hop:=Cd (ht 0 (by decide))
 have hu:=pJ (ht 1 (by decide))
 have hwi:=HE (ht 3 (by decide))
 have h7:=ht 7 (by decide)
 unfold fZ
 split
 ·
  rename_i hk
  have hr:=lg (ht 2 (by decide)) (by omega)
  have hs:=cN.1 hr
  obtain ⟨k1,k2⟩:=w8.1 h.e
  refine ⟨h.u,w8.2 ⟨Aq (k1.sublist List.filter_sublist) fun e he hn=> ?_,fun e he=> ?_⟩,h.r,h.g,h.l,h.s,h.le,h.lr⟩
  ·
   have h1:=(QD.1 he).2
   unfold eK at h1
   rw [hn] at h1
   have h2:di o.rect (toO o)=true:=dc.2 ⟨OW _,hs.2.1,OW _,hs.2.2.2.2.1⟩
   rw [h2] at h1;cases h1
  ·
   rcases I2 he with he|⟨rfl,hne⟩
   ·
    exact k2 e (QD.1 he).1
   ·
    have hk3:o.kind=3:=Classical.not_not.1 fun hn=>hne (um hop hn)
    have h6:=ht 6 (by decide)
    simp only [tst,hk3,decide_true,O8,decide_eq_false_iff_not] at h6
    refine ⟨?_,hne,Decidable.not_not.1 h6⟩
    show valid o.rect.c1 o.rect.r1=true
    rw [qC];omega
 split
 ·
  rename_i hk
  have hr:=lg (ht 2 (by decide)) (by omega)
  have h1:=qt.1 h.r
  simp [tst,hk] at h7
  have hlen:c.rules.length+1≤64:=by rw [e2];omega
  refine ⟨h.u,h.e,qt.2 ⟨h1.1,by simp,by simpa using hlen,?_,fun r hm=> ?_⟩,h.g,h.l,h.s,h.le,h.lr⟩
  ·
   dsimp only
   cases hcr:c.rules with
   |nil=>exact absurd hcr h1.2.1
   |cons a l=>rw [hcr] at h1;exact h1.2.2.2.1
  ·
   rcases Ol.1 hm with hm|hm
   ·
    exact h1.2.2.2.2 r hm
   ·
    rw [Ov.1 hm]
    exact ⟨hr,by rw [e1];exact hwi.1⟩
 split
 ·
  rename_i hk
  have hr:=lg (ht 2 (by decide)) (by omega)
  have h1:=n9.1 h.g
  simp [tst,hk] at h7
  have hlen:c.grants.length+1≤64:=by rw [e3];omega
  have hf:=Mj hop hk
  refine ⟨h.u,h.e,h.r,n9.2 ⟨h1.1,by simpa using hlen,fun g hm=> ?_⟩,h.l,h.s,h.le,h.lr⟩
  rcases Ol.1 hm with hm|hm
  ·
   exact h1.2.2 g hm
  ·
   rw [Ov.1 hm]
   exact ⟨hr,(uK h.u).2 ⟨hf,by rw [e1];exact hwi.2,hu.1,by rw [e1];exact hu.2⟩⟩
 split
 ·
  rename_i hk
  have h1:=n9.1 h.g
  refine ⟨h.u,h.e,h.r,n9.2 ?_,h.l,h.s,h.le,h.lr⟩
  dsimp only
  unfold Ku
  cases hg:c.grants[o.idx.toNat]? with
  |none=>exact h1
  |some g=>
   dsimp only
   refine ⟨h1.1,by rw [PX];exact h1.2.1,fun x hx=> ?_⟩
   rcases List.mem_or_eq_of_mem_set hx with hx|rfl
   ·
    exact h1.2.2 x hx
   ·
    have h2:=h1.2.2 g (P2 hg)
    exact ⟨h2.1,h2.2⟩
 ·
  exact h
theorem Bu {b:Bk} {o:Ox} (h:BkOk b) (hs:b.step≠1099511627776):BkOk (apE b o).1∧(apE b o).2.2.2=0:=by
 unfold apE
 rw [if_neg (by rw [dz.2 h];decide),if_neg hs]
 split
 ·
  exact ⟨IM h hs,rfl⟩
 ·
  rename_i hc
  exact ⟨MD (IM h hs) rfl rfl rfl (EU (Decidable.not_not.1 hc)),rfl⟩
theorem AF {o:Ox} {a:Rf} (h:di o.rect a=false): ∀ L:List Et,(L.filter (eK o)).find? (fun e=>decide (e.at_=a))=L.find? (fun e=>decide (e.at_=a))
 | []=>rfl
 |e::L=>by
  have ih:=AF h L
  rw [Qz]
  by_cases he:e.at_=a
  ·
   have hd:eK o e=true:=by unfold eK;rw [he,h];rfl
   rw [if_pos hd,P0,P0,decide_eq_true he]
  ·
   rw [show (e::L).find? (fun e=>decide (e.at_=a))=L.find? (fun e=>decide (e.at_=a)) from by rw [P0,decide_eq_false he]]
   split
   ·
    rw [P0,decide_eq_false he];exact ih
   ·
    exact ih
theorem KX {o:Ox} {a:Rf} (h:di o.rect a=true) (L:List Et):(L.filter (eK o)).find? (fun e=>decide (e.at_=a))=none:=by
 rw [Qa]
 intro e he hd
 have h1:=(QD.1 he).2
 rw [decide_eq_true_eq] at hd
 unfold eK at h1
 rw [hd,h] at h1
 cases h1
theorem Je {L:List Et} {o:Ox} {a:Rf} (h:a≠toO o):(ma L o).find? (fun e=>decide (e.at_=a))=L.find? (fun e=>decide (e.at_=a)):=by
 unfold ma
 split
 ·
  rfl
 ·
  rw [List.find?_append,P0,decide_eq_false (fun e=>h (Eq.symm e))]
  dsimp only
  rw [← List.find?_append,OE]
theorem KO {L:List Et} {o:Ox} {a:Rf} (h:di o.rect a=false) (hr:di o.rect (toO o)=true):mf a (ma (L.filter (eK o)) o)=mf a L:=by
 have hne:a≠toO o:=fun e=>by rw [← e,h] at hr;cases hr
 unfold mf
 rw [Je hne,AF h]
theorem I3 {L:List Et} {o:Ox} {a:Rf} (h:di o.rect a=true) (ht:a=toO o∨o.input=au):mf a (ma (L.filter (eK o)) o)=o.input:=by
 have hf:=KX h L
 unfold mf
 by_cases hi:o.input=au
 ·
  unfold ma
  rw [if_pos hi,hf,hi]
 ·
  have e:=ht.resolve_right hi
  unfold ma
  rw [if_neg hi,List.find?_append]
  have h1:((L.filter (eK o)).take (CL (L.filter (eK o)) (toO o))).find? (fun e=>decide (e.at_=a))=none:=by
   rw [Qa] at hf ⊢
   exact fun e he=>hf e (OO he)
  rw [h1,P0,decide_eq_true (show (⟨toO o,o.input⟩:Et).at_=a from e.symm)]
  rfl
theorem wL {a:Rf} {L:List Rl} {r:Rl}: ∀ n,n≤L.length→lD a (L++ [r]) n=lD a L n
 |0,_=>rfl
 |n+1,h=>by
  rw [lD,lD,OP (by omega),wL n (by omega)]
theorem uD (a:Rf) (L:List Rl) (r:Rl):fV (L++ [r]) a=if di r.rect a=true then L.length else fV L a:=by
 unfold fV
 rw [ND,NG,lD,OC (NJ _),Qp,wL _ (NJ _)]
 rfl
theorem MA {a:Rf} {L:List Rl} {r:Rl} (h:di r.rect a=true):atR a (L++ [r])=(r.read,r.write,r.own):=by
 unfold atR
 rw [uD,if_pos h,OC (NJ _),Qp]
 rfl
theorem Lf {a:Rf} {L:List Rl} {r:Rl} (hL:L≠ []) (h:di r.rect a=false):atR a (L++ [r])=atR a L:=by
 unfold atR
 rw [uD,if_neg (by rw [h];decide),OP (Ai hL)]
theorem JM {L:List Rl} (h:(eL 64 L).2=0) {a:Rf} (ha:a.valid=true):atE a L=(atR a L,0):=by
 have hw:(rT a L).2=0:=by
  unfold rT
  rw [if_neg (by rw [ha];decide),if_neg (by rw [h];decide)]
 unfold atE
 rw [if_neg (by rw [hw];decide)]
end Go.SL
namespace Go.SL
open Go Go.Proofs
attribute [local irreducible] W WL WQ WG WA WX WLI WR WT WC WE VOp RW thn blk bG scp bg bi bT aQ FnIn FnP ceP
theorem AL {all:BitVec 64}: ∀ {L:List Ev} {last:Int},eu all last L=0→ ∀ x∈L,x.step≤mC last L
 | [],_,_,x,hx=>by cases hx
 |y::L,last,h,x,hx=>by
  rw [iD] at h
  split at h
  ·
   rename_i h2;exact absurd h h2
  have hmono: ∀ {L:List Ev} {a:Int},eu all a L=0→a≤mC a L:=by
   intro L
   induction L with
   |nil=>intro a _;exact OW _
   |cons z L ih=>
    intro a h
    rw [iD] at h
    split at h
    ·
     rename_i h2;exact absurd h h2
    rename_i h2
    have h3:=ih h
    have h4: ¬ z.step≤a:=fun h5=>by
     have h6:=Classical.not_not.1 h2
     unfold kT at h6
     rw [if_pos h5] at h6
     cases h6
    show a≤mC z.step L
    omega
  show x.step≤mC y.step L
  rcases NS.1 hx with rfl|hx
  ·
   exact hmono h
  ·
   exact AL h x hx
def rL (last:Int):List Rv→Int
 | []=>last
 |x::l=>rL x.step l
theorem AZ: ∀ (L:List Rv) (last:Int),rL last L=if L.length=0 then last else ((L[L.length - 1]?).map Rv.step).getD 0
 | [],_=>rfl
 | [x],_=>rfl
 |x::y::L,last=>by
  have ih:=AZ (y::L) x.step
  rw [show rL last (x::y::L)=rL x.step (y::L) from rfl,ih]
  simp
theorem zr {all:BitVec 64}: ∀ {L:List Rv} {last:Int},fG all last L=0→ ∀ x∈L,x.step≤rL last L
 | [],_,_,x,hx=>by cases hx
 |y::L,last,h,x,hx=>by
  rw [o5] at h
  split at h
  ·
   rename_i h2;exact absurd h h2
  have hmono: ∀ {L:List Rv} {a:Int},fG all a L=0→a≤rL a L:=by
   intro L
   induction L with
   |nil=>intro a _;exact OW _
   |cons z L ih=>
    intro a h
    rw [o5] at h
    split at h
    ·
     rename_i h2;exact absurd h h2
    rename_i h2
    have h3:=ih h
    have h4: ¬ z.step<a:=fun h5=>by
     have h6:=Classical.not_not.1 h2
     unfold o4 at h6
     rw [if_pos h5] at h6
     cases h6
    show a≤rL z.step L
    omega
  show x.step≤rL y.step L
  rcases NS.1 hx with rfl|hx
  ·
   exact hmono h
  ·
   exact zr h x hx
theorem FZ {all:BitVec 64} {s:Int} {L:List Ev} (h:eu all (-1) L=0):iZ s L=false↔ ∀ x∈L,x.step<s:=by
 have h1:=AL h
 rw [uT] at h1
 unfold iZ
 by_cases hl:0<L.length
 ·
  rw [if_pos hl,decide_eq_false_iff_not]
  rw [if_neg (by omega)] at h1
  constructor
  ·
   intro h2 x hx
   have:=h1 x hx
   omega
  ·
   intro h2 h3
   have hlt:L.length - 1<L.length:=by omega
   have h4:=h2 _ (OD hlt)
   rw [NE hlt] at h3
   simp only [OM,P5] at h3
   omega
 ·
  rw [if_neg hl]
  have:L= []:=Pk.1 (by omega)
  subst this
  simp
theorem FX {all:BitVec 64} {s:Int} {L:List Rv} (h:fG all (-1) L=0):lC s L=false↔ ∀ x∈L,x.step<s:=by
 have h1:=zr h
 rw [AZ] at h1
 unfold lC
 by_cases hl:0<L.length
 ·
  rw [if_pos hl,decide_eq_false_iff_not]
  rw [if_neg (by omega)] at h1
  constructor
  ·
   intro h2 x hx
   have:=h1 x hx
   omega
  ·
   intro h2 h3
   have hlt:L.length - 1<L.length:=by omega
   have h4:=h2 _ (OD hlt)
   rw [NE hlt] at h3
   simp only [OM,P5] at h3
   omega
 ·
  rw [if_neg hl]
  have:L= []:=Pk.1 (by omega)
  subst this
  simp
set_option maxHeartbeats 16000000 in
theorem fT (b:Bk) (x:Bv) (w:World) (h:BRd w b x) (hlen:b.ents.length≤1000000):ax Tryz.prog 21 [.agg (aW b x).toArray] w (.int .i64 (bkE b)):=by
 have hent:=fun (w' :World) (H:List Blk) (hm:Mem w w' H)=>vF b.ents _ w' (h.e.of_w0 hm) hlen
 have hacl:=fun (w' :World) (H:List Blk) (hm:Mem w w' H)=>oN b.users b.rules _ w' (h.r.of_w0 hm)
 have hgnt:=fun (w' :World) (H:List Blk) (hm:Mem w w' H)=>vH b.users b.grants _ w' (h.g.of_w0 hm)
 have haud:=fun (w' :World) (H:List Blk) (hm:Mem w w' H)=>vG b.users b.log b.rels _ _ w' (h.l.of_w0 hm) (h.s.of_w0 hm)
 refine aq Tryz.func21 rfl Tryz.ntmps21 rfl ?_
 unfold bkE
 obtain ⟨Al,cl,el,hl1,hl2,hl3⟩:=h.l
 obtain ⟨Am,cm,em,hm1,hm2,hm3⟩:=h.s
 have hl3' :0<b.log.length→ ∃ g o,x.al=some ⟨g,o,none⟩∧Ro w g o (b.log.flatMap aL):=by
  cases el
  exact hl3
 have hm3' :0<b.rels.length→ ∃ g o,x.as_=some ⟨g,o,none⟩∧Ro w g o (b.rels.flatMap bU):=by
  cases em
  exact hm3
 have hLm:b.log.length≤maxLen:=Ok hl1 hl2
 have hMm:b.rels.length≤maxLen:=Ok hm1 hm2
 clear hl1 hl2 hl3 hm1 hm2 hm3 el em
 have hlE:=fun (hz:qZ b.users b.log b.rels=0)=>FZ (s:=b.step) (sV.1 hz).2.1
 have hlR:=fun (hz:qZ b.users b.log b.rels=0)=>FX (s:=b.step) (sV.1 hz).2.2
 generalize fA b.ents=ce at hent ⊢
 generalize eL b.users b.rules=ae at hacl ⊢
 generalize kR b.users b.grants=ge at hgnt ⊢
 generalize qZ b.users b.log b.rels=ue at haud hlE hlR ⊢
 obtain ⟨us,E,RU,G,L,M,st⟩:=b
 obtain ⟨ae1,ar1,ag1,al1,as1,ce1,cr1,cg1,cl1,cs1⟩:=x
 dsimp only at*
 simp only [aW] at*
 generalize iZ st L=le at hlE ⊢
 generalize lC st M=lr at hlR ⊢
 repeat' (first|(apply aa (f:=66);exact rfl;exact rfl;(intro w' hm;exact hent w' _ hm))|(apply aa (f:=65);exact rfl;exact rfl;(intro w' hm;exact hacl w' _ hm))|(apply aa (f:=67);exact rfl;exact rfl;(intro w' hm;exact hgnt w' _ hm))|(apply aa (f:=68);exact rfl;exact rfl;(intro w' hm;exact haud w' _ hm))|refine sT ?_|refine sS ?_|refine sN ?_|refine sM fun _=> ?_|(refine sC ?_ ?_<;>intro hb<;>try omega)|fail)
 all_goals first
  |(exfalso;omega)
  |((refine rT1 ?_);simp_all;done)
  |((refine rT1 ?_);simp_all;omega)
  |skip
 rename_i g1 _ _ _ _ _ _ _
 have hue:ue=0:=Decidable.not_not.1 (show ¬ (ue≠0) by assumption)
 have hlE1:=hlE hue
 have hlR1:=hlR hue
 rw [if_neg (by omega),if_neg (show ¬ (ce.2≠0) by assumption),if_neg (show ¬ (ae.2≠0) by assumption),if_neg (show ¬ (ge.2≠0) by assumption),if_neg (show ¬ (ue≠0) by assumption),if_neg (by omega)]
 clear hlE hlR hent hacl hgnt haud
 refine ay [1] rfl (fun i:Nat=> [(10,.int .i64 (i:Int))]) (fun _=> [.box g1 28 [.int .i64 us,.slice ae1 E.length ce1,.slice ar1 RU.length cr1,.slice ag1 G.length cg1,.slice al1 L.length cl1,.slice as1 M.length cs1,.int .i64 st]]) (fun i=>i≤L.length∧ ∀ j (h:j<L.length),j<i→L[j].step<st) (fun i=>L.length - i) 0 ⟨NY _,fun j _ h=>absurd h (Nat.not_lt_zero _)⟩ sB mS ?_
 rintro i ⟨hi,hall⟩
 by_cases hlt:i<L.length
 ·
  obtain ⟨gl,ol,rfl,hrl⟩:=hl3' (by omega)
  have he:=(Ev.ro (hrl.elem bw i hlt)).1
  have hnx:L[i].step<st→ ∀ j (h:j<L.length),j<i+1→L[j].step<st:=fun hs j hj hji=>by
   by_cases e:j=i
   ·
    subst e;exact hs
   ·
    exact hall j hj (by omega)
  have hbad:st≤L[i].step→le=true:=fun hs=>by
   cases hle:le with
   |true=>rfl
   |false=>exact absurd (hlE1.1 hle _ (OD hlt)) (by omega)
  generalize L[i].step=sp at he hnx hbad
  repeat' (first|(apply aK;exact rfl;apply aj (j:=i);exact rfl;exact rfl;exact hlt)|refine sT ?_|refine sS ?_|refine sQ ?_|refine sN ?_|refine sNQ ?_|refine sO ?_|refine sOQ ?_|refine sD ?_|refine sM fun _=> ?_|(refine sC ?_ ?_<;>intro hb<;>try omega)|(refine sCQ ?_ ?_<;>intro hb<;>try omega)|fail)
  all_goals first
   |(exfalso;omega)
   |((refine rT1 ?_);rw [if_pos (hbad (by omega))];done)
   |(refine ⟨i+1,⟨hlt,hnx (by omega)⟩,by omega,by exact sB,by exact sB,by exact mS⟩;done)
   |trace_state
 have hle:le=false:=hlE1.2 fun x hx=>by
  obtain ⟨j,hj,rfl⟩:=PG hx
  exact hall j hj (by omega)
 rw [hle,if_neg (by decide)]
 repeat' (first|refine sT ?_|refine sS ?_|refine sN ?_|refine sM fun _=> ?_|(refine sC ?_ ?_<;>intro hb<;>try omega)|fail)
 all_goals try (exfalso;omega)
 refine ay [1] rfl (fun i:Nat=> [(11,.int .i64 (i:Int))]) (fun _=> [.box g1 28 [.int .i64 us,.slice ae1 E.length ce1,.slice ar1 RU.length cr1,.slice ag1 G.length cg1,.slice al1 L.length cl1,.slice as1 M.length cs1,.int .i64 st]]) (fun i=>i≤M.length∧ ∀ j (h:j<M.length),j<i→M[j].step<st) (fun i=>M.length - i) 0 ⟨NY _,fun j _ h=>absurd h (Nat.not_lt_zero _)⟩ sB mS ?_
 rintro k ⟨hk,hall2⟩
 by_cases hltk:k<M.length
 ·
  obtain ⟨gm,om,rfl,hrm⟩:=hm3' (by omega)
  have he:=Rv.ro1 (hrm.elem eF k hltk)
  have hnx:M[k].step<st→ ∀ j (h:j<M.length),j<k+1→M[j].step<st:=fun hs j hj hji=>by
   by_cases e:j=k
   ·
    subst e;exact hs
   ·
    exact hall2 j hj (by omega)
  have hbad:st≤M[k].step→lr=true:=fun hs=>by
   cases hlr:lr with
   |true=>rfl
   |false=>exact absurd (hlR1.1 hlr _ (OD hltk)) (by omega)
  generalize M[k].step=sp at he hnx hbad
  repeat' (first|(apply aK;exact rfl;apply aj (j:=k);exact rfl;exact rfl;exact hltk)|refine sT ?_|refine sS ?_|refine sQ ?_|refine sN ?_|refine sNQ ?_|refine sO ?_|refine sOQ ?_|refine sD ?_|refine sM fun _=> ?_|(refine sC ?_ ?_<;>intro hb<;>try omega)|(refine sCQ ?_ ?_<;>intro hb<;>try omega)|fail)
  all_goals first
   |(exfalso;omega)
   |((refine rT1 ?_);rw [if_pos (hbad (by omega))];done)
   |(refine ⟨k+1,⟨hltk,hnx (by omega)⟩,by omega,by exact sB,by exact sB,by exact mS⟩;done)
   |trace_state
 have hlr:lr=false:=hlR1.2 fun x hx=>by
  obtain ⟨j,hj,rfl⟩:=PG hx
  exact hall2 j hj (by omega)
 rw [hlr,if_neg (by decide)]
 repeat' (first|refine sT ?_|refine sS ?_|refine sN ?_|refine sM fun _=> ?_|(refine sC ?_ ?_<;>intro hb<;>try omega)|fail)
 all_goals first|(exfalso;omega)|((refine rT1 ?_);rfl)|trace_state
def Df:Bk:=⟨3,Jc,bkR,[],[],[],0⟩
theorem yJ (w:World):aQ Tryz.prog 11 [] w fun v H=> ∃ a:Bo,v= .agg (aW Df a.v).toArray∧H=bz Df a:=by
 refine aq Tryz.func11 rfl Tryz.ntmps11 rfl ?_
 refine aP 56 8 ?_
 refine aP 48 9 ?_
 refine aP 70 11 ?_
 repeat' (first|(apply aG (f:=49);exact rfl;exact rfl;(intro w' hm;exact GH w');rintro _ _ ⟨ge,gr,gn,rfl,rfl⟩)|refine sT ?_|refine sS ?_|refine sM fun _=> ?_|(refine sC ?_ ?_<;>intro hb<;>try omega)|fail)
 exact zz (.inl rfl) rfl rfl pK rfl (H' :=bz Df ⟨some ge,some gr,none,none,none,6,2,0,0,0⟩) (by unfold bz;exact mS) ⟨⟨some ge,some gr,none,none,none,6,2,0,0,0⟩,rfl,rfl⟩
def JF (c r:Int):Rct:=⟨c,r,c,r⟩
theorem Gi (c r:Int) (w:World):ax Tryz.prog 13 [.int .i64 c,.int .i64 r] w (.agg (bQ (JF c r)).toArray):=by
 refine aq Tryz.func13 rfl Tryz.ntmps13 rfl ?_
 repeat' (first|refine sT ?_|refine sM fun _=> ?_|(refine sC ?_ ?_<;>intro hb<;>try omega)|fail)
 (refine eRC ?_)
 rfl
def jf (b:Bk):Bool:=
 decide (b.ents.length≤40) && (decide (b.rules.length≤10)||(decide ((eL b.users b.rules).2≠0) && decide (b.rules.length<70))) && (decide (b.grants.length≤10)||(decide (64<b.grants.length) && decide (b.grants.length<70))) && decide (b.log.length≤60) && decide (b.rels.length≤60)
theorem jC {b:Bk} (h:jf b=true):b.ents.length≤40∧b.rules.length<70∧b.grants.length<70∧b.log.length≤60∧b.rels.length≤60:=by
 simp only [jf,NK,Pn,decide_eq_true_eq] at h
 omega
set_option maxHeartbeats 8000000 in
theorem jY (b:Bk) (x:Bv) (w:World) (h:BRd w b x):ax Tryz.prog 20 [.agg (aW b x).toArray] w (.bool (jf b)):=by
 refine aq Tryz.func20 rfl Tryz.ntmps20 rfl ?_
 have h1:=fun (w' :World) (H:List Blk) (hm:Mem w w' H)=>oN b.users b.rules _ w' (h.r.of_w0 hm)
 unfold jf
 generalize eL b.users b.rules=ae at h1 ⊢
 obtain ⟨us,E,RU,G,L,M,st⟩:=b
 obtain ⟨ae1,ar1,ag1,al1,as1,ce1,cr1,cg1,cl1,cs1⟩:=x
 dsimp only at*
 clear h
 simp only [aW]
 generalize E.length=nE
 generalize RU.length=nR at h1 ⊢
 generalize G.length=nG
 generalize L.length=nL
 generalize M.length=nM
 repeat' (first|(apply aa (f:=65);exact rfl;exact rfl;(intro w' hm;exact h1 w' _ hm))|refine sT ?_|refine sS ?_|refine sM fun _=> ?_|(refine sC ?_ ?_<;>intro hb<;>try omega)|fail)
 all_goals first
  |(exfalso;omega)
  |((refine rT1 ?_);refine congrArg Value.bool (Om.2 ?_);simp only [NK,Pn,decide_eq_true_eq,OT,true_iff,false_iff];omega)
  |trace_state
def M8:Ox:=⟨3,1,JF 3 3,⟨#[55]⟩,0#64,0#64,0#64,0,0#64,0⟩
section
variable (ov:Rct→List Rl→(BitVec 64 × BitVec 64 × BitVec 64) × Int)
def Nx (b:Bk) (o:Ox):Bool:=
 if o.kind=3∨o.kind=4 then !eU (ov o.rect b.rules).1.2.1 o.user
 else if o.kind=6 then !eU (ov o.rect b.rules).1.1 o.user
 else if o.kind=7∨o.kind=8 then !eU (ov o.rect b.rules).1.2.2 o.user
 else if o.kind=9 then (match b.grants[o.idx.toNat]? with|some g=>decide (g.by_≠o.user) && !eU (ov g.rect b.rules).1.2.2 o.user|none=>false)
 else false
def cdV (b:Bk) (o:Ox):Int × Int:=
 if tst b o 0 then (1,0) else if tst b o 1 then (2,0) else if tst b o 2 then (4,0) else if tst b o 3 then (2,0) else if tst b o 4 then (8,0)
 else if Nx ov b o then (5,0) else if tst b o 6 then (6,(ofP o.input).2.1) else if tst b o 7 then (7,0) else (0,0)
def evV (step:Int) (x:Ox) (dn:Bool) (L:List Rl) (N:List Gn):Ev × Int:=
 if dh x.kind=false then (jb,2)
 else if step<0∨opE x≠0∨x.user<0∨64≤x.user then (jb,2)
 else if (eL 64 L).2≠0 then (jb,(eL 64 L).2)
 else if (kR 64 N).2≠0 then (jb,(kR 64 N).2)
 else if x.kind=9∧(x.idx<0∨(N.length:Int)≤x.idx) then (jb,6)
 else if aF (evT x N)=false then (jb,3)
 else (⟨step,x.user,x.kind,evT x N,dn,(ov (evT x N) L).1.2.2|||(ofS x.user).1⟩,0)
def M9 (b:Bk) (o:Ox) (c:Int):Bk:=
 ⟨b.users,b.ents,b.rules,b.grants,if (c=0∨c=5)∧dh o.kind=true then b.log++ [(evV ov b.step o (decide (c=0)) b.rules b.grants).1] else b.log,b.rels,b.step+1⟩
def apW (b:Bk) (o:Ox) (c:Int × Int):Bk × Int × Int × Int:=
 if c.1≠0 then (M9 ov b o c.1,c.1,c.2,0) else (fZ (M9 ov b o c.1) o,0,0,0)
def apV (b:Bk) (o:Ox):Bk × Int × Int × Int:=
 if bkE b≠0 then (jc,0,0,bkE b)
 else if b.step=1099511627776 then (jc,0,0,5)
 else apW ov b o (cdV ov b o)
end
theorem MB (b:Bk) (o:Ox):apE b o=apV ovC b o:=by rw [← Mg];rfl
theorem Nr {b:Bk} {o:Ox} {b' :Bk} {x:Int × Int × Int} (h:F7 (apV ovC b o).1 b' =true) (h2:(apV ovC b o).2=x):apE b o=(b',x):=by
 rw [MB]
 exact Prod.ext (Jl.1 h) h2
def JL:Bk:=⟨3,[⟨⟨1,1⟩,⟨#[53]⟩⟩,⟨⟨2,1⟩,⟨#[49,48]⟩⟩,⟨⟨1,2⟩,inB⟩,⟨⟨2,2⟩,⟨#[50,48]⟩⟩,⟨⟨1,3⟩,inC⟩,⟨⟨3,3⟩,⟨#[55]⟩⟩,⟨⟨1,4⟩,inD⟩],bkR,[],[⟨0,1,3,JF 3 3,true,3#64⟩],[],1⟩
set_option maxRecDepth 100000 in
theorem DB:apE Df M8=(JL,0,0,0):=Nr (by decide+kernel) (by decide+kernel)
set_option maxRecDepth 100000 in
theorem DA:Au JL ⟨3,3⟩=(⟨#[55]⟩,0):=by decide+kernel
set_option maxHeartbeats 8000000 in
theorem jX (w:World) (hW:Words w):ax Tryz.prog 24 [] w (.bool true):=by
 refine aq Tryz.func24 rfl Tryz.ntmps24 rfl ?_
 have hC:=fun w=>Gi 3 3 w
 have hs:Small Df:=⟨by decide,by decide,by decide,by decide,by decide⟩
 have hs2:JL.ents.length≤1000000:=by decide
 have hA:=fun (a:Bo) (w' :World) (H:List Blk) (hm:Mem w w' H) (h:BRd w' Df a.v)=>DB ▸ lJ Df a.v M8 w' h (hW.next hm) hs
 have hI:=fun (a:Bo) (w' :World) (H:List Blk) (hm:Mem w w' H) (h:BRd w' JL a.v)=>DA ▸ pw JL a.v ⟨3,3⟩ w' h (hW.next hm) hs2
 repeat' (first|(apply aG (f:=11);exact rfl;exact rfl;(intro w' hm;exact yJ w');rintro _ _ ⟨a,rfl,rfl⟩)|(apply aa;exact rfl;exact rfl;(intro w hm;exact hC w))|(apply aG (f:=14);exact rfl;exact rfl;(intro w' hm;exact hA a w' _ hm (BRd.of_rows hm pK pK pK pK pK));rintro _ _ ⟨a2,rfl,rfl⟩)|(apply aa (f:=19);exact rfl;exact rfl;(intro w' hm;exact hI a2 w' _ hm (BRd.of_rows hm pK pK pK pK pK)))|(apply ak (d:=32);exact rfl;apply xF (b:=(⟨#[55]⟩:ByteArray));exact rfl;exact rfl)|refine sT ?_|refine sS ?_|refine sM fun _=> ?_|(refine sC ?_ ?_<;>intro hb<;>try omega)|fail)
 all_goals first|(exfalso;omega)|((refine rT1 ?_);rfl)|trace_state
theorem BG (L M:List Ev) (lv mv:Value) (w:World) (hl:Reads w lv L.length (L.flatMap aL)) (hm:Reads w mv M.length (M.flatMap aL)):
  ax Tryz.prog 15 [lv,mv] w (.bool (decide (L=M))):=by
 obtain ⟨Al,cl,rfl,hl1,hl2,hl3⟩:=hl
 obtain ⟨Am,cm,rfl,hm1,hm2,hm3⟩:=hm
 refine aq Tryz.func15 rfl Tryz.ntmps15 rfl ?_
 by_cases hlen:L.length=M.length
 ·
  repeat' (first|refine sT ?_|refine sS ?_|refine sM fun _=> ?_|(refine sC ?_ ?_<;>intro hb<;>try omega)|fail)
  refine fC (fun i:Nat=> [(0,.slice Al L.length cl),(1,.slice Am M.length cm),(5,.int .i64 (i:Int))]) (fun _=> []) (fun i=>i≤L.length∧decide (L=M)=decide (L.drop i=M.drop i)) (fun i=>L.length - i) 0 ⟨by omega,rfl⟩ ?_ ?_ ?_
  ·
   exact sB
  ·
   exact mS
  ·
   rintro i ⟨hi,hrec⟩
   by_cases hlt:i<L.length
   ·
    have hlt2:i<M.length:=by omega
    obtain ⟨gl,ol,rfl,hrl⟩:=hl3 (by omega)
    obtain ⟨gm,om,rfl,hrm⟩:=hm3 (by omega)
    have he1:=hrl.elem bw i hlt
    have he2:=hrm.elem bw i hlt2
    rw [iT hlt hlt2,← AY] at hrec
    repeat' (first|(apply aK;exact rfl;apply aj;exact rfl;exact rfl;(first|exact hlt|exact hlt2))|(apply aK;exact rfl;apply aA;exact rfl;(first|exact he1|exact he2);exact rfl)|(apply aK;exact rfl;apply Eg;exact rfl;exact rfl)|(apply ak;exact rfl;apply dg;exact rfl;exact rfl;(simp only [maxLen] at*;omega))|refine sT ?_|refine sS ?_|refine sQ ?_|refine sD ?_|refine sM fun _=> ?_|(refine sC ?_ ?_<;>intro hb<;>try omega)|(refine sCQ ?_ ?_<;>intro hb<;>try omega)|fail)
    all_goals first
     |(exfalso;omega)
     |((refine rT1 ?_);rw [hrec];simp_all;done)
     |(refine ⟨i+1,⟨by omega,?_⟩,by omega,by exact sB,by exact mS⟩;rw [hrec];simp_all;done)
     |trace_state
   ·
    have e:i=L.length:=by omega
    subst e
    repeat' (first|refine sT ?_|refine sS ?_|refine sM fun _=> ?_|(refine sC ?_ ?_<;>intro hb<;>try omega)|fail)
    (refine rT1 ?_)
    rw [hrec,NW,hlen,NW]
    rfl
 ·
  repeat' (first|refine sT ?_|refine sS ?_|refine sM fun _=> ?_|(refine sC ?_ ?_<;>intro hb<;>try omega)|fail)
  (refine rT1 ?_)
  rw [decide_eq_false]
  intro e
  exact hlen (congrArg List.length e)
theorem BD (L M:List Gn) (lv mv:Value) (w:World) (hl:Reads w lv L.length (L.flatMap bA)) (hm:Reads w mv M.length (M.flatMap bA)):
  ax Tryz.prog 17 [lv,mv] w (.bool (decide (L=M))):=by
 obtain ⟨Al,cl,rfl,hl1,hl2,hl3⟩:=hl
 obtain ⟨Am,cm,rfl,hm1,hm2,hm3⟩:=hm
 refine aq Tryz.func17 rfl Tryz.ntmps17 rfl ?_
 by_cases hlen:L.length=M.length
 ·
  repeat' (first|refine sT ?_|refine sS ?_|refine sM fun _=> ?_|(refine sC ?_ ?_<;>intro hb<;>try omega)|fail)
  refine fC (fun i:Nat=> [(0,.slice Al L.length cl),(1,.slice Am M.length cm),(5,.int .i64 (i:Int))]) (fun _=> []) (fun i=>i≤L.length∧decide (L=M)=decide (L.drop i=M.drop i)) (fun i=>L.length - i) 0 ⟨by omega,rfl⟩ ?_ ?_ ?_
  ·
   exact sB
  ·
   exact mS
  ·
   rintro i ⟨hi,hrec⟩
   by_cases hlt:i<L.length
   ·
    have hlt2:i<M.length:=by omega
    obtain ⟨gl,ol,rfl,hrl⟩:=hl3 (by omega)
    obtain ⟨gm,om,rfl,hrm⟩:=hm3 (by omega)
    have he1:=hrl.elem cX i hlt
    have he2:=hrm.elem cX i hlt2
    rw [iT hlt hlt2,← AW] at hrec
    repeat' (first|(apply aK;exact rfl;apply aj;exact rfl;exact rfl;(first|exact hlt|exact hlt2))|(apply aK;exact rfl;apply aA;exact rfl;(first|exact he1|exact he2);exact rfl)|(apply aK;exact rfl;apply Ef;exact rfl;exact rfl)|(apply ak;exact rfl;apply dg;exact rfl;exact rfl;(simp only [maxLen] at*;omega))|refine sT ?_|refine sS ?_|refine sQ ?_|refine sD ?_|refine sM fun _=> ?_|(refine sC ?_ ?_<;>intro hb<;>try omega)|(refine sCQ ?_ ?_<;>intro hb<;>try omega)|fail)
    all_goals first
     |(exfalso;omega)
     |((refine rT1 ?_);rw [hrec];simp_all;done)
     |(refine ⟨i+1,⟨by omega,?_⟩,by omega,by exact sB,by exact mS⟩;rw [hrec];simp_all;done)
     |trace_state
   ·
    have e:i=L.length:=by omega
    subst e
    repeat' (first|refine sT ?_|refine sS ?_|refine sM fun _=> ?_|(refine sC ?_ ?_<;>intro hb<;>try omega)|fail)
    (refine rT1 ?_)
    rw [hrec,NW,hlen,NW]
    rfl
 ·
  repeat' (first|refine sT ?_|refine sS ?_|refine sM fun _=> ?_|(refine sC ?_ ?_<;>intro hb<;>try omega)|fail)
  (refine rT1 ?_)
  rw [decide_eq_false]
  intro e
  exact hlen (congrArg List.length e)
end Go.SL
