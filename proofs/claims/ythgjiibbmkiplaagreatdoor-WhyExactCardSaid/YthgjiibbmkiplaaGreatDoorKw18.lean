/-
  Lemmas and walks, put together: Lu Pl2 Pl3.
-/
import Derived.Test.YthgjiibbmkiplaaGreatDoorKw15
import Derived.Test.YthgjiibbmkiplaaGreatDoorKw17
set_option linter.unusedSimpArgs false
set_option linter.unusedVariables false
set_option maxRecDepth 20000
namespace Go.SL
open Go
theorem Oh (G:Gr) (a:Rf) (b:ByteArray):(qD G a b).1.length≤G.length+1:=by
 unfold qD;split
 ·exact Nat.le_succ _
 ·split
  ·exact Nat.le_succ _
  ·split
   ·exact XU (XS _ _) (Nat.le_succ _)
   ·simp only [I8,Xa,Xs];have:(G.filter fun e=>bE e.1 a).length+(G.filter fun e=>bE a e.1).length≤G.length:=by
     induction G with
     |nil=>simp
     |cons e r ih=>
      simp only [YA,Xs];cases h1:bE e.1 a
      ·cases h2:bE a e.1<;>simp<;>omega
      ·rw [vG h1];simp;omega
    omega
structure DnI (G:Gr) (c:Rf) (seen todo:List Rf):Prop where
 nodup:seen.Nodup
 sound: ∀ d∈seen,d∈ap G∧Rc G c (cE d.col d.row)
 from_: ∀ x∈todo,x=c∨x∈seen
 full: ∀ x,(x=c∨x∈seen)→x∈todo∨ ∀ u∈aG G x,∀ d∈ap G,aI u.rect d=true→d∈seen
theorem DnI.start (G:Gr) (c:Rf):DnI G c [] [c]:=⟨ZM,(fun _ h=>by cases h),(fun x h=> .inl (Xl.1 h)),fun x h=>by
 rcases h with rfl|h
 ·exact .inl Xb
 ·cases h⟩
theorem DnI.add {G:Gr} (hG:GrOk G) {c:Rf} {seen todo:List Rf} {x d:Rf} {u:Us} (h:DnI G c seen (x::todo)) (hu:u∈aG G x) (hd:d∈ap G) (hh:aI u.rect d=true) (hn:d∉seen):
 DnI G c (seen++ [d]) (x::(todo++ [d])):=by
 have hx:x∈ap G:=by
  obtain ⟨e,he,h1,_⟩:=su hu;exact iH.2 ⟨e,he,h1⟩
 have ht:bi (aG G x) (cE d.col d.row)=true:=XQ.2 ⟨u,hu,by rw [oH hG hu hd];exact hh⟩;refine ⟨YK.2 ⟨h.nodup,by simp,fun a ha b hb e=>hn (by rw [← Xl.1 hb,← e];exact ha)⟩,fun y hy=> ?_,fun y hy=> ?_,fun y hy=> ?_⟩
 ·rcases Xr.1 hy with hy|hy
  ·exact h.sound y hy
  ·rw [Xl.1 hy];refine ⟨hd,?_⟩;rcases h.from_ x Xb with rfl|hs
   ·exact .use hx ht
   ·exact Rc.trans (h.sound x hs).2 hx (.use hx ht)
 ·rcases Xt.1 hy with rfl|hy
  ·exact (h.from_ y Xb).imp id (Xw _)
  ·rcases Xr.1 hy with hy|hy
   ·exact (h.from_ y (Xp _ hy)).imp id (Xw _)
   ·exact .inr (XB _ hy)
 ·have hold:(y=c∨y∈seen)→y∈x::(todo++ [d])∨ ∀ u∈aG G y,∀ e∈ap G,aI u.rect e=true→e∈seen++ [d]:=fun hy=>by
   rcases h.full y hy with h1|h1
   ·left
    rcases Xt.1 h1 with rfl|h1
    ·exact Xb
    ·exact Xp _ (Xw _ h1)
   ·exact .inr fun u hu e he hh=>Xw _ (h1 u hu e he hh)
  rcases hy with hy|hy
  ·exact hold (.inl hy)
  ·rcases Xr.1 hy with hy|hy
   ·exact hold (.inr hy)
   ·exact .inl (Xp _ (XB _ hy))
theorem DnI.pop {G:Gr} {c:Rf} {seen todo:List Rf} {x:Rf} (h:DnI G c seen (x::todo)) (hall: ∀ u∈aG G x,∀ d∈ap G,aI u.rect d=true→d∈seen):DnI G c seen todo:=by
 refine ⟨h.nodup,h.sound,fun y hy=>h.from_ y (Xp _ hy),fun y hy=> ?_⟩;rcases h.full y hy with h1|h1
 ·rcases Xt.1 h1 with rfl|h1
  ·exact .inr hall
  ·exact .inl h1
 ·exact .inr h1
theorem DnI.done {G:Gr} (hG:GrOk G) {c:Rf} {seen:List Rf} (h:DnI G c seen []) (d:Rf):d∈seen↔d∈gM G c:=by
 rw [iJ];refine ⟨h.sound d,fun ⟨hd,hr⟩=> ?_⟩;have hstep: ∀ x e,(x=c∨x∈seen)→e∈ap G→bi (aG G x) (cE e.col e.row)=true→e∈seen:=fun x e hx he ht=>by
  obtain ⟨u,hu,h1⟩:=XQ.1 ht;rw [oH hG hu he] at h1;rcases h.full x hx with h2|h2
  ·cases h2
  ·exact h2 u hu e he h1
 have hgo: ∀ x r,Rc G x r→(x=c∨x∈seen)→r=cE d.col d.row→d∈seen:=fun x r hx=>by
  induction hx with
  |use hc ht=>intro h1 h2;subst h2;exact hstep _ _ h1 hd ht
  |via hc he ht _ ih=>intro h1 h2;exact ih (.inr (hstep _ _ h1 he ht)) h2
 exact hgo c _ hr (.inl rfl) rfl
theorem DnI.len {G:Gr} (hG:SortG G) {c:Rf} {seen todo:List Rf} (h:DnI G c seen todo):seen.length≤G.length:=by
 have hp:seen.Perm ((ap G).filter fun a=>decide (a∈seen)):=jq h.nodup (hG.nodup.filter _) fun a=>by
  rw [XM,decide_eq_true_eq];exact ⟨fun ha=>⟨(h.sound a ha).1,ha⟩,fun ha=>ha.2⟩
 have h1:=hp.length_eq;have h2:=XS (fun a=>decide (a∈seen)) (ap G);have h3:(ap G).length=G.length:=by rw [ap,Xq]
 omega
open Go.Proofs Go.Shelf Go.Sort
def i9:List Rct→List Rct
 | []=> []
 |a::l=>if l.head? =some a then i9 l else a::i9 l
theorem BK (x:Rct): ∀ l:List Rct,i9 (l++ [x])=if l.getLast? =some x then i9 l else i9 l++ [x]
 | []=>by simp [i9]
 | [a]=>by
  by_cases h:x=a
  ·subst h;simp [i9]
  ·have h2: ¬ a=x:=fun e=>h e.symm;simp [i9,h,h2]
 |a::b::l=>by
  have ih:=BK x (b::l);have h0: ∀ l,i9 (a::l)=if l.head? =some a then i9 l else a::i9 l:=fun _=>rfl;have hh:(b::l++ [x]).head? =(b::l).head? :=rfl;rw [List.getLast?_cons_cons,Xc,h0,h0,hh,ih];by_cases h1:(b::l).head? =some a
  ·simp only [h1,if_true]
  ·simp only [h1,if_false];split<;>rfl
theorem BJ {L:List Rct} {j:Nat} (h:j<L.length) (h0:0<j):i9 (L.take (j+1))=if L[j]=L[j - 1] then i9 (L.take j) else i9 (L.take j)++ [L[j]]:=by
 have h1:L.take (j+1)=L.take j++ [L[j]]:=by rw [Xk h]
 have h2:(L.take j).getLast? =some L[j - 1]:=by
  rw [Zx,XA,YO (by omega),List.getElem?_take_of_lt (by omega),Xf (by omega)]
 rw [h1,BK,h2];simp only [Option.some.injEq,eq_comm]
theorem GU {L:List Rct} (h:L.length≤1):i9 L=L:=by
 match L,h with
 | [],_=>rfl
 | [a],_=>rfl
theorem mo {x:Rct}: ∀ {l:List Rct},x∈i9 l↔x∈l
 | []=>Iff.rfl
 |a::l=>by
  rw [i9];split
  ·rename_i h;rw [mo (l:=l),Xt];exact ⟨.inr,fun h2=>h2.elim (fun e=>by subst e;exact List.mem_of_mem_head? h) id⟩
  ·rw [Xt,Xt,mo (l:=l)]
theorem GV: ∀ l:List Rct,(i9 l).length≤l.length
 | []=>Xy _
 |a::l=>by
  have:=GV l;rw [i9];split<;>simp only [Xs]<;>omega
theorem O3 {a b:Rct} (h:ltOf cj b a=false) (hn:a≠b):ltOf cj a b=true:=by
 cases h2:ltOf cj a b
 ·exact absurd (N0 _ _ h2 h) hn
 ·rfl
theorem pE: ∀ {l:List Rct},l.Pairwise (fun x y=>ltOf cj y x=false)→(i9 l).Pairwise fun x y=>ltOf cj x y=true
 | [],_=> .nil
 |a::l,h=>by
  have h1:=XG.1 h;have ih:=pE h1.2;rw [i9];split
  ·exact ih
  ·rename_i hh;refine XG.2 ⟨fun y hy=> ?_,ih⟩;have hyl:=mo.1 hy;refine O3 (h1.1 y hyl) fun e=> ?_;subst e
   cases l with
   |nil=>cases hyl
   |cons b l=>
    have hb:b≠a:=fun e=>hh (by rw [e];rfl);rcases Xt.1 hyl with e|hm
    ·exact hb e.symm
    ·have h3:=(XG.1 h1.2).1 a hm;have h4:=h1.1 b Xb;exact hb (N0 _ _ h4 h3)
theorem jJ (L:List Rct):(sortRc L).Perm L:=Zg L _
theorem qJ (L:List Rct):(sortRc L).Pairwise fun x y=>ltOf cj y x=false:=by
 have h:=aai (le:=fun x y=> !(ltOf cj y x)) (fun a b c h1 h2=>by
  simp only [Y4] at*;exact xR.ntrans _ _ _ h2 h1) (fun a b=>by
  cases h1:ltOf cj b a
  ·simp
  ·cases h2:ltOf cj a b
   ·simp
   ·have:=xR.trans _ _ _ h1 h2;rw [xR.irrefl] at this;cases this) L
 exact h.imp fun h=>by simpa using h
theorem Gx {L M:List Rct} (h:L.Pairwise fun x y=>ltOf cj x y=true) (k:M.Pairwise fun x y=>ltOf cj x y=true) (hm: ∀ a,a∈L↔a∈M):L=M:=by
 have hn: ∀ {L:List Rct},(L.Pairwise fun x y=>ltOf cj x y=true)→L.Nodup:=fun h=>h.imp fun h e=>by
  rw [e,xR.irrefl] at h;cases h
 have hp:L.Perm M:=(List.perm_ext_iff_of_nodup (hn h) (hn k)).2 hm;refine List.Perm.eq_of_pairwise (fun a b _ _ h1 h2=> ?_) h k hp;have:=xR.trans _ _ _ h1 h2;rw [xR.irrefl] at this;cases this
noncomputable def dl (G:Gr) (c:Rf):List Rct:=i9 (sortRc ((c::gM G c).flatMap fun x=>(aG G x).map fun u=>u.rect))
theorem oW (G:Gr) (c:Rf):(dl G c).Pairwise fun x y=>ltOf cj x y=true:=pE (qJ _)
theorem eP {G:Gr} {c:Rf} {r:Rct}:r∈dl G c↔ ∃ x,(x=c∨x∈gM G c)∧ ∃ u∈aG G x,u.rect=r:=by
 unfold dl;rw [mo,(jJ _).mem_iff,XL];simp only [Xt,Xu]
theorem Mc {G:Gr} {c:Rf} {M:List Rct} (h: ∀ r,r∈M↔ ∃ x,(x=c∨x∈gM G c)∧ ∃ u∈aG G x,u.rect=r):i9 (sortRc M)=dl G c:=by
 refine Gx (pE (qJ _)) (oW G c) fun a=> ?_;rw [mo,(jJ _).mem_iff,h,eP]
end Go.SL
