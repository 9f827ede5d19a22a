/-
  Lemmas and walks, put together: Hc Sl30 Sl26 Sl40.
-/
import Derived.Ground.SlgmProg
import Derived.Shelf.SortM.Plain
import Derived.Shelf.SortM.SortNone
import Derived.Test.YtpoafcnhplbkmaaGreatDoorKs03
set_option linter.unusedSimpArgs false
set_option linter.unusedVariables false
set_option maxRecDepth 20000
set_option maxHeartbeats 16000000
namespace Go.Proofs
open Go Go.Shelf Go.RowKit Go.Lib Go.Sort Go.SL
def Tryz.sortIn_ren:Go.Shelf.Ren:=⟨fun|5=>41|8=>86|7=>85|19=>131|20=>132|10=>122|11=>123|12=>124|13=>125|14=>126|15=>127|16=>128|17=>129|18=>130|30=>173|31=>174|32=>175|33=>176|34=>177|35=>171|40=>230|n=>n,fun|23=>68|25=>3|3=>3|32=>159|22=>68|0=>0|44=>209|46=>49|4=>4|36=>202|35=>201|41=>76|5=>5|9=>9|53=>245|57=>249|63=>292|64=>293|n=>n,fun|n=>n⟩
theorem Tryz.sortIn:Go.Proofs.SlLaysM.n5 Tryz.prog Tryz.sortIn_ren:={
 mixed:=by kernel_rfl
 f5:=⟨Tryz.f41.name,by decide,Tryz.func41.trans (congrArg some (by kernel_rfl))⟩
 f7:=⟨Tryz.f85.name,by decide,Tryz.func85.trans (congrArg some (by kernel_rfl))⟩
 f8:=Tryz.func86.trans (congrArg some (by kernel_rfl))
 f10:=⟨Tryz.f122.name,by decide,Tryz.func122.trans (congrArg some (by kernel_rfl))⟩
 f11:=⟨Tryz.f123.name,by decide,Tryz.func123.trans (congrArg some (by kernel_rfl))⟩
 f12:=⟨Tryz.f124.name,by decide,Tryz.func124.trans (congrArg some (by kernel_rfl))⟩
 f13:=⟨Tryz.f125.name,by decide,Tryz.func125.trans (congrArg some (by kernel_rfl))⟩
 f14:=⟨Tryz.f126.name,by decide,Tryz.func126.trans (congrArg some (by kernel_rfl))⟩
 f15:=⟨Tryz.f127.name,by decide,Tryz.func127.trans (congrArg some (by kernel_rfl))⟩
 f16:=⟨Tryz.f128.name,by decide,Tryz.func128.trans (congrArg some (by kernel_rfl))⟩
 f17:=⟨Tryz.f129.name,by decide,Tryz.func129.trans (congrArg some (by kernel_rfl))⟩
 f18:=⟨Tryz.f130.name,by decide,Tryz.func130.trans (congrArg some (by kernel_rfl))⟩
 f19:=Tryz.func131.trans (congrArg some (by kernel_rfl))
 f20:=Tryz.func132.trans (congrArg some (by kernel_rfl))
 f30:=⟨Tryz.f173.name,by decide,Tryz.func173.trans (congrArg some (by kernel_rfl))⟩
 f31:=Tryz.func174.trans (congrArg some (by kernel_rfl))
 f32:=Tryz.func175.trans (congrArg some (by kernel_rfl))
 f33:=⟨Tryz.f176.name,by decide,Tryz.func176.trans (congrArg some (by kernel_rfl))⟩
 f34:=⟨Tryz.f177.name,by decide,Tryz.func177.trans (congrArg some (by kernel_rfl))⟩
 f35:=⟨Tryz.f171.name,by decide,Tryz.func171.trans (congrArg some (by kernel_rfl))⟩
 f40:=⟨Tryz.f230.name,by decide,Tryz.func230.trans (congrArg some (by kernel_rfl))⟩
 t0:=Tryz.underlying0
 a0:=Tryz.isAgg0
 z0:=Tryz.sizeOf0
 v0:=Tryz.zeroValue0
 t3:=Tryz.underlying3
 a3:=Tryz.isAgg3
 z3:=Tryz.sizeOf3
 v3:=Tryz.zeroValue3
 t4:=Tryz.underlying4
 a4:=Tryz.isAgg4
 z4:=Tryz.sizeOf4
 v4:=Tryz.zeroValue4
 t5:=Tryz.underlying5
 a5:=Tryz.isAgg5
 z5:=Tryz.sizeOf5
 v5:=Tryz.zeroValue5
 t9:=Tryz.underlying9
 a9:=Tryz.isAgg9
 z9:=Tryz.sizeOf9
 v9:=Tryz.zeroValue9
 t22:=Tryz.underlying68
 a22:=Tryz.isAgg68
 z22:=Tryz.sizeOf68
 v22:=Tryz.zeroValue68
 t23:=Tryz.underlying68
 a23:=Tryz.isAgg68
 z23:=Tryz.sizeOf68
 v23:=Tryz.zeroValue68
 t25:=Tryz.underlying3
 a25:=Tryz.isAgg3
 z25:=Tryz.sizeOf3
 v25:=Tryz.zeroValue3
 t32:=Tryz.underlying159
 a32:=Tryz.isAgg159
 z32:=Tryz.sizeOf159
 v32:=Tryz.zeroValue159
 t35:=Tryz.underlying201
 a35:=Tryz.isAgg201
 z35:=Tryz.sizeOf201
 v35:=Tryz.zeroValue201
 t36:=Tryz.underlying202
 a36:=Tryz.isAgg202
 z36:=Tryz.sizeOf202
 v36:=Tryz.zeroValue202
 t41:=Tryz.underlying76
 a41:=Tryz.isAgg76
 z41:=Tryz.sizeOf76
 v41:=Tryz.zeroValue76
 t44:=Tryz.underlying209
 a44:=Tryz.isAgg209
 z44:=Tryz.sizeOf209
 v44:=Tryz.zeroValue209
 t46:=Tryz.underlying49
 a46:=Tryz.isAgg49
 z46:=Tryz.sizeOf49
 v46:=Tryz.zeroValue49
 t53:=Tryz.underlying245
 a53:=Tryz.isAgg245
 z53:=Tryz.sizeOf245
 v53:=Tryz.zeroValue245
 t57:=Tryz.underlying249
 a57:=Tryz.isAgg249
 z57:=Tryz.sizeOf249
 v57:=Tryz.zeroValue249
 t63:=Tryz.underlying292
 a63:=Tryz.isAgg292
 z63:=Tryz.sizeOf292
 v63:=Tryz.zeroValue292
 t64:=Tryz.underlying293
 a64:=Tryz.isAgg293
 z64:=Tryz.sizeOf293
 v64:=Tryz.zeroValue293 }
end Go.Proofs
namespace Go.SL
open Go Go.Proofs Go.Sort Go.Shelf
theorem tE {α:Type} [Inhabited α] {enc:α→Value} (w:World) (g n:Nat) (d:Array α) (os:Array Obj):w.grownBy (grow (putRow enc (Sort.ahead w n) g 0 d) os) (some g):={
 os:=rfl
 tape:=rfl
 output:=rfl
 size:=by
  show w.heap.size≤((w.heap.modify g _)++os).size;rw [Array.size_append,Ue];omega
 block k hk hne:=by
  show ((w.heap.modify g _)++os)[k]? =_;rw [SH (by rw [Ue];exact hk),TN,if_neg (fun e=>hne (by rw [e]))] }
theorem vO {α:Type} [Inhabited α] {enc:α→Value} (w:World) (g n:Nat) (d:Array α) (os:Array Obj) (c:Array Value) (T:TypeId) (fr:Nat × Nat) (h:w.heap[g]? =some (.cells c T fr)):
 (grow (putRow enc (Sort.ahead w n) g 0 d) os).heap[g]? =some (.cells (putCells enc 0 d c) T fr):=by
 have hlt:g<w.heap.size:=(RQ.1 h).1;show ((w.heap.modify g _)++os)[g]? =_;rw [SH (by rw [Ue];exact hlt),TN,if_pos rfl,h]
 rfl
theorem Fz (L:List Int) (xs junk:List Value) (hl:xs.length=L.length):putCells xR 0 L.toArray (xs++junk).toArray=(L.map xR++junk).toArray:=by
 apply UN;intro j;simp only [putCells,U2,RX,Ti,QZ,true_and,Rv,Td];by_cases hj:j<L.length
 ·rw [RC (by omega),RC (by rw [RA];omega),Rj,QU (by omega),QU hj];simp [hj]
 ·rw [RM (by omega),RM (by rw [RA];omega),hl,RA];simp [hj]
theorem Cp (L:List Int) (A:Option Nat) (cap:Nat) (hL:L.length≤1000000) (R:List Blk) (w0:World):
 FnIn Tryz.prog 41 [sl A L.length cap] w0 (.own A 3 1 L.length cap (L.map xR)::R) fun v H=>v= .tuple #[]∧H= .own A 3 1 L.length cap ((qI L).map xR)::R:=by
 have hl:(qI L).length=L.length:=(E3 L).length_eq
 cases A with
 |none=>
  intro w hm;obtain ⟨⟨h1,h2,h3,h4⟩,_⟩:=hm.on _ QY;obtain ⟨h5,h6⟩:=h4;have hnil:L= []:=TD.1 h5;subst hnil;subst h6;have he:qI []= []:=TD.1 hl;refine Calls.mono (AnyM.slices_Sort_int_none Tryz.sortIn none 0 w) ?_;rintro e w' ⟨rfl,rfl⟩;exact ⟨_,_,rfl,hm,rfl,by rw [he]⟩
 |some g=>
  intro w hm;obtain ⟨⟨h1,h2,h3,junk,h4,h5⟩,hkk⟩:=hm.on _ QY;have hlt:g<w.heap.size:=(RQ.1 h5).1;have hH:Holds xR w g 0 L.toArray:=by
   intro j hj;simp only [Ti] at hj;have hc:(L.map xR++junk).toArray[j]? =some (xR L.toArray[j]!):=by
    rw [RX,RC (by rw [RA];exact hj),Rj,QU hj];simp [hj]
   constructor
   ·simp only [World.cell?,Rv,h5];exact hc
   ·simp [World.frozen?,h5]
  have hs:=AnyM.slices_Sort_int Tryz.sortIn g 0 cap L w hH hlt (by omega);refine hs.mono ?_;rintro e w' ⟨rfl,n,os,rfl⟩;refine ⟨_,_,rfl,hm.upd (tE _ _ _ _ _) (b' := .own (some g) 3 1 L.length cap ((qI L).map xR)) ?_ fun k hk=> .inl hk,rfl,rfl⟩;refine ⟨by rw [RA,hl,RV],h2,h3,junk,by rw [QT,RA,hl,← RV L.length,← h1,← QT];exact h4,?_⟩;have h6:=vO (enc:=xR) w g n (qI L).toArray os _ _ _ h5;rw [Fz (qI L) _ _ (by rw [hl,h1,RV])] at h6;exact h6
end Go.SL
namespace Go.SL
open Go Go.RowKit
theorem vV {P:Program} (w:World) (base:Nat) (t ty e:TypeId) (i:TypeInfo) (z:Value) (size bytes:Nat) (ht:P.underlying t=some (.slice e)) (hi:P.info? e=some i) (hz:i.zero=some z)
 (hsize:i.size=size) (hby:i.bytes=bytes) (hzs:z.cells.size=size) (hsz:0<size)
 (g n cap k off:Nat) (hk:k≤n) (hoff:k<cap→off=k*size) (xs:List Value) (hown:w.ownsRow base e size (.slice (some ⟨g,0,none⟩) n cap) n xs)
 (a:Addr) (m c:Nat) (news:List Value) (hl:news.length=m*size) (hnews: ∀ j u,news[j]? =some u→w.cell? (a.add j)=some u) (h1: ∀ u∈news,u.oneCell' =true) (hm0:0<m)
 (h63:n+m≤maxLen) (hbytes:(n+m)*bytes≤140737488355328) (hbase:base≤w.heap.size):
 ∃ v' w',(Builtin.append_ #[t,t] ty #[.slice (some ⟨g,off,none⟩) (n - k) (cap - k),.slice (some a) m c]).run P w= .ok v' w' ∧w.grownBy w' (some g)∧
  ((v' = .slice (some ⟨g, off, none⟩) (n - k + m) (cap - k) ∧ n + m ≤ cap ∧ w'.ownsRow base e size (.slice (some ⟨g, 0, none⟩) (n + m) cap) (n + m) (xs ++ news)) ∨
   (∃ cap',v' = .slice (some ⟨w.heap.size,0,none⟩) (n - k+m) cap' ∧w'.ownsRow base e size v' (n - k+m) (xs.drop (k*size)++news))):=by
 subst hsize;subst hby;obtain ⟨hxl,hown2⟩:=hown;rcases hown2 with ⟨h0,_⟩|⟨g',cap',cur,hv,hbg,hg,hnc,hcm,hcs,htake⟩
 ·cases h0
 injection hv with e1 e2 e3;injection e1 with e1;injection e1 with e1;subst e1;subst e3;have hsrc:Src P i.size t (.slice (some a) m c) m news w:=Src.ofSlice w ht a m c news hl hnews h1;have hlen:(xs++news).length=(n+m)*i.size:=by rw [QT,hxl,hl,Tg]
 by_cases hroom:n+m≤cap
 ·have hoff' :=hoff (by omega);subst hoff';have hfit:n*i.size+news.length≤cur.size:=by rw [hl,hcs,← Tg];exact Tn _ hroom
  have hkn:k*i.size+(n - k)*i.size=n*i.size:=by
   rw [← Tg];congr 1;omega
  have hr0:=run_append_room (P:=P) w t ty e i ht hi g n cap cur hg a m c news hl hnews h1 hroom hfit;have hcell: ∀ j,j<news.length→(w.cell? ⟨g,n*i.size+j,none⟩).isSome=true:=fun j hj=>by
   simp only [World.cell?,hg];rw [Array.getElem?_eq_getElem (by omega)]
   rfl
  have hfro: ∀ j,j<news.length→w.frozen? ⟨g,n*i.size+j,none⟩=false:=fun j hj=>by
   simp [World.frozen?,hg]
  have hr1:=run_append_room_src (P:=P) w t t ty e i ht hi g 0 n cap (.slice (some a) m c) m news hsrc hroom (by simpa using hcell) (by simpa using hfro);have hr2:=run_append_room_src (P:=P) w t t ty e i ht hi g (k*i.size) (n - k) (cap - k) (.slice (some a) m c) m news hsrc (by omega) (by rw [hkn];exact hcell) (by rw [hkn];exact hfro);rw [hkn] at hr2;rw [Rv] at hr1;have hw:=hr0.symm.trans hr1;injection hw with hw1 hw2;rw [← hw2] at hr2;refine ⟨_,_,hr2,⟨rfl,rfl,rfl,by simp,fun j _ hj=>setRow_other w g j _ (fun e=>hj (by rw [e]))⟩,.inl ⟨rfl,hroom,hlen,.inr ⟨g,cap,_,rfl,hbg,setRow_heap w g cur _ e _ hg,hroom,hcm,?_,?_⟩⟩⟩
  ·simp only [Ti,QT,RI,RE,Array.length_toList];omega
  ·rw [htake,← hlen];exact TQ
 ·have hol:(xs.drop (k*i.size)).length=(n - k)*i.size:=by rw [RE,hxl,← Nat.sub_mul]
  have hold:(Builtin.firstCells i.size (n - k) (.slice (some ⟨g,off,none⟩) (n - k) (cap - k))).run P w.drew= .ok (xs.drop (k*i.size)).toArray w.drew:=by
   by_cases hkn:n=k
   ·subst hkn;have e0:xs.drop (n*i.size)= []:=Sl (by rw [hol];simp);rw [e0];exact run_firstCells_some w.drew i.size (n - n) ⟨g,off,none⟩ (n - n) (cap - n) [] (by simp) (fun j u hu=>by simp at hu)
   ·have hoff' :=hoff (by omega);subst hoff';refine run_firstCells_some w.drew i.size (n - k) ⟨g,k*i.size,none⟩ (n - k) (cap - k) _ hol fun j u hu=> ?_;have hcc:w.cell? ((⟨g,0,none⟩:Addr).add (k*i.size+j))=some u:=by
     have hu' :xs[k*i.size+j]? =some u:=by rw [← Sw];exact hu
     exact World.ownsRow.cells (w:=w) (base:=base) (e:=e) (size:=i.size) (v:= .slice (some ⟨g,0,none⟩) n cap) (n:=n) (xs:=xs) ⟨hxl,.inr ⟨g,cap,cur,rfl,hbg,hg,hnc,hcm,hcs,htake⟩⟩ (g:=g) rfl _ _ hu'
    rw [dr] at hcc ⊢;simpa using hcc
  have hfits:Builtin.nextslicecap (n - k+m) (cap - k)*i.bytes≤281474976710656:=growslice_fits (by omega) (RD (Tn _ (by omega)) hbytes);have hr:=run_append_grow_src (P:=P) w t t ty e i z ht hi hz (some ⟨g,off,none⟩) (n - k) (cap - k) (xs.drop (k*i.size)) hold (.slice (some a) m c) m news hsrc (by omega) (by simp only [maxLen] at h63;omega) hfits;have hge:=grownCap_ge w (n - k+m) (cap - k) e;have hcm2:grownCap w (n - k+m) (cap - k) e≤maxLen:=grownCap_le_maxLen w (n - k+m) (cap - k) e (by omega);have hlen2:(xs.drop (k*i.size)++news).length=(n - k+m)*i.size:=by rw [QT,hol,hl,Tg]
  refine ⟨_,_,hr,⟨rfl,rfl,rfl,by simp,fun k hk _=>heap_alloc_old w.drew _ hk⟩,.inr ⟨_,rfl,hlen2,.inr ⟨w.heap.size,_,_,rfl,hbase,heap_alloc_new w.drew _,hge,hcm2,?_,?_⟩⟩⟩
  ·simp only [Array.size_append,Ti,size_zeroCells,hzs,hlen2,← Tg];congr 1;omega
  ·simp only [Array.toList_append,Rx];rw [← Rx,← hlen2];exact TQ
section
variable {P:Program} {n:Fr} {w0:World} {Q:bS} {s:az} {H:List Blk} {rest:List Oper} {ty:TypeId} {p:String} {af:Array Edge}
theorem u5 {d t e n' c k off g g2 sz by_:Nat} {x y:Operand} {xs news:List Value} {R:List Blk} {ops:Array Oper} [ht:Und P t (.slice e)] [he:Elem P e sz by_] (hn:Nat.blt d n.sz=true)
 (hx:ev s x=some (.slice (some ⟨g,off,none⟩) (n' - k) (c - k))) (hk:k≤n') (hoff:k<c→off=k*sz) (hy:ev s y=some (.slice (some ⟨g2,0,none⟩) 1 1)) (hsel:Sel (.own (some g) e sz n' c xs) H R)
 (hi:In (.own (some g2) e sz 1 1 news) H) (hl:news.length=sz) (h1: ∀ u∈news,u.oneCell' =true) (hby:(n' +1)*by_≤140737488355328) (h63:n' +1≤maxLen)
 (K: ∀ g' off' k' n2 c2 ys,k' ≤n2→(k' <c2→off' =k' *sz)→n2 - k' =n' - k+1→n2≤n' +1→ys.drop (k' *sz)=xs.drop (k*sz)++news→WL P n w0 ops rest Q ((d,.slice (some ⟨g',off',none⟩) (n2 - k') (c2 - k'))::s) (.own (some g') e sz n2 c2 ys::R)):
 WL P n w0 ops (⟨some d,.call { callee:= .builtin .append,args:= #[x,y],argTypes:= #[t,t] },ty,p,af,none⟩::rest) Q s H:=by
 intro a w hs hm;have hm' :=hm.sel hsel;obtain ⟨i,z,i1,i2,i3,i4,i5,i6⟩:=he.out;have hb:=(hm'.on _ QY);have hown:w.ownsRow w0.heap.size e sz (.slice (some ⟨g,0,none⟩) n' c) n' xs:=by
  obtain ⟨⟨b1,b2,b3,b4⟩,b5⟩:=hb;refine ⟨b1,?_⟩;obtain ⟨junk,j1,j2⟩:=b4;refine .inr ⟨g,c,_,rfl,b5 g rfl,j2,b2,b3,by simpa using j1,?_⟩;simp only [Ul];rw [← b1,TQ]
 have hxl:=hown.1
 obtain ⟨v',w',hr,hgr,hcase⟩:=vV (P:=P) w w0.heap.size t ty e i z sz by_ ht.out i1 i4 i2 i3 i5 i6 g n' c k off hk hoff xs hown ⟨g2,0,none⟩ 1 1 news (by omega)
  (fun j u hu=>by rw [dr];exact hm.cells_own hi j u hu) h1 (by omega) h63 hby hm.below.size
 have key: ∀ (G' N2 C2:Nat) (ys:List Value),w'.ownsRow w0.heap.size e sz (.slice (some ⟨G',0,none⟩) N2 C2) N2 ys→(Blk.own (some G') e sz N2 C2 ys).on w' :=by
  intro G' N2 C2 ys ho;obtain ⟨q1,q2⟩:=ho;rcases q2 with ⟨h0,_⟩|⟨g3,cap3,cur,hv,_,q4,q5,q6,q7,q8⟩
  ·cases h0
  ·injection hv with e1 e2 e3;injection e1 with e1;injection e1 with e1;subst e1;subst e3;refine ⟨q1,q5,q6,cur.toList.drop (N2*sz),?_,?_⟩
   ·rw [← q8,Sd];simpa using q7
   ·rw [← q8,Sd];simpa using q4
 refine wpList_plain rfl fun K' hK' => ?_;unfold Oper.wp execOp;simp only [resolve,invoke,builtin,Sem.run_bind,Sem.run_pure,Result.andThen_ok,Tp,RP,SE,hs.eval x _ hx,hs.eval y _ hy,hr,Oper.upon];rcases hcase with ⟨rfl,hroom,ho⟩|⟨cap',rfl,ho⟩
 ·have e1:n' - k+1=n' +1 - k:=by omega
  rw [e1] at*;refine hK' _ _ (K g off k (n' +1) c (xs++news) (by omega) hoff (by omega) (Rg _) ?_ _ _ (hs.put (Sa ▸ hn) _) (hm'.upd hgr (key _ _ _ _ ho) fun j hj=> .inl hj));exact UH (by rw [hxl];exact Tn _ hk)
 ·refine hK' _ _ (K w.heap.size 0 0 (n' - k+1) cap' (xs.drop (k*sz)++news) (QZ _) (fun _=>by simp) (by omega) (by omega) (by simp) _ _ (hs.put (Sa ▸ hn) _) (hm'.upd hgr (key _ _ _ _ (by simpa using ho)) fun j hj=> ?_))
  right
  simp only [Blk.key] at hj;injection hj with hj;omega
end
section
variable {P:Program} {ops:Array Oper} {es ps:List Nat} {C:World→Prop}
def NormUp (P:Program) (K:Value→World→Prop):Result Next→Prop
 | .ok (.value v) w' =>K v w'
 | .ok .skip w' =>K undef w'
 | .ok (.enter f args) w' =>Calls P f args w' fun e w'' => ∃ v,e= .returned v∧K v w''
 | .ok (.row row args) w' =>Rows P row args w' fun v w'' =>K v w''
 |_=>False
theorem NormUp.mono {K K' :Value→World→Prop} {r:Result Next} (h:NormUp P K r) (hk: ∀ v w,K v w→K' v w):NormUp P K' r:=by
 cases r with
 |ok x w' =>
  cases x<;>simp only [NormUp] at h ⊢
  case value v=>exact hk _ _ h
  case skip=>exact hk _ _ h
  case enter f args=>exact h.mono fun e w'' ⟨v,he,h1⟩=>⟨v,he,hk _ _ h1⟩
  case row f args=>exact Rows.mono h fun v w'' h1=>hk _ _ h1
 |halt x w' =>exact h
theorem NormUp.ex {K:Value→World→Prop} {r:Result Next} (h:NormUp P K r): ∃ v w',K v w' :=by
 cases r with
 |ok x w' =>
  cases x<;>simp only [NormUp] at h
  case value v=>exact ⟨_,_,h⟩
  case skip=>exact ⟨_,_,h⟩
  case enter f args=>
   obtain ⟨e,w1,fr,⟨v,_,h1⟩,_⟩:=h [];exact ⟨_,_,h1⟩
  case row f args=>
   obtain ⟨v,w1,h1,_⟩:=h (Frame.enter P 0 #[] .normal) [];exact ⟨_,_,h1⟩
 |halt x w' =>exact h.elim
theorem NormUp.upon {K:Act→World→Prop} {Q:Exit→Act→World→Prop} {o:Oper} {a:Act} {r:Result Next} (h:NormUp P (fun v w' =>K (a.put o.dst v) w') r):o.upon P a K Q r:=by
 cases r with
 |ok x w' =>
  cases x<;>simp only [NormUp] at h<;>simp only [Oper.upon]
  case value v=>exact h
  case skip=>exact h
  case enter f args=>
   refine h.mono fun e w'' ⟨v,he,h1⟩=> ?_;subst he;exact h1
  case row f args=>exact h
 |halt x w' =>exact h.elim
inductive EOp (P:Program) (ops:Array Oper) (es ps:List Nat) (C:World→Prop) (K:Act→World→Prop) (i:Nat) (o:Oper) (a:Act) (w:World):Prop
 |pass (hw:Region.wanted o (yielded ops a.tmps)=false) (hk:K (a.put o.dst undef) w)
 |quiet (hw:Region.wanted o (yielded ops a.tmps)=true) (hi:i∉es) (v:Value) (hr:(execOp a.eval o).run P w= .ok (.value v) w) (hst:i∈ps∨ ∀ w1,C w1→(execOp a.eval o).run P w1= .ok (.value v) w1) (hk:K (a.put o.dst v) w)
 |eff (hw:Region.wanted o (yielded ops a.tmps)=true) (hi:i∈es) (hk:NormUp P (fun v w' =>K (a.put o.dst v) w') ((execOp a.eval o).run P w))
def AnyE (P:Program) (ops:Array Oper) (es ps:List Nat) (C:World→Prop) (Q:Act→World→Prop):Nat→Array Bool→Act→World→Prop
 |0,L,a,w=>C w∧Region.ready .any ops L= []∧Q a w
 |f+1,L,a,w=>C w∧(Region.ready .any ops L= []→Q a w)∧ ∀ i∈Region.ready .any ops L,∃ o,ops[i]? =some o∧EOp P ops es ps C (AnyE P ops es ps C Q f (L.setIfInBounds i true)) i o a w
theorem AnyE.inC {Q:Act→World→Prop} {f:Nat} {L:Array Bool} {a:Act} {w:World} (h:AnyE P ops es ps C Q f L a w):C w:=by
 cases f with
 |zero=>exact h.1
 |succ f=>exact h.1
theorem gT {Q:Act→World→Prop} {Q' :Exit→Act→World→Prop} (hQ: ∀ a w,Q a w→Q' .normal a w): ∀ (f:Nat) (L:Array Bool) (a:Act) (w:World),AnyE P ops es ps C Q f L a w→wpAny P .any ops Q' f L a w
 |0,L,a,w,h=>⟨h.2.1,hQ _ _ h.2.2⟩
 |f+1,L,a,w,h=>⟨fun h0=>hQ _ _ (h.2.1 h0),fun i hi=>by
   obtain ⟨o,ho,hg⟩:=h.2.2 i hi;unfold wpOp;simp only [ho]
   cases hg with
   |pass hw hk=>
    simp only [hw,RY,if_false];exact gT hQ f _ _ _ hk
   |quiet hw _ v hr _ hk=>
    simp only [hw,if_true];refine .inl ?_;unfold Oper.wp;rw [hr];exact gT hQ f _ _ _ hk
   |eff hw _ hk=>
    simp only [hw,if_true];refine .inl ?_;unfold Oper.wp;exact NormUp.upon (hk.mono fun v w' h1=>gT hQ f _ _ _ h1)⟩
def ClosedL (ops:Array Oper) (L:Array Bool):Prop:= ∀ i o,ops[i]? =some o→L.getD i false=true→ ∀ e∈o.after,Region.binds .any e=true→L.getD e.on false=true
theorem ClosedL.set {L:Array Bool} (h:ClosedL ops L) {i:Nat} (hi:i∈Region.ready .any ops L):ClosedL ops (L.setIfInBounds i true):=by
 obtain ⟨_,oi,hoi,hall⟩:=mem_ready.1 hi;have up: ∀ j,L.getD j false=true→(L.setIfInBounds i true).getD j false=true:=fun j hj=>by
  by_cases e:i=j
  ·subst e;have:i<L.size:=by
    rcases SW i L.size with h1|h1
    ·exact h1
    ·rw [RZ,TI h1] at hj;cases hj
   simp [this]
  ·rw [getD_set_ne false e];exact hj
 intro j o ho hj e he hb;by_cases hij:i=j
 ·subst hij;rw [hoi] at ho;injection ho with ho;subst ho;exact up _ (hall e he hb)
 ·rw [getD_set_ne false hij] at hj;exact up _ (h j o ho hj e he hb)
def uS (ops:Array Oper) (i j:Nat):Prop:= ∀ L,ClosedL ops L→i∈Region.ready .any ops L→j∈Region.ready .any ops L→False
theorem EOp.of_put {K K' :Act→World→Prop} {i:Nat} {oi oj:Oper} {a:Act} {w:World} {u:Value} (hap:oi.apart ops oj=true) (hsi: ∀ cs b,oi.op≠ .select cs b)
 (h:EOp P ops es ps C K i oi a w) (hk: ∀ v w',K (a.put oi.dst v) w' →K' ((a.put oj.dst u).put oi.dst v) w'):EOp P ops es ps C K' i oi (a.put oj.dst u) w:=by
 obtain ⟨h1,h2,h3⟩:=Oper.apart_spec hap;have he:=execOp_put oi hsi a oj.dst u h3;have hw:=wanted_put oi a oj.dst u h3
 cases h with
 |pass hw' hk' =>exact .pass (hw.trans hw') (hk _ _ hk')
 |quiet hw' hi v hr hst hk' =>exact .quiet (hw.trans hw') hi v (by rw [he];exact hr) (by rw [he];exact hst) (hk _ _ hk')
 |eff hw' hi hk' =>exact .eff (hw.trans hw') hi (by rw [he];exact hk'.mono fun v w' h=>hk _ _ h)
theorem xL {Q:Act→World→Prop} {i:Nat} {oi:Oper} (hi:ops[i]? =some oi) (hsel: ∀ (j:Nat) (o:Oper) cs b,ops[j]? =some o→o.op≠ .select cs b)
 (hnb: ∀ x∈es,∀ y,y∈es∨y∈ps→x≠y→uS ops x y):
 ∀ (f:Nat) (L:Array Bool) (a:Act) (w:World),ClosedL ops L→C w→
  (∀ j oj,ops[j]? =some oj→j≠i→L.getD j true=false→(∀ e∈oj.after,Region.binds .any e=true→e.on≠i)→oi.apart ops oj=true)→
  i∈Region.ready .any ops L→EOp P ops es ps C (AnyE P ops es ps C Q f (L.setIfInBounds i true)) i oi a w→AnyE P ops es ps C Q (f+1) L a w
 |0,L,a,w,hcl,hC,_,hr,hy=>⟨hC,fun h=>(by rw [h] at hr;cases hr),fun j hj=>by
   by_cases hji:j=i
   ·subst hji;exact ⟨oi,hi,hy⟩
   ·exfalso;have hne:=ready_mono hj hji;have hE: ∃ a' w',AnyE P ops es ps C Q 0 (L.setIfInBounds i true) a' w' :=by
     cases hy with
     |pass _ hk=>exact ⟨_,_,hk⟩
     |quiet _ _ _ _ _ hk=>exact ⟨_,_,hk⟩
     |eff _ _ hk=>obtain ⟨v,w',h⟩:=hk.ex;exact ⟨_,_,h⟩
    obtain ⟨a',w',_,h0,_⟩:=hE;rw [h0] at hne;cases hne⟩
 |f+1,L,a,w,hcl,hC,hfree,hr,hy=>⟨hC,fun h=>(by rw [h] at hr;cases hr),fun j hj=>by
   by_cases hji:j=i
   ·subst hji;exact ⟨oi,hi,hy⟩
   ·have hj' :=ready_mono hj hji;obtain ⟨hjun,oj,hoj,hall⟩:=mem_ready.1 hj;have hnot: ∀ e∈oj.after,Region.binds .any e=true→e.on≠i:=fun e he hb heq=>by
     have h1:=hall e he hb;have h0:=(mem_ready.1 hr).1;rw [heq] at h1;rcases SW i L.size with h' |h'
     ·simp [h'] at h0 h1;rw [h0] at h1;cases h1
     ·simp [TI h'] at h1
    have hap:=hfree j oj hoj hji hjun hnot;obtain ⟨h1,h2,h3⟩:=Oper.apart_spec hap;have hsi:=fun cs b=>hsel i oi cs b hi;have hsj:=fun cs b=>hsel j oj cs b hoj;have hej: ∀ v,execOp (a.put oi.dst v).eval oj=execOp a.eval oj:=fun v=>execOp_put oj hsj a oi.dst v h1;have hwj: ∀ v,Region.wanted oj (yielded ops (a.put oi.dst v).tmps)=Region.wanted oj (yielded ops a.tmps):=fun v=>wanted_put oj a oi.dst v h1;have hcomm: ∀ v u,(a.put oi.dst v).put oj.dst u=(a.put oj.dst u).put oi.dst v:=fun v u=>Act.put_comm a v u h2;have hset:(L.setIfInBounds i true).setIfInBounds j true=(L.setIfInBounds j true).setIfInBounds i true:=Um _ _ (Ne.symm hji)
    have hfree' : ∀ k ok,ops[k]? =some ok→k≠i→(L.setIfInBounds j true).getD k true=false→
     (∀ e∈ok.after,Region.binds .any e=true→e.on≠i)→oi.apart ops ok=true:=fun k ok hk hki hun hno=>by
     refine hfree k ok hk hki ?_ hno;by_cases hjk:j=k
     ·subst hjk;exact hjun
     ·rw [getD_set_ne true hjk] at hun;exact hun
    have ih:=xL (Q:=Q) hi hsel hnb f (L.setIfInBounds j true);have hcl' :=hcl.set hj;have hr' :=ready_mono hr (Ne.symm hji)
    -- what comes of j behind an outcome of i
    have hJ: ∀ v w',AnyE P ops es ps C Q (f+1) (L.setIfInBounds i true) (a.put oi.dst v) w' →EOp P ops es ps C (AnyE P ops es ps C Q f ((L.setIfInBounds j true).setIfInBounds i true)) j oj (a.put oi.dst v) w' :=fun v w' h=>by
     obtain ⟨o,ho,hE⟩:=h.2.2 j hj';have e:o=oj:=Option.some.inj (ho.symm.trans hoj);subst e;rw [hset] at hE;exact hE
    refine ⟨oj,hoj,?_⟩
    have hstill:(∃ v,AnyE P ops es ps C Q (f+1) (L.setIfInBounds i true) (a.put oi.dst v) w∧ ∀ (u:Value) (w2:World) (K' :Act→World→Prop),C w2→(i∈ps→w2=w)→K' ((a.put oj.dst u).put oi.dst v) w2→EOp P ops es ps C K' i oi (a.put oj.dst u) w2)∨
     (Region.wanted oi (yielded ops a.tmps)=true∧i∈es∧NormUp P (fun v w' =>AnyE P ops es ps C Q (f+1) (L.setIfInBounds i true) (a.put oi.dst v) w') ((execOp a.eval oi).run P w)):=by
     cases hy with
     |pass hw hk=>exact .inl ⟨undef,hk,fun u w2 K' _ _ hk' => .pass ((wanted_put oi a oj.dst u h3).trans hw) hk'⟩
     |quiet hw hies v hrun hst hk=>
      refine .inl ⟨v,hk,fun u w2 K' hC2 hps hk' => ?_⟩;have he:=execOp_put oi hsi a oj.dst u h3;have hrun2:(execOp a.eval oi).run P w2= .ok (.value v) w2:=by
       rcases hst with h|h
       ·rw [hps h];exact hrun
       ·exact h w2 hC2
      exact .quiet ((wanted_put oi a oj.dst u h3).trans hw) hies v (by rw [he];exact hrun2) (by rw [he];exact hst) hk'
     |eff hw hies hk=>exact .inr ⟨hw,hies,hk⟩
    rcases hstill with ⟨v,hk,hS⟩|⟨hw,hies,hk⟩
    ·cases hJ v w hk with
     |pass hwj' hkj=>exact .pass ((hwj v).symm.trans hwj') (ih _ w hcl' hC hfree' hr' (hS undef w _ hC (fun _=>rfl) (by rw [← hcomm];exact hkj)))
     |quiet hwj' hjes u hrun hst hkj=>
      rw [hej] at hrun hst;exact .quiet ((hwj v).symm.trans hwj') hjes u hrun hst (ih _ w hcl' hC hfree' hr' (hS u w _ hC (fun _=>rfl) (by rw [← hcomm];exact hkj)))
     |eff hwj' hjes hkj=>
      rw [hej] at hkj;exact .eff ((hwj v).symm.trans hwj') hjes (hkj.mono fun u w2 hk2=>ih _ w2 hcl' hk2.inC hfree' hr' (hS u w2 _ hk2.inC (fun hps=>(hnb j hjes i (.inr hps) hji L hcl hj hr).elim) (by rw [← hcomm];exact hk2)))
    ·obtain ⟨v0,w1,h0⟩:=hk.ex
     cases hJ v0 w1 h0 with
     |pass hwj' hkj=>
      have hwa:=(hwj v0).symm.trans hwj';refine .pass hwa (ih _ w hcl' hC hfree' hr' (EOp.of_put hap hsi (.eff hw hies hk) fun v w' h=> ?_))
      cases hJ v w' h with
      |pass _ h' =>rw [← hcomm];exact h'
      |quiet hw2 _ _ _ _ _=>rw [hwj,hwa] at hw2;cases hw2
      |eff hw2 _ _=>rw [hwj,hwa] at hw2;cases hw2
     |quiet hwj' hjes u hrun hst hkj=>
      have hwa:=(hwj v0).symm.trans hwj';have hst2: ∀ w1,C w1→(execOp a.eval oj).run P w1= .ok (.value u) w1:=by
       rcases hst with h|h
       ·exact (hnb i hies j (.inr h) (Ne.symm hji) L hcl hr hj).elim
       ·rw [hej] at h;exact h
      refine .quiet hwa hjes u (hst2 w hC) (.inr hst2) (ih _ w hcl' hC hfree' hr' (EOp.of_put hap hsi (.eff hw hies hk) fun v w' h=> ?_))
      cases hJ v w' h with
      |pass hw2 _=>rw [hwj,hwa] at hw2;cases hw2
      |eff _ hjes2 _=>exact absurd hjes2 hjes
      |quiet _ _ u' hr2 hst' h' =>
       have hst3:(execOp a.eval oj).run P w= .ok (.value u') w:=by
        rcases hst' with h|h
        ·exact (hnb i hies j (.inr h) (Ne.symm hji) L hcl hr hj).elim
        ·have:=h w hC;rw [hej] at this;exact this
       rw [hst2 w hC] at hst3;injection hst3 with h4;injection h4 with h4;subst h4;rw [← hcomm];exact h'
     |eff hwj' hjes hkj=>exact (hnb i hies j (.inl hjes) (Ne.symm hji) L hcl hr hj).elim⟩
def wpE (P:Program) (ops:Array Oper) (es ps:List Nat) (C:World→Prop) (Q:Act→World→Prop):List Oper→Nat→Act→World→Prop
 | [],_,a,w=>C w∧Q a w
 |o::r,k,a,w=>C w∧EOp P ops es ps C (wpE P ops es ps C Q r (k+1)) k o a w
theorem EOp.mono {K K' :Act→World→Prop} {i:Nat} {o:Oper} {a:Act} {w:World} (h:EOp P ops es ps C K i o a w) (hk: ∀ a w,K a w→K' a w):EOp P ops es ps C K' i o a w:=by
 cases h with
 |pass h1 h2=>exact .pass h1 (hk _ _ h2)
 |quiet h1 h2 v h3 h4 h5=>exact .quiet h1 h2 v h3 h4 (hk _ _ h5)
 |eff h1 h2 h3=>exact .eff h1 h2 (h3.mono fun _ _ h=>hk _ _ h)
theorem Ew {Q:Act→World→Prop} (hs:Region.noSelect ops=true) (hnb: ∀ x∈es,∀ y,y∈es∨y∈ps→x≠y→uS ops x y): ∀ (l:List Oper) (k:Nat) (L:Array Bool) (a:Act) (w:World),(∀ j,l[j]? =ops[k+j]?)→ClosedL ops L→
 Region.lexFrom .any ops l.length k L=true→wpE P ops es ps C Q l k a w→AnyE P ops es ps C Q l.length L a w
 | [],_,_,_,_,_,_,hB,h=>⟨h.1,by simpa [Region.lexFrom] using hB,h.2⟩
 |o::l,k,L,a,w,hl,hcl,hB,h=>by
  have h0:ops[k]? =some o:=by simpa using (hl 0).symm
  simp only [Rk,Region.lexFrom,RB] at hB;obtain ⟨⟨hr,hf⟩,hB'⟩:=hB;have hr' :k∈Region.ready .any ops L:=by simpa using hr
  exact xL h0 (Region.noSelect_spec hs) hnb l.length L a w hcl h.1 (Region.free_spec h0 hf) hr'
   (h.2.mono fun a' w' h' =>Ew hs hnb l (k+1) _ _ _ (fun j=>by have:=hl (j+1);simpa [SC,Th 1 j] using this) (hcl.set hr') hB' h')
end
def before (l:List Oper) (i j:Nat):Bool:=match l[j]? with
 |some o=>(nN o).any fun q=>ju l l.length q i
 |none=>false
def Gf (l:List Oper) (es ps:List Nat):Bool:=es.all fun i=>(es++ps).all fun j=>Nat.beq i j||before l i j||before l j i
theorem ub {l:List Oper} {i j:Nat} {L:Array Bool} (h:before l i j=true) (hcl:ClosedL l.toArray L) (hj:j∈Region.ready .any l.toArray L) (hi:i∈Region.ready .any l.toArray L):False:=by
 unfold before at h;split at h
 ·rename_i o ho;obtain ⟨q,hq,hr⟩:=Uk.1 h;obtain ⟨_,o',ho',hall⟩:=mem_ready.1 hj;rw [RX,ho] at ho';injection ho' with ho';subst ho';obtain ⟨e,he,hb,rfl⟩:=gh.1 hq;have hd:L.getD e.on false=true:=hall e he hb
  have hi' :done L i=true:=j8 (D:=done L) (fun x y hx hy z hz=>by
   obtain ⟨e',he',hb',rfl⟩:=gh.1 hz;exact hcl x y (by simpa using hx) hy e' he' hb') _ _ _ hr hd
  have h0:=(mem_ready.1 hi).1;unfold done at hi';rcases SW i L.size with h' |h'
  ·simp [h'] at h0 hi';rw [h0] at hi';cases hi'
  ·simp [TI h'] at hi'
 ·cases h
theorem Ge {l:List Oper} {es ps:List Nat} (h:Gf l es ps=true): ∀ x∈es,∀ y,y∈es∨y∈ps→x≠y→uS l.toArray x y:=by
 intro x hx y hy hne L hcl h1 h2;have h3:=SI.1 (SI.1 h x hx) y (Rz.2 hy);simp only [TH] at h3;rcases h3 with (h3|h3)|h3
 ·exact hne (R0 h3)
 ·exact ub h3 hcl h2 h1
 ·exact ub h3 hcl h1 h2
section
variable {P:Program} {n:Fr} {w0:World} {Q:bS} {s:az} {H S:List Blk} {l rest:List Oper} {ty:TypeId} {p:String} {af:Array Edge} {es ps:List Nat} {k:Nat} {gu:Option (Nat × Bool)}
def WC (P:Program) (n:Fr) (w0:World) (l:List Oper) (S:List Blk) (es ps:List Nat) (Q:bS) (rest:List Oper) (k:Nat) (s:az) (H:List Blk):Prop:=
 ∀ a w,St n s a→Mem w0 w H→Mem w0 w S→(∀ j,rest[j]? =l[k+j]?)→wpE P l.toArray es ps (fun w=>Mem w0 w S) (post n w0 Q .normal) rest k a w
theorem gy {id:Nat} (es ps:List Nat) (S:List Blk) (hm:P.follows .mixedOrders=true) (hB:Region.lexB .any l.toArray=true) (hch:Gf l es ps=true) (hS:MSub S H)
 (h:WC P n w0 l S es ps Q l 0 s H):W P n w0 (.region id l.toArray true) Q s H:=by
 intro a w hs hmem;have hB' :=hB;simp only [Region.lexB,RB] at hB';refine wp_region_any hm (gT (es:=es) (ps:=ps) (C:=fun w=>Mem w0 w S) (Q:=post n w0 Q .normal) (fun _ _ h=>h) _ _ _ _ ?_);have hcl:ClosedL l.toArray (Array.replicate l.toArray.size false):=fun i o _ hi=>by
  rw [RZ,Un] at hi;split at hi<;>cases hi
 have:=Ew (P:=P) hB'.1 (Ge hch) l.toArray.toList 0 (Array.replicate l.toArray.size false) a { w with drawn:=w.drawn+1 } (by simp) hcl (by simpa using hB'.2) (h a _ hs hmem.drew (hS.use hmem.drew) (by simp));simpa using this
theorem OQ (h:Q .normal s H):WC P n w0 l S es ps Q [] k s H:=fun a w hs hm hS _=>⟨hS,s,H,hs,hm,h⟩
theorem fq {op:Op} {d:Nat} {v:Value} (hn:Nat.blt d n.sz=true) (hg:gok l s gu=some true) (hk:es.contains k=false) (hv:VOp P w0 s S op ty v) (h:WC P n w0 l S es ps Q rest (k+1) ((d,v)::s) H):
 WC P n w0 l S es ps Q (⟨some d,op,ty,p,af,gu⟩::rest) k s H:=by
 intro a w hs hm hS hl;obtain ⟨h0,hl'⟩:=jU hl;refine ⟨hS,.quiet (dZ rfl hg hs) (by simpa using hk) v (hv a.eval w (some d) p af gu hs.eval hS) (.inr fun w1 h1=>hv a.eval w1 (some d) p af gu hs.eval h1) (h _ _ (hs.put (Sa ▸ hn) v) hm hS hl')⟩
theorem QK {op:Op} {d:Nat} {v:Value} (hn:Nat.blt d n.sz=true) (hg:gok l s gu=some true) (hk:es.contains k=false) (hp:ps.contains k=true) (hv:VOp P w0 s H op ty v) (h:WC P n w0 l S es ps Q rest (k+1) ((d,v)::s) H):
 WC P n w0 l S es ps Q (⟨some d,op,ty,p,af,gu⟩::rest) k s H:=by
 intro a w hs hm hS hl;obtain ⟨h0,hl'⟩:=jU hl;exact ⟨hS,.quiet (dZ rfl hg hs) (by simpa using hk) v (hv a.eval w (some d) p af gu hs.eval hm) (.inl (by simpa using hp)) (h _ _ (hs.put (Sa ▸ hn) v) hm hS hl')⟩
theorem OT {op:Op} {dst:Option Tmp} {d:Nat} (hd:dst=some d) (hn:Nat.blt d n.sz=true) (hg:gok l s gu=some false) (h:WC P n w0 l S es ps Q rest (k+1) ((d,undef)::s) H):
 WC P n w0 l S es ps Q (⟨dst,op,ty,p,af,gu⟩::rest) k s H:=by
 subst hd;intro a w hs hm hS hl;obtain ⟨h0,hl'⟩:=jU hl;exact ⟨hS,.pass (dZ rfl hg hs) (h _ _ (hs.put (Sa ▸ hn) undef) hm hS hl')⟩
theorem HZ {op:Op} {dst:Option Tmp} {j d:Nat} {du b:Bool} (_hj:gd l j=some d) (hv:look s d=some (.bool b))
 (k1:b=true→WC P n w0 l S es ps Q (⟨dst,op,ty,p,af,some (j,du)⟩::rest) k ((d,.bool true)::s) H)
 (k2:b=false→WC P n w0 l S es ps Q (⟨dst,op,ty,p,af,some (j,du)⟩::rest) k ((d,.bool false)::s) H):
 WC P n w0 l S es ps Q (⟨dst,op,ty,p,af,some (j,du)⟩::rest) k s H:=by
 intro a w hs hm hS hl
 cases b with
 |true=>exact k1 rfl a w (hs.shadow hv) hm hS hl
 |false=>exact k2 rfl a w (hs.shadow hv) hm hS hl
def ceP (S:List Blk) (K:az→List Blk→Prop):bS:=fun e s' H' =>e= .normal∧MSub S H' ∧K s' H'
theorem Ee {K:az→List Blk→Prop} (hS:MSub S H) (h:K s H):ceP S K .normal s H:=⟨rfl,hS,h⟩
theorem QL {op:Op} {dst:Option Tmp} (hg:gok l s gu=some true) (hk:es.contains k=true) (h:WL P n w0 #[] [⟨dst,op,ty,p,af,none⟩] (ceP S (WC P n w0 l S es ps Q rest (k+1))) s H):
 WC P n w0 l S es ps Q (⟨dst,op,ty,p,af,gu⟩::rest) k s H:=by
 intro a w hs hm hS hl;obtain ⟨h0,hl'⟩:=jU hl;refine ⟨hS,.eff (dZ rfl hg hs) (by simpa using hk) ?_⟩;have h1:=h a w hs hm;unfold wpList at h1;simp only [Region.wanted,if_true] at h1;replace h1:=h1.elim id fun ⟨_,a0,w1,s',H'',_,_,he,_⟩=>by cases he
 have hexec:execOp a.eval ⟨dst,op,ty,p,af,gu⟩=execOp a.eval ⟨dst,op,ty,p,af,none⟩:=rfl;rw [hexec];have nxt: ∀ (a' :Act) (w' :World),wpList P #[] (post n w0 (ceP S (WC P n w0 l S es ps Q rest (k+1)))) [] a' w' →wpE P l.toArray es ps (fun w=>Mem w0 w S) (post n w0 Q .normal) rest (k+1) a' w' :=by
  rintro a' w' ⟨s',H',hs',hm',_,hSub,hK⟩;exact hK a' w' hs' hm' (hSub.use hm') hl'
 unfold Oper.wp at h1;generalize (execOp a.eval ⟨dst,op,ty,p,af,none⟩).run P w=r at h1 ⊢
 cases r with
 |ok x w' =>
  cases x<;>simp only [Oper.upon] at h1<;>simp only [NormUp]
  case value u=>exact nxt _ _ h1
  case skip=>exact nxt _ _ h1
  case defer dd=>
   obtain ⟨s',H'',hs',_⟩:=h1;have h2:=congrArg List.length (hs'.defers.trans hs.defers.symm);cases dst<;>simp [Act.put] at h2
  case enter f args=>
   refine h1.mono fun e w'' he=> ?_
   cases e with
   |returned v=>exact ⟨v,rfl,nxt _ _ he⟩
   |panicked c=>
    obtain ⟨s',H'',_,_,he',_⟩:=he;cases he'
   |outgrown=>
    obtain ⟨a0,w1,s',H'',_,_,he',_⟩:=he;cases he'
  case row f args=>exact Rows.mono h1 fun u w'' he=>nxt _ _ he
 |halt x w' =>
  cases x<;>simp only [Oper.upon] at h1
  all_goals
   obtain ⟨s',H'',_,_,he',_⟩:=h1;cases he'
theorem vg {d:Nat} {f:FuncId} {xs:List Operand} {vs:List Value} {v:Value} {ts:Array TypeId} [Callable P f] (hn:Nat.blt d n.sz=true) (hg:gok l s gu=some true) (hk:es.contains k=true) (hx:evs s xs=some vs)
 (hF: ∀ w,Mem w0 w H→aC P f vs w v) (h:WC P n w0 l S es ps Q rest (k+1) ((d,v)::s) H):
 WC P n w0 l S es ps Q (⟨some d,.call { callee:= .value (.func f),args:=xs.toArray,argTypes:=ts },ty,p,af,gu⟩::rest) k s H:=by
 intro a w hs hm hS hl;obtain ⟨h0,hl'⟩:=jU hl;refine ⟨hS,.eff (dZ rfl hg hs) (by simpa using hk) ?_⟩;have hrun:=jD (P:=P) (w:=w) (ρ:=a.eval) (d:=some d) (ty:=ty) (p:=p) (af:=af) (g:=gu) (f:=f) (c:= .func f) (xs:=xs) (caps:= []) (ts:=ts) rfl (fM hs hx);rw [Rc] at hrun;rw [hrun];refine Calls.mono (hF w hm) ?_;rintro e w' ⟨u,H',rfl,hm',rfl⟩;exact ⟨u,rfl,h _ _ (hs.put (Sa ▸ hn) u) (hm.call hm').right (hS.call hm').right hl'⟩
end
section
variable {P:Program} {n:Fr} {w0:World} {Q:bS} {s:az} {H:List Blk} {ty:TypeId} {p:String} {af:Array Edge} {rest:List Oper}
theorem fQ {d:Nat} {ops:Array Oper} {f:FuncId} {x:Operand} {name:String} {xs:List Operand} {T:TypeId} {rv rv' :Value} {vs:List Value} {ts:Array TypeId} {R:Value→List Blk→Prop} (hn:Nat.blt d n.sz=true) (hx:ev s x=some (.iface T rv)) (hxs:evs s xs=some vs)
 (hI: ∀ w,Mem w0 w H→(invoke (.fn (.method name) #[]) (Value.iface T rv::vs).toArray).run P w= .ok (.enter f (rv' ::vs).toArray) w)
 (hF:FnIn P f (rv' ::vs) w0 H R) (k: ∀ v H',R v H' →WL P n w0 ops rest Q ((d,v)::s) H'):
 WL P n w0 ops (⟨some d,.call { callee:= .invoke x name,args:=xs.toArray,argTypes:=ts },ty,p,af,none⟩::rest) Q s H:=by
 intro a w hs hm;refine wpList_plain rfl fun K hK=> ?_;have h1:a.eval x= .iface T rv:=hs.eval x _ hx;have h2:xs.map a.eval=vs:=fM hs hxs;have hr:(execOp a.eval ⟨some d,.call { callee:= .invoke x name,args:=xs.toArray,argTypes:=ts },ty,p,af,none⟩).run P w= .ok (.enter f (rv' ::vs).toArray) w:=by
  have h3:=hI w hm;simp only [execOp,resolve,Sem.run_bind,Sem.run_pure,Result.andThen_ok,h1,Tp,h2,List.append_toArray,UZ];simpa using h3
 simp only [Oper.wp,hr,Oper.upon];refine (hF w hm).mono ?_;rintro e w' ⟨v,H',rfl,hm',hR⟩;exact hK _ _ (k v H' hR _ _ (hs.put (Sa ▸ hn) _) hm')
end
section
variable {P:Program} {w0:World} {s:az} {H:List Blk} {ty:TypeId}
theorem EH {t e hi m c sz:Nat} {A:Option Nat} {x q r:Operand} {k k' :IntKind} [ht:Und P t (.slice e)] [hz:Size P e sz] (hx:ev s x=some (sl A m c)) (hq:ev s q=some (.int k (hi:Nat))) (hr:ev s r=some (.int k' (hi:Nat))) (h2:hi≤c):
 VOp P w0 s H (.slice t x none (some q) (some r)) ty (sl A hi hi):=by
 unfold VOp;intro ρ w _ _ _ _ hρ _;obtain ⟨i,hi1,hi2⟩:=hz.out;have e2:((hi:Nat):Int)≤((c:Nat):Int):=by omega
 have e3:((0:Nat):Int)≤((hi:Nat):Int):=by omega
 have e4:(A.map fun g=>(⟨g,0,none⟩:Addr)).map (·.add 0)=A.map fun g=>⟨g,0,none⟩:=by cases A<;>simp [dr]
 unfold sl at hx ⊢;simp [execOp,hρ x _ hx,hρ q _ hq,hρ r _ hr,Instr.sliceAt,run_underlying ht.out,Instr.slice,Instr.sliceBounds,Instr.sliceBound,asIntOf,sizeOf,typeInfo,hi1,h2];intro _;cases A<;>simp [dr]
end
section
variable {P:Program} {n:Fr} {w0:World} {Q:bS} {s:az} {H:List Blk} {ty:TypeId} {p:String} {af:Array Edge} {rest:List Oper}
theorem py {x:Operand} {t T:TypeId} {v:Value} {d:TypeDesc} [hd:Und P T d] (hni:(match d with| .interface _=>false|_=>true)=true) (hx:ev s x=some (.iface T v)):VOp P w0 s H (.typeAssert x t T false) ty v:=by
 unfold VOp;intro ρ w _ _ _ _ hρ _;cases d<;>simp_all [execOp,hρ x _ hx,Instr.typeAssert,run_underlying hd.out]
theorem EA {ops:Array Oper} {d:Nat} {op:Op} {g:Option (Nat × Bool)} {A:Option Nat} {t sz m cap:Nat} {xs:List Value} {R:List Blk} (hsel:Sel (.own A t sz m cap xs) H R) (k:Nat) (hk:k≤m)
 (h:WL P n w0 ops (⟨some d,op,ty,p,af,g⟩::rest) Q s (.own A t sz k cap (xs.take (k*sz))::R)):WL P n w0 ops (⟨some d,op,ty,p,af,g⟩::rest) Q s H:=fun a w hs hm=>h a w hs ((hm.sel hsel).shrink hk)
end
section
variable {P:Program} {n:Fr} {w0:World} {Q:bS} {s:az} {H:List Blk} {ty:TypeId} {p:String} {af:Array Edge} {rest:List Oper}
theorem cC {d:Nat} {ops:Array Oper} {f:FuncId} {x:Operand} {name:String} {xs:List Operand} {T:TypeId} {rv rv' v:Value} {vs:List Value} {ts:Array TypeId} (hn:Nat.blt d n.sz=true) (hx:ev s x=some (.iface T rv)) (hxs:evs s xs=some vs)
 (hI: ∀ w,Mem w0 w H→(invoke (.fn (.method name) #[]) (Value.iface T rv::vs).toArray).run P w= .ok (.enter f (rv' ::vs).toArray) w)
 (hF: ∀ w,Mem w0 w H→aC P f (rv' ::vs) w v) (k:WL P n w0 ops rest Q ((d,v)::s) H):
 WL P n w0 ops (⟨some d,.call { callee:= .invoke x name,args:=xs.toArray,argTypes:=ts },ty,p,af,none⟩::rest) Q s H:=
 fQ hn hx hxs hI (R:=fun u H' =>u=v∧H' =H) (fun w hm=>Calls.mono (hF w hm) fun _ _ ⟨u,_,h1,h2,h3⟩=>⟨u,H,h1,(hm.call h2).right,h3,rfl⟩) fun u H' ⟨h1,h2⟩=>by
  subst h1;subst h2;exact k
end
end Go.SL
