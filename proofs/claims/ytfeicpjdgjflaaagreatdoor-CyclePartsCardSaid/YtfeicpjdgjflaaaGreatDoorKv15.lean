/-
  Lemmas and walks, put together: Sl14 Rb E1 Re Sl26 W27 S5 S6.
-/
import Derived.Test.YtfeicpjdgjflaaaGreatDoorKv05
import Derived.Test.YtfeicpjdgjflaaaGreatDoorKv10
set_option linter.unusedSimpArgs false
set_option linter.unusedVariables false
set_option maxRecDepth 20000
set_option maxHeartbeats 16000000
namespace Go.SL
open Go Go.RowKit
section
variable {P:Program} {n:Fr} {w0:World} {Q:cd} {s sb:aC} {H:List Blk} {l:Nat}
theorem TW {K:aC→List Blk→Prop} (h:NoOut Q):NoOut (thn K Q):=fun s H hq=>h s H hq
theorem Tb {x y:Code} (h:WR P n w0 l x (thn (WR P n w0 l y Q) Q) s H):WR P n w0 l (.seq x y) Q s H:=by
 intro a w hs hm;refine wpIn_seq (wpIn_mono (h a w hs hm) ?_);rintro e a' w' ⟨s',H',h1,h2,h3⟩
 cases e with
 |normal=>exact h3 a' w' h1 h2
 |_=>exact ⟨s',H',h1,h2,h3⟩
theorem CP {c:Operand} {x y:Code} (hc:ev s c=some (.bool true)) (h:WR P n w0 l x Q s H):WR P n w0 l (.cond c x y) Q s H:=
 fun a w hs hm=>wpIn_cond_true (hs.eval c _ hc) (h a w hs hm)
theorem z8 {c:Operand} {x y:Code} (hc:ev s c=some (.bool false)) (h:WR P n w0 l y Q s H):WR P n w0 l (.cond c x y) Q s H:=
 fun a w hs hm=>wpIn_cond_false (hs.eval c _ hc) (h a w hs hm)
theorem Qp {c:Operand} {x y:Code} {b:Bool} (hc:ev s c=some (.bool b)) (ht:b=true→WR P n w0 l x Q s H) (hf:b=false→WR P n w0 l y Q s H):WR P n w0 l (.cond c x y) Q s H:=
 fun a w hs hm=>wpIn_cond (t:=b) (hs.eval c _ hc) (by cases b with|true=>exact ht rfl a w hs hm|false=>exact hf rfl a w hs hm)
variable {ops:Array Oper} {rest:List Oper} {ty:TypeId} {p:String} {af:Array Edge}
variable {B:Exit→Act→World→Prop}
end
open Go.Proofs
def j8 (S:List Rf) (j:Nat):List (Rf × Value × Nat):=(S.zipIdx j).map fun x=>(x.1,.bool true,x.2)
def nL (S:List Rf):List (Rf × Value × Nat):=j8 S 0
theorem ia (a:Rf) (S:List Rf) (j:Nat):j8 (a::S) j=(a,.bool true,j)::j8 S (j+1):=by simp [j8,YE]
theorem wj (a:Rf): ∀ (S:List Rf) (j:Nat),j8 (S++ [a]) j=j8 S j++ [(a,.bool true,j+S.length)]
 | [],j=>rfl
 |b::S,j=>by
  rw [Vp,ia,ia,wj a S (j+1),Vp,Vw,show j+1+S.length=j+(S.length+1) by omega]
theorem BV (a:Rf): ∀ (S:List Rf) (j i:Nat),(match co a (j8 S j) i with|some (_,v)=>v|none=>Value.bool false)= .bool (decide (a∈S))
 | [],_,_=>rfl
 |b::S,j,i=>by
  rw [ia,co];by_cases h:a=b
  ·rw [if_pos h];simp [h]
  ·rw [if_neg h,BV a S (j+1) (i+1)];simp [h]
theorem Gw (S:List Rf) (a:Rf):(match co a (nL S) 0 with|some (_,v)=>v|none=>Value.bool false)= .bool (decide (a∈S)):=BV a S 0 0
theorem pG (a:Rf): ∀ (S:List Rf) (j i:Nat),a∉S→co a (j8 S j) i=none
 | [],_,_,_=>rfl
 |b::S,j,i,h=>by
  rw [ia,co,if_neg (fun e=>h (by rw [e];exact Vr))];exact pG a S _ _ (fun hs=>h (Vv _ hs))
theorem Ks {S:List Rf} {a:Rf} (h:a∉S):lr a (.bool true) S.length (nL S)=(nL (S++ [a]),S.length+1):=by
 unfold lr nL;rw [pG a S 0 0 h,wj,VD]
theorem tF (S:List Rf): ∀ j,(j8 S j).map (fun e=>e.1)=S:=by
 induction S with
 |nil=>intro j;rfl
 |cons a S ih=>intro j;rw [ia,VU,ih]
theorem oP: ∀ (S:List Rf) (j:Nat),(j8 S j).map (fun e=>e.2.2)=(List.range S.length).map (fun k=>j+k)
 | [],j=>rfl
 |a::S,j=>by
  rw [ia,VU,oP S (j+1),Vw,List.range_succ_eq_map,VU,Xl];congr 1;exact Wu fun k _=>by simp only [Function.comp];omega
theorem TF {S:List Rf} (h:S.Nodup):MapOk (nL S) S.length:=by
 refine ⟨?_,fun e he=> ?_,?_⟩
 ·unfold nL;rw [oP,List.Nodup,X8];exact (Yk (n:=S.length)).imp fun h e=>h (by omega)
 ·have:e.2.2∈(nL S).map fun e=>e.2.2:=VM.2 ⟨e,he,rfl⟩;unfold nL at this;rw [oP] at this;obtain ⟨k,hk,hke⟩:=VM.1 this;have:=VT.1 hk;omega
 ·unfold nL;rw [tF];exact h
section
variable {w0:World} {s:aC} {H:List Blk} {ty t' :TypeId} {x y:Operand}
theorem TA {a b:Rct} (hx:ev s x=some (.agg (bz a).toArray)) (hy:ev s y=some (.agg (bz b).toArray)):VOp Tryz.prog w0 s H (.binOp .eql 53 x y t') ty (.bool (eqR a b)):=fun ρ w _ _ _ _ hρ _=>by
 have h:=w9 w 9997 a b;simp only [Nat.reduceAdd] at h;simp only [execOp,hρ x _ hx,hρ y _ hy,Sem.run_bind,run_eqGuard_agg w _ _ _ _ _ _ Tryz.eqGuardType53,Result.andThen_ok,run_eql_struct,h,Sem.run_pure]
theorem Tv {a b:Rct} (hx:ev s x=some (.agg (bz a).toArray)) (hy:ev s y=some (.agg (bz b).toArray)):VOp Tryz.prog w0 s H (.binOp .neq 53 x y t') ty (.bool (!eqR a b)):=fun ρ w _ _ _ _ hρ _=>by
 have h:=w9 w 9997 a b;simp only [Nat.reduceAdd] at h;simp only [execOp,hρ x _ hx,hρ y _ hy,Sem.run_bind,run_eqGuard_agg w _ _ _ _ _ _ Tryz.eqGuardType53,Result.andThen_ok,run_neq_struct,h,Sem.run_pure]
end
attribute [local irreducible] FnAt FnIn FnP RW VOp W WA WG WL WLI WQ WR WT WX aS aV bg bi blk scp thn
theorem BD (S:List Rf):(nL S).map (fun e=>e.1)=S:=tF S 0
theorem Om (S:List Rf):(nL S).length=S.length:=by
 have:=congrArg List.length (BD S);simpa using this
end Go.SL
namespace Go.SL
open Go Go.RowKit
section
variable {P:Program} {n:Fr} {w0:World} {Q:cd} {s:aC} {H S:List Blk} {l rest:List Oper} {ty:TypeId} {p:String} {af:Array Edge} {es ps:List Nat} {k:Nat} {gu:Option (Nat × Bool)}
theorem iW {P:Program} {ops:Array Oper} {es ps:List Nat} {C:World→Prop} {r:Option Nat} {Q:Act→World→Prop} {Q' :Exit→Act→World→Prop} (hnd: ∀ (i:Nat) o,ops[i]? =some o→ ∀ c,o.op≠ .defer c) (hQ: ∀ a w,Q a w→Q' .normal a w): ∀ (f:Nat) (L:Array Bool) (a:Act) (w:World),AnyE P ops es ps C Q f L a w→wpAnyIn (fen r) 0 P .any ops Q' f L a w
 |0,L,a,w,h=>⟨h.2.1,hQ _ _ h.2.2⟩
 |f+1,L,a,w,h=>⟨fun h0=>hQ _ _ (h.2.1 h0),fun i hi=>by
   obtain ⟨o,ho,hg⟩:=h.2.2 i hi;unfold wpOpIn;simp only [ho]
   cases hg with
   |pass hw hk=>
    simp only [hw,V2,if_false];exact ⟨fun _ _=>trivial,iW hnd hQ f _ _ _ hk⟩
   |quiet hw _ v hr _ hk=>
    simp only [hw,if_true];refine oF (hnd i o ho) (next:=wpAnyIn (fen r) 0 P .any ops Q' f (L.setIfInBounds i true)) (fun _ _ h=>h) (fun _ _ _ h=>h) (fun h=>h) ?_;unfold Oper.wp;rw [hr];exact iW hnd hQ f _ _ _ hk
   |eff hw _ hk=>
    simp only [hw,if_true];refine oF (hnd i o ho) (next:=wpAnyIn (fen r) 0 P .any ops Q' f (L.setIfInBounds i true)) (fun _ _ h=>h) (fun _ _ _ h=>h) (fun h=>h) ?_;unfold Oper.wp;exact NormUp.upon (hk.mono fun v w' h1=>iW hnd hQ f _ _ _ h1)⟩
theorem xA {id r:Nat} (es ps:List Nat) (S:List Blk) (hm:P.follows .mixedOrders=true) (hB:Region.lexB .any l.toArray=true) (hch:Eh l es ps=true) (hnd:tT l=true) (hS:MSub S H)
 (h:WC P n w0 l S es ps Q l 0 s H):WR P n w0 r (.region id l.toArray true) Q s H:=by
 intro a w hs hmem;have hB' :=hB;simp only [Region.lexB,VP] at hB';refine wpIn_region_any hm (iW (es:=es) (ps:=ps) (C:=fun w=>Mem w0 w S) (Q:=post n w0 Q .normal) (fun i o ho=>su hnd o (Xz (by simpa using ho))) (fun _ _ h=>h) _ _ _ _ ?_);have hcl:ClosedL l.toArray (Array.replicate l.toArray.size false):=fun i o _ hi=>by
  rw [Wc,X3] at hi;split at hi<;>cases hi
 have:=z1 (P:=P) hB'.1 (zO hch) l.toArray.toList 0 (Array.replicate l.toArray.size false) a { w with drawn:=w.drawn+1 } (by simp) hcl (by simpa using hB'.2) (h a _ hs hmem.drew (hS.use hmem.drew) (by simp));simpa using this
end
open Go.Proofs
attribute [local irreducible] FnAt FnIn VOp W WA WG WL WQ aS bg blk thn
theorem He (r:Rct):(bz r).length=4:=rfl
theorem Ui (L:List Rct) (lv:Value) (w:World) (hl:Reads w lv L.length (L.flatMap bz)):aF Tryz.prog 97 [lv] w (.bool (L.all bW)):=by
 obtain ⟨Al,cl,rfl,hl1,hl2,hl3⟩:=hl;refine aA Tryz.func97 rfl Tryz.ntmps97 rfl ?_;repeat' (first|refine sT ?_|refine sM fun _=>?_|refine sC ?_ ?_<;>intro hb<;>try omega|fail)
 refine fP (fun i:Nat=> [(5,.slice Al L.length cl),(6,.int .i64 (L.length:Int)),(7,.int .i64 (i:Int))]) (fun _=> []) (fun i=>i≤L.length∧L.all bW=(L.drop i).all bW) (fun i=>L.length - i) 0 ⟨by omega,rfl⟩ ?_ ?_ ?_
 ·exact sB
 ·exact mS
 ·rintro i ⟨hi,hrec⟩;by_cases hlt:i<L.length
  ·obtain ⟨gl,ol,rfl,hrl⟩:=hl3 (by omega);have he1:=hrl.elem He i hlt;rw [Vy hlt,XM] at hrec;generalize L[i]=r at hrec he1;repeat' (first|apply ag;exact rfl;exact rfl;intro w hm;exact lh r w|refine zZJ ?_|refine sM fun _=>?_|refine sC ?_ ?_<;>intro hb<;>try omega|fail)
   ·(refine rT1 ?_);rw [hrec];cases hq:bW r<;>simp [jr,hq] at hb ⊢
   ·refine ⟨i+1,⟨by omega,?_⟩,by omega,?_,?_⟩
    ·rw [hrec];cases hq:bW r<;>simp [jr,hq] at hb ⊢
    ·exact sB
    ·exact mS
  ·have e:i=L.length:=by omega
   subst e;repeat' (first|refine sT ?_|refine sM fun _=>?_|refine sC ?_ ?_<;>intro hb<;>try omega|fail)
   (refine rT1 ?_);rw [hrec,V8]
   rfl
theorem SG (a b:Rct) (w:World):aF Tryz.prog 37 [.agg (bz a).toArray,.agg (bz b).toArray] w (.tuple #[.agg (bz (qf a b).1).toArray,.bool (qf a b).2]):=by
 refine aA Tryz.func37 rfl Tryz.ntmps37 rfl ?_;have hall:=fun (lv:Value) (w:World)=>Ui [a,b,pE a b] lv w;unfold qf;generalize [a,b,pE a b].all bW=q at hall;repeat' (first|apply ag;exact rfl;exact rfl;intro w hm;exact hall _ w (Reads.of_row hm pK)|refine sT ?_|refine sM fun _=>?_|refine sC ?_ ?_<;>intro hb<;>try omega|fail)
 ·refine BI (.inl rfl) Tryz.results37 rfl pK rfl rfl (MSub.nil _) ?_;simp [hb,aZ,bz]
 ·refine BI (.inl rfl) Tryz.results37 rfl pK rfl rfl (MSub.nil _) ?_;simp [hb,pE,bz]
end Go.SL
namespace Go.Proofs
open Go Go.Shelf Go.RowKit Go.Lib Go.Sort Go.SL
theorem Tryz.nanX (a:Int) (W:World):Calls Tryz.prog 198 #[.int .i64 a] W fun e w' =>e= .returned (.bool false)∧w' =W:=by
 go_enter Tryz.func198,Tryz.ntmps198
 go_wp2
 all_goals
  go_ret
  exact ⟨by simp,rfl⟩
theorem Tryz.cmpX (a b:Int) (W:World):Calls Tryz.prog 127 #[.int .i64 a,.int .i64 b] W fun e w' =>e= .returned (.int .i64 (mz a b))∧w' =W:=by
 unfold mz
 go_enter Tryz.func127,Tryz.ntmps127
 go_wp2_with (go_at_call 198;refine (Tryz.nanX _ _).mono ?_;rintro e w' ⟨rfl,rfl⟩)
 all_goals
  go_ret
  exact ⟨by first|rfl|(repeat' split)<;>first|rfl|omega,rfl⟩
theorem Tryz.orX (x0 x1 x2 x3:Int) (g c:Nat) (W:World) (h0:W.cell? ⟨g,0,none⟩=some (.int .i64 x0)) (h1:W.cell? ⟨g,1,none⟩=some (.int .i64 x1)) (h2:W.cell? ⟨g,2,none⟩=some (.int .i64 x2)) (h3:W.cell? ⟨g,3,none⟩=some (.int .i64 x3)):
 Calls Tryz.prog 126 #[.slice (some ⟨g,0,none⟩) 4 c] W fun e w' =>e= .returned (.int .i64 (orI x0 x1 x2 x3))∧w' =W:=by
 unfold orI
 go_enter Tryz.func126,Tryz.ntmps126
 go_wp2
 refine wp_loop_rounds 5 ?_;rw [rounds_succ]
 go_wp2
 all_goals first
  |rw [rounds_succ];go_wp2
  |skip
 all_goals first
  |rw [rounds_succ];go_wp2
  |skip
 all_goals first
  |rw [rounds_succ];go_wp2
  |skip
 all_goals first
  |rw [rounds_succ];go_wp2
  |skip
 all_goals first
  | (go_ret
     exact ⟨by first|rfl|(congr 2;simp_all;done),rfl⟩)
theorem Lays.drew {W X:World} (h:Lays W X):Lays W X.drew:=by
 obtain ⟨q,os,rfl⟩:=h;exact ⟨q+1,os,rfl⟩
theorem xe (W:World) (cs:Array Value) (T:TypeId) {g j:Nat} {v:Value} (hg:g=W.heap.size) (hv:cs[j]? =some v):(W.alloc (Obj.cells cs T)).cell? ⟨g,j,none⟩=some v:=by
 subst hg;have e:(W.alloc (Obj.cells cs T)).heap[W.heap.size]? =some (Obj.cells cs T):=by
  show (W.heap.push _)[W.heap.size]? =_;rw [Xw,if_pos rfl]
 simp only [World.cell?,e];exact hv
theorem Tryz.leavesX (a b:Rct) (W:World):Calls Tryz.prog 125 #[.agg #[.int .i64 a.c1,.int .i64 a.r1,.int .i64 a.c2,.int .i64 a.r2],.agg #[.int .i64 b.c1,.int .i64 b.r1,.int .i64 b.c2,.int .i64 b.r2]] W fun e w' =>e= .returned (.int .i64 (cU a b))∧ ∃ q os',w' =grow (W.drewN q) os' :=by
 unfold cU;have hor: ∀ (o1 o2:Obj) (T:TypeId),Calls Tryz.prog 126 #[.slice (some ⟨W.heap.size+1+1,0,none⟩) 4 4] (((W.alloc o1).alloc o2).alloc (Obj.cells #[.int .i64 (mz a.r1 b.r1),.int .i64 (mz a.c1 b.c1),.int .i64 (mz a.r2 b.r2),.int .i64 (mz a.c2 b.c2)] T)).drew fun e w' =>e= .returned (.int .i64 (orI (mz a.r1 b.r1) (mz a.c1 b.c1) (mz a.r2 b.r2) (mz a.c2 b.c2)))∧w' =(((W.alloc o1).alloc o2).alloc (Obj.cells #[.int .i64 (mz a.r1 b.r1),.int .i64 (mz a.c1 b.c1),.int .i64 (mz a.r2 b.r2),.int .i64 (mz a.c2 b.c2)] T)).drew:=fun o1 o2 T=>by
  have hg:W.heap.size+1+1=((W.alloc o1).alloc o2).heap.size:=by
   show _=((W.heap.push o1).push o2).size;rw [Xh,Xh]
  exact Tryz.orX _ _ _ _ _ _ _ (xe _ _ _ hg rfl) (xe _ _ _ hg rfl) (xe _ _ _ hg rfl) (xe _ _ _ hg rfl)
 go_enter Tryz.func125,Tryz.ntmps125
 go_wp2
 go_region_held3 (fun w' =>w'.cell? ⟨W.heap.size,0,none⟩=some (.int .i64 a.c1)∧w'.cell? ⟨W.heap.size,1,none⟩=some (.int .i64 a.r1)∧w'.cell? ⟨W.heap.size,2,none⟩=some (.int .i64 a.c2)∧w'.cell? ⟨W.heap.size,3,none⟩=some (.int .i64 a.r2)∧w'.cell? ⟨W.heap.size+1,0,none⟩=some (.int .i64 b.c1)∧w'.cell? ⟨W.heap.size+1,1,none⟩=some (.int .i64 b.r1)∧w'.cell? ⟨W.heap.size+1,2,none⟩=some (.int .i64 b.c2)∧w'.cell? ⟨W.heap.size+1,3,none⟩=some (.int .i64 b.r2)) (go_keep)
  (first|go_at_call 127;refine (Tryz.cmpX _ _ _).mono ?_;rintro e w' ⟨rfl,rfl⟩|go_at_call 126;refine (hor _ _ _).mono ?_;rintro e w' ⟨rfl,rfl⟩)
 all_goals
  go_wp2
 all_goals
  go_ret
  exact ⟨rfl,by first|exact (((((Lays.refl W).alloc _).alloc _).alloc _)).drew⟩
theorem xq (a b:Int):mz a b<0↔a<b:=by unfold mz;split<;>(try split)<;>omega
theorem Ef (a b:Int):mz a b≠0↔a≠b:=by unfold mz;split<;>(try split)<;>omega
theorem oY (x y:Rct):ltOf cU x y=decide (x.r1<y.r1∨x.r1=y.r1∧(x.c1<y.c1∨x.c1=y.c1∧(x.r2<y.r2∨x.r2=y.r2∧x.c2<y.c2))):=by
 unfold ltOf cU orI;rw [V3];simp only [decide_eq_true_eq];have c1:=xq x.r1 y.r1;have c2:=xq x.c1 y.c1;have c3:=xq x.r2 y.r2;have c4:=xq x.c2 y.c2;have d1:=Ef x.r1 y.r1;have d2:=Ef x.c1 y.c1;have d3:=Ef x.r2 y.r2;repeat' split
 all_goals omega
theorem x5:SWO (ltOf cU):={
 irrefl x:=by rw [oY];simp
 trans x y z h1 h2:=by rw [oY] at*;simp only [decide_eq_true_eq] at*;omega
 ntrans x y z h1 h2:=by rw [oY] at*;simp only [decide_eq_false_iff_not] at*;omega }
theorem Ob (x y:Rct) (h1:ltOf cU x y=false) (h2:ltOf cU y x=false):x=y:=by
 rw [oY] at h1 h2;obtain ⟨a,b,c,d⟩:=x;obtain ⟨e,f,g,h⟩:=y;simp only [decide_eq_false_iff_not] at h1 h2;simp;omega
instance iN11:Inhabited Rct:=⟨⟨0,0,0,0⟩⟩
theorem Tryz.sortRc_calls (blk off cap:Nat) (d:Array Rct) (w:World) (hH:HoldsK bz 4 w blk off d) (hblk:blk<w.heap.size) (hsz:d.size<4611686018427387904):
 Calls Tryz.prog 124 #[.slice (some ⟨blk,off,none⟩) d.size cap,.func (.func 125) #[] #[]] w fun e w' =>
  e= .returned (.tuple #[])∧ ∃ n os,w' =sortWorldK bz 4 w blk off n (d.toList.mergeSort fun x y=> !(ltOf cU) y x).toArray os:=by
 have eg: ∀ args w,(callFunc 125 args).run Tryz.prog w= .ok (.enter 125 args) w:=enters_of Tryz.func125 (by kernel_rfl) rfl;exact AnyQ.slices_SortFunc_total Tryz.sortRc 4 (fun w=>by have h:=Tryz.underlying53;show (isAgg 53).run _ w=_;simp [isAgg,run_underlying h]) (fun w=>by obtain ⟨i,h1,h2⟩:=(inferInstance:Size Tryz.prog 53 4).out;show (Go.sizeOf 53).run _ w=_;simp [Go.sizeOf,typeInfo,h1,h2]) bz (fun _=>rfl) (fun x v hv=>by simp [bz] at hv;rcases hv with rfl|rfl|rfl|rfl<;>rfl) cU x5 125 #[] blk off cap d w eg (fun _ _ _ _ x y=>Tryz.leavesX x y _) hH hblk hsz Ob
end Go.Proofs
namespace Go.SL
open Go Go.Proofs Go.Sort Go.Shelf
section
variable {α:Type} [Inhabited α] {enc:α→List Value} {k:Nat}
theorem Ci (hk: ∀ x,(enc x).length=k) (h0:0<k) (L:List α) (j:Nat) (h:j<L.length*k):(L.flatMap enc)[j]? =some ((flatK enc k L.toArray)[j]!):=by
 rw [get_flatK _ _ _ _ (by simpa using h)];have h1:j / k<L.length:=Nat.div_lt_of_lt_mul (by rw [Nat.mul_comm];exact h);have h2:j % k<k:=Y5 _ h0;have h3:=qW hk L (j / k) (j % k) h1 h2;rw [show j / k*k+j % k=j by rw [Nat.mul_comm];exact Nat.div_add_mod j k] at h3;rw [h3];have h4:L.toArray[j / k]! =L[j / k]:=by simp [h1]
 rw [h4,Vo (by rw [hk];exact h2)];congr 1;rw [getElem!_pos _ _ (by rw [hk];exact h2)]
theorem Fq (w:World) (g n:Nat) (d:Array α) (os:Array Obj):w.grownBy (sortWorldK enc k w g 0 n d os) (some g):={
 os:=rfl
 tape:=rfl
 output:=rfl
 size:=by
  show w.heap.size≤((w.heap.modify g _)++os).size;rw [YT,XD];omega
 block k hk hne:=by
  show ((w.heap.modify g _)++os)[k]? =_;rw [Ww (by rw [XD];exact hk),Xy,if_neg (fun e=>hne (by rw [e]))] }
theorem Iq (w:World) (g n:Nat) (d:Array α) (os:Array Obj) (c:Array Value) (T:TypeId) (fr:Nat × Nat) (h:w.heap[g]? =some (.cells c T fr)):
 (sortWorldK enc k w g 0 n d os).heap[g]? =some (.cells (putCells id 0 (flatK enc k d) c) T fr):=by
 have hlt:g<w.heap.size:=(V0.1 h).1;show ((w.heap.modify g _)++os)[g]? =_;rw [Ww (by rw [XD];exact hlt),Xy,if_pos rfl,h]
 rfl
theorem IX (hk: ∀ x,(enc x).length=k) (h0:0<k) (L:List α) (xs junk:List Value) (hl:xs.length=L.length*k):putCells id 0 (flatK enc k L.toArray) (xs++junk).toArray=(L.flatMap enc++junk).toArray:=by
 have hfl:(L.flatMap enc).length=L.length*k:=bh hk L;apply Yv;intro j;simp only [putCells,YC,V6,size_flatK,Xa,Vt,true_and,VD,WU];by_cases hj:j<L.length*k
 ·rw [VO (by omega),VO (by omega),Ci hk h0 L j hj,Vo (by omega)];simp [hj]
 ·rw [VW (by omega),VW (by omega),hl,hfl];simp [hj]
theorem Og {F fid T:Nat} {P:Program} (srt:List α→List α) (hk: ∀ x,(enc x).length=k) (h0:0<k) (hlen: ∀ L,(srt L).length=L.length)
 (hs: ∀ (blk off cap:Nat) (d:Array α) (w:World),HoldsK enc k w blk off d→blk<w.heap.size→d.size<4611686018427387904→Calls P F #[.slice (some ⟨blk,off,none⟩) d.size cap,.func (.func fid) #[] #[]] w fun e w' =>e= .returned (.tuple #[])∧ ∃ n os,w' =sortWorldK enc k w blk off n (srt d.toList).toArray os)
 (hn: ∀ (p:Option Addr) (cap:Nat) (fv:Value) (w:World),Calls P F #[.slice p 0 cap,fv] w fun e w' =>e= .returned (.tuple #[])∧w' =w)
 (L:List α) (A:Option Nat) (cap:Nat) (hL:L.length≤1000000) (R:List Blk) (w0:World):
 FnIn P F [sl A L.length cap,.func (.func fid) #[] #[]] w0 (.own A T k L.length cap (L.flatMap enc)::R) fun v H=>v= .tuple #[]∧H= .own A T k L.length cap ((srt L).flatMap enc)::R:=by
 cases A with
 |none=>
  intro w hm;obtain ⟨⟨h1,h2,h3,h4⟩,_⟩:=hm.on _ Vr;obtain ⟨h5,h6⟩:=h4;have hnil:L= []:=WW.1 h5;subst hnil;subst h6;have he:srt []= []:=WW.1 (hlen []);refine Calls.mono (hn none 0 _ w) ?_;rintro e w' ⟨rfl,rfl⟩;exact ⟨_,_,rfl,hm,rfl,by rw [he]⟩
 |some g=>
  intro w hm;obtain ⟨⟨h1,h2,h3,junk,h4,h5⟩,hkk⟩:=hm.on _ Vr;have hlt:g<w.heap.size:=(V0.1 h5).1;have hH:HoldsK enc k w g 0 L.toArray:=by
   intro j hj;simp only [size_flatK,Xa] at hj;have hc:(L.flatMap enc++junk).toArray[j]? =some (flatK enc k L.toArray)[j]! :=by
    rw [V6,VO (by omega),Ci hk h0 L j hj]
   constructor
   ·simp only [World.cell?,VD,h5];exact hc
   ·simp [World.frozen?,h5]
  have hs:=hs g 0 cap L.toArray w hH hlt (by simp;omega);have hsz:L.toArray.size=L.length:=by simp
  rw [hsz] at hs;refine hs.mono ?_;rintro e w' ⟨rfl,n,os,rfl⟩;have hl:=hlen L;refine ⟨_,_,rfl,hm.upd (Fq _ _ _ _ _) (b' := .own (some g) T k L.length cap ((srt L).flatMap enc)) ?_ fun k hk=> .inl hk,rfl,rfl⟩;have hfl:((srt L).flatMap enc).length=L.length*k:=by rw [bh hk,hl]
  refine ⟨hfl,h2,h3,junk,by rw [Vn,hfl,← h1,← Vn];exact h4,?_⟩;rw [Iq _ _ _ _ _ _ _ _ h5,IX hk h0 (srt L) _ _ (by rw [hl];exact h1)]
end
theorem wO (p:Option Addr) (cap:Nat) (fv:Value) (w:World):Calls Tryz.prog 124 #[.slice p 0 cap,fv] w fun e w' =>e= .returned (.tuple #[])∧w' =w:=AnyF.slices_SortFunc_none Tryz.sortRc p cap fv w
theorem De (L:List Rct) (A:Option Nat) (cap:Nat) (hL:L.length≤1000000) (R:List Blk) (w0:World):
 FnIn Tryz.prog 124 [sl A L.length cap,.func (.func 125) #[] #[]] w0 (.own A 53 4 L.length cap (L.flatMap bz)::R) fun v H=>v= .tuple #[]∧H= .own A 53 4 L.length cap ((sortRc L).flatMap bz)::R:=
 Og (enc:=bz) (k:=4) sortRc (fun _=>rfl) (by decide) (fun L=>by simp [sortRc]) (fun blk off cap d w h1 h2 h3=>by
  have h:=Tryz.sortRc_calls blk off cap d w h1 h2 h3;have heq:(d.toList.mergeSort fun x y=> !(ltOf cU) y x)=sortRc d.toList:=rfl;rw [heq] at h;exact h) wO L A cap hL R w0
end Go.SL
