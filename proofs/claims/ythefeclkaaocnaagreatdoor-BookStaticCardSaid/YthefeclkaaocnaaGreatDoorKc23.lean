/-
  Lemmas and walks, put together: Sl29 Sl30 Sl31 Sl32 Bt Pg Ha.
-/
import Derived.Deep.AppendSrc
import Derived.Test.YthefeclkaaocnaaGreatDoorKc18
set_option linter.unusedSimpArgs false
set_option linter.unusedVariables false
set_option maxRecDepth 20000
namespace Go.SL
open Go Go.RowKit
section
variable {P:Program} {ops:Array Oper} {es ps:List Nat} {C:World→Prop}
theorem qf {Q:Act→World→Prop} {i:Nat} {oi:Oper} (hi:ops[i]? =some oi) (hsel: ∀ (j:Nat) (o:Oper) cs b,ops[j]? =some o→o.op≠ .select cs b)
  (hnb: ∀ x∈es,∀ y,y∈es∨y∈ps→x≠y→(x=i∨y=i)→qI ops x y):
  ∀ (f:Nat) (L:Array Bool) (a:Act) (w:World),ClosedL ops L→C w→
   (∀ j oj,ops[j]? =some oj→j≠i→L.getD j true=false→(∀ e∈oj.after,Region.binds .any e=true→e.on≠i)→oi.apart ops oj=true)→
   i∈Region.ready .any ops L→EOp P ops es ps C (AnyE P ops es ps C Q f (L.setIfInBounds i true)) i oi a w→AnyE P ops es ps C Q (f+1) L a w
 |0,L,a,w,hcl,hC,_,hr,hy=>⟨hC,fun h=>(by rw [h] at hr;cases hr),fun j hj=>by
   by_cases hji:j=i
   ·
    subst hji;exact ⟨oi,hi,hy⟩
   ·
    exfalso
    have hne:=ready_mono hj hji
    have hE: ∃ a' w',AnyE P ops es ps C Q 0 (L.setIfInBounds i true) a' w' :=by
     cases hy with
     |pass _ hk=>exact ⟨_,_,hk⟩
     |quiet _ _ _ _ _ hk=>exact ⟨_,_,hk⟩
     |eff _ _ hk=>obtain ⟨v,w',h⟩:=hk.ex;exact ⟨_,_,h⟩
    obtain ⟨a',w',_,h0,_⟩:=hE
    rw [h0] at hne
    cases hne⟩
 |f+1,L,a,w,hcl,hC,hfree,hr,hy=>⟨hC,fun h=>(by rw [h] at hr;cases hr),fun j hj=>by
   by_cases hji:j=i
   ·
    subst hji;exact ⟨oi,hi,hy⟩
   ·
    have hj' :=ready_mono hj hji
    obtain ⟨hjun,oj,hoj,hall⟩:=mem_ready.1 hj
    have hnot: ∀ e∈oj.after,Region.binds .any e=true→e.on≠i:=fun e he hb heq=>by
     have h1:=hall e he hb
     have h0:=(mem_ready.1 hr).1
     rw [heq] at h1
     rcases Ow i L.size with h' |h'
     ·
      simp [h'] at h0 h1;rw [h0] at h1;cases h1
     ·
      simp [OY h'] at h1
    have hap:=hfree j oj hoj hji hjun hnot
    obtain ⟨h1,h2,h3⟩:=Oper.apart_spec hap
    have hsi:=fun cs b=>hsel i oi cs b hi
    have hsj:=fun cs b=>hsel j oj cs b hoj
    have hej: ∀ v,execOp (a.put oi.dst v).eval oj=execOp a.eval oj:=fun v=>execOp_put oj hsj a oi.dst v h1
    have hwj: ∀ v,Region.wanted oj (yielded ops (a.put oi.dst v).tmps)=Region.wanted oj (yielded ops a.tmps):=fun v=>wanted_put oj a oi.dst v h1
    have hcomm: ∀ v u,(a.put oi.dst v).put oj.dst u=(a.put oj.dst u).put oi.dst v:=fun v u=>Act.put_comm a v u h2
    have hset:(L.setIfInBounds i true).setIfInBounds j true=(L.setIfInBounds j true).setIfInBounds i true:=Pn _ _ (Ne.symm hji)
    have hfree' : ∀ k ok,ops[k]? =some ok→k≠i→(L.setIfInBounds j true).getD k true=false→
      (∀ e∈ok.after,Region.binds .any e=true→e.on≠i)→oi.apart ops ok=true:=fun k ok hk hki hun hno=>by
     refine hfree k ok hk hki ?_ hno
     by_cases hjk:j=k
     ·
      subst hjk;exact hjun
     ·
      rw [getD_set_ne true hjk] at hun;exact hun
    have ih:=qf (Q:=Q) hi hsel hnb f (L.setIfInBounds j true)
    have hcl' :=hcl.set hj
    have hr' :=ready_mono hr (Ne.symm hji)
    -- what comes of j behind an outcome of i
    have hJ: ∀ v w',AnyE P ops es ps C Q (f+1) (L.setIfInBounds i true) (a.put oi.dst v) w' →EOp P ops es ps C (AnyE P ops es ps C Q f ((L.setIfInBounds j true).setIfInBounds i true)) j oj (a.put oi.dst v) w' :=fun v w' h=>by
     obtain ⟨o,ho,hE⟩:=h.2.2 j hj'
     have e:o=oj:=Option.some.inj (ho.symm.trans hoj)
     subst e
     rw [hset] at hE
     exact hE
    refine ⟨oj,hoj,?_⟩
    have hstill:(∃ v,AnyE P ops es ps C Q (f+1) (L.setIfInBounds i true) (a.put oi.dst v) w∧ ∀ (u:Value) (w2:World) (K' :Act→World→Prop),C w2→(i∈ps→w2=w)→K' ((a.put oj.dst u).put oi.dst v) w2→EOp P ops es ps C K' i oi (a.put oj.dst u) w2)∨
      (Region.wanted oi (yielded ops a.tmps)=true∧i∈es∧NormUp P (fun v w' =>AnyE P ops es ps C Q (f+1) (L.setIfInBounds i true) (a.put oi.dst v) w') ((execOp a.eval oi).run P w)):=by
     cases hy with
     |pass hw hk=>exact .inl ⟨undef,hk,fun u w2 K' _ _ hk' => .pass ((wanted_put oi a oj.dst u h3).trans hw) hk'⟩
     |quiet hw hies v hrun hst hk=>
      refine .inl ⟨v,hk,fun u w2 K' hC2 hps hk' => ?_⟩
      have he:=execOp_put oi hsi a oj.dst u h3
      have hrun2:(execOp a.eval oi).run P w2= .ok (.value v) w2:=by
       rcases hst with h|h
       ·
        rw [hps h];exact hrun
       ·
        exact h w2 hC2
      exact .quiet ((wanted_put oi a oj.dst u h3).trans hw) hies v (by rw [he];exact hrun2) (by rw [he];exact hst) hk'
     |eff hw hies hk=>exact .inr ⟨hw,hies,hk⟩
    rcases hstill with ⟨v,hk,hS⟩|⟨hw,hies,hk⟩
    ·
     cases hJ v w hk with
     |pass hwj' hkj=>exact .pass ((hwj v).symm.trans hwj') (ih _ w hcl' hC hfree' hr' (hS undef w _ hC (fun _=>rfl) (by rw [← hcomm];exact hkj)))
     |quiet hwj' hjes u hrun hst hkj=>
      rw [hej] at hrun hst
      exact .quiet ((hwj v).symm.trans hwj') hjes u hrun hst (ih _ w hcl' hC hfree' hr' (hS u w _ hC (fun _=>rfl) (by rw [← hcomm];exact hkj)))
     |eff hwj' hjes hkj=>
      rw [hej] at hkj
      exact .eff ((hwj v).symm.trans hwj') hjes (hkj.mono fun u w2 hk2=>ih _ w2 hcl' hk2.inC hfree' hr' (hS u w2 _ hk2.inC (fun hps=>(hnb j hjes i (.inr hps) hji (.inr rfl) L hcl hj hr).elim) (by rw [← hcomm];exact hk2)))
    ·
     obtain ⟨v0,w1,h0⟩:=hk.ex
     cases hJ v0 w1 h0 with
     |pass hwj' hkj=>
      have hwa:=(hwj v0).symm.trans hwj'
      refine .pass hwa (ih _ w hcl' hC hfree' hr' (EOp.of_put hap hsi (.eff hw hies hk) fun v w' h=> ?_))
      cases hJ v w' h with
      |pass _ h' =>rw [← hcomm];exact h'
      |quiet hw2 _ _ _ _ _=>rw [hwj,hwa] at hw2;cases hw2
      |eff hw2 _ _=>rw [hwj,hwa] at hw2;cases hw2
     |quiet hwj' hjes u hrun hst hkj=>
      have hwa:=(hwj v0).symm.trans hwj'
      have hst2: ∀ w1,C w1→(execOp a.eval oj).run P w1= .ok (.value u) w1:=by
       rcases hst with h|h
       ·
        exact (hnb i hies j (.inr h) (Ne.symm hji) (.inl rfl) L hcl hr hj).elim
       ·
        rw [hej] at h;exact h
      refine .quiet hwa hjes u (hst2 w hC) (.inr hst2) (ih _ w hcl' hC hfree' hr' (EOp.of_put hap hsi (.eff hw hies hk) fun v w' h=> ?_))
      cases hJ v w' h with
      |pass hw2 _=>rw [hwj,hwa] at hw2;cases hw2
      |eff _ hjes2 _=>exact absurd hjes2 hjes
      |quiet _ _ u' hr2 hst' h' =>
       have hst3:(execOp a.eval oj).run P w= .ok (.value u') w:=by
        rcases hst' with h|h
        ·
         exact (hnb i hies j (.inr h) (Ne.symm hji) (.inl rfl) L hcl hr hj).elim
        ·
         have:=h w hC
         rw [hej] at this;exact this
       rw [hst2 w hC] at hst3
       injection hst3 with h4
       injection h4 with h4
       subst h4
       rw [← hcomm];exact h'
     |eff hwj' hjes hkj=>exact (hnb i hies j (.inl hjes) (Ne.symm hji) (.inl rfl) L hcl hr hj).elim⟩
end
section
variable {P:Program} {n:Fr} {w0:World} {Q:bM} {s:az} {H S:List Blk} {l:List Oper} {ty:TypeId} {p:String} {af:Array Edge} {es:List Nat} {gu:Option (Nat × Bool)} {f:Nat} {L:Array Bool}
def WE (P:Program) (n:Fr) (w0:World) (l:List Oper) (S:List Blk) (es:List Nat) (Q:bM) (f:Nat) (L:Array Bool) (s:az) (H:List Blk):Prop:=
 ∀ a w,St n s a→Mem w0 w H→Mem w0 w S→ClosedL l.toArray L→AnyE P l.toArray es [] (fun w=>Mem w0 w S) (post n w0 Q .normal) f L a w
theorem wg {id:Nat} (es:List Nat) (S:List Blk) (N:Nat) (hN:l.length=N) (hm:P.follows .mixedOrders=true) (hS:MSub S H)
  (h:WE P n w0 l S es Q N (Array.replicate N false) s H):W P n w0 (.region id l.toArray true) Q s H:=by
 intro a w hs hmem
 subst hN
 refine wp_region_any hm (fk (es:=es) (ps:= []) (C:=fun w=>Mem w0 w S) (Q:=post n w0 Q .normal) (fun _ _ h=>h) _ _ _ _ ?_)
 have hcl:ClosedL l.toArray (Array.replicate l.length false):=fun i o _ hi=>by
  rw [Np,Po] at hi
  split at hi<;>cases hi
 have:=h a _ hs hmem.drew (hS.use hmem.drew) hcl
 simpa using this
theorem v7 (hr:Region.ready .any l.toArray L= []) (h:Q .normal s H):WE P n w0 l S es Q f L s H:=by
 intro a w hs hm hS hcl
 cases f with
 |zero=>exact ⟨hS,hr,s,H,hs,hm,h⟩
 |succ f=>exact ⟨hS,fun _=>⟨s,H,hs,hm,h⟩,fun i hi=>by rw [hr] at hi;cases hi⟩
theorem fS {i:Nat} {op:Op} {d:Nat} {v:Value} (hi:l[i]? =some ⟨some d,op,ty,p,af,gu⟩) (hn:Nat.blt d n.sz=true) (hg:gok l s gu=some true) (hk:es.contains i=false) (hsel:Region.noSelect l.toArray=true)
  (hr:(Region.ready .any l.toArray L).contains i=true) (hf:Region.free .any l.toArray L i=true) (hv:VOp P w0 s S op ty v) (h:WE P n w0 l S es Q f (L.setIfInBounds i true) ((d,v)::s) H):WE P n w0 l S es Q (f+1) L s H:=by
 intro a w hs hm hS hcl
 have hi' :l.toArray[i]? =some ⟨some d,op,ty,p,af,gu⟩:=by simpa using hi
 have hr' :i∈Region.ready .any l.toArray L:=by simpa using hr
 have hk' :i∉es:=by simpa using hk
 refine qf hi' (Region.noSelect_spec hsel) (fun x hx y hy _ hxy=> ?_) f L a w hcl hS (Region.free_spec hi' hf) hr'
  (.quiet (dK rfl hg hs) hk' v (hv a.eval w (some d) p af gu hs.eval hS) (.inr fun w1 h1=>hv a.eval w1 (some d) p af gu hs.eval h1) (h _ _ (hs.put (NL ▸ hn) v) hm hS (hcl.set hr')))
 rcases hxy with rfl|rfl
 ·
  exact (hk' hx).elim
 ·
  rcases hy with hy|hy
  ·
   exact (hk' hy).elim
  ·
   cases hy
theorem l6 {i:Nat} {op:Op} {dst:Option Tmp} (hi:l[i]? =some ⟨dst,op,ty,p,af,gu⟩) (hg:gok l s gu=some true) (hk:es.contains i=true) (hr:(Region.ready .any l.toArray L).contains i=true)
  (h:WL P n w0 #[] [⟨dst,op,ty,p,af,none⟩] (ceP S (WE P n w0 l S es Q f (L.setIfInBounds i true))) s H) (a:Act) (w:World) (hs:St n s a) (hm:Mem w0 w H) (hcl:ClosedL l.toArray L):
  EOp P l.toArray es [] (fun w=>Mem w0 w S) (AnyE P l.toArray es [] (fun w=>Mem w0 w S) (post n w0 Q .normal) f (L.setIfInBounds i true)) i ⟨dst,op,ty,p,af,gu⟩ a w:=by
 have hr' :i∈Region.ready .any l.toArray L:=by simpa using hr
 refine .eff (dK rfl hg hs) (by simpa using hk) ?_
 have h1:=h a w hs hm
 unfold wpList at h1
 simp only [Region.wanted,if_true] at h1
 replace h1:=h1.elim id fun ⟨_,a0,w1,s',H'',_,_,he,_⟩=>by cases he
 have hexec:execOp a.eval ⟨dst,op,ty,p,af,gu⟩=execOp a.eval ⟨dst,op,ty,p,af,none⟩:=rfl
 rw [hexec]
 have nxt: ∀ (a' :Act) (w' :World),wpList P #[] (post n w0 (ceP S (WE P n w0 l S es Q f (L.setIfInBounds i true)))) [] a' w' →AnyE P l.toArray es [] (fun w=>Mem w0 w S) (post n w0 Q .normal) f (L.setIfInBounds i true) a' w' :=by
  rintro a' w' ⟨s',H',hs',hm',_,hSub,hK⟩
  exact hK a' w' hs' hm' (hSub.use hm') (hcl.set hr')
 unfold Oper.wp at h1
 generalize (execOp a.eval ⟨dst,op,ty,p,af,none⟩).run P w=r at h1 ⊢
 cases r with
 |ok x w' =>
  cases x<;>simp only [Oper.upon] at h1<;>simp only [NormUp]
  case value u=>exact nxt _ _ h1
  case skip=>exact nxt _ _ h1
  case defer dd=>
   obtain ⟨s',H'',hs',_⟩:=h1
   have h2:=congrArg List.length (hs'.defers.trans hs.defers.symm)
   cases dst<;>simp [Act.put] at h2
  case enter f args=>
   refine h1.mono fun e w'' he=> ?_
   cases e with
   |returned v=>exact ⟨v,rfl,nxt _ _ he⟩
   |panicked c=>
    obtain ⟨s',H'',_,_,he',_⟩:=he
    cases he'
   |outgrown=>
    obtain ⟨a0,w1,s',H'',_,_,he',_⟩:=he
    cases he'
  case row f args=>exact Rows.mono h1 fun u w'' he=>nxt _ _ he
 |halt x w' =>
  cases x<;>simp only [Oper.upon] at h1
  all_goals
   obtain ⟨s',H'',_,_,he',_⟩:=h1
   cases he'
theorem fH {i:Nat} {op:Op} {dst:Option Tmp} (hi:l[i]? =some ⟨dst,op,ty,p,af,gu⟩) (hg:gok l s gu=some true) (hk:es.contains i=true) (hr:Region.ready .any l.toArray L= [i])
  (h:WL P n w0 #[] [⟨dst,op,ty,p,af,none⟩] (ceP S (WE P n w0 l S es Q f (L.setIfInBounds i true))) s H):WE P n w0 l S es Q (f+1) L s H:=by
 intro a w hs hm hS hcl
 refine ⟨hS,fun h0=>(by rw [hr] at h0;cases h0),fun j hj=> ?_⟩
 rw [hr] at hj
 have e:j=i:=by simpa using hj
 subst e
 exact ⟨_,by simpa using hi,l6 hi hg hk (by rw [hr];simp) h a w hs hm hcl⟩
theorem jC {i j:Nat} {op op' :Op} {dst dst' :Option Tmp} {ty' :TypeId} {p' :String} {af' :Array Edge} {gu' :Option (Nat × Bool)} (hi:l[i]? =some ⟨dst,op,ty,p,af,gu⟩) (hj:l[j]? =some ⟨dst',op',ty',p',af',gu'⟩) (hg:gok l s gu=some true) (hg' :gok l s gu' =some true)
  (hk:es.contains i=true) (hk' :es.contains j=true) (hr:Region.ready .any l.toArray L= [i,j])
  (h:WL P n w0 #[] [⟨dst,op,ty,p,af,none⟩] (ceP S (WE P n w0 l S es Q f (L.setIfInBounds i true))) s H)
  (h' :WL P n w0 #[] [⟨dst',op',ty',p',af',none⟩] (ceP S (WE P n w0 l S es Q f (L.setIfInBounds j true))) s H):WE P n w0 l S es Q (f+1) L s H:=by
 intro a w hs hm hS hcl
 refine ⟨hS,fun h0=>(by rw [hr] at h0;cases h0),fun k hk0=> ?_⟩
 rw [hr] at hk0
 rcases M8.1 hk0 with e|hk0
 ·
  subst e
  exact ⟨_,by simpa using hi,l6 hi hg hk (by rw [hr];simp) h a w hs hm hcl⟩
 ·
  have e:k=j:=by simpa using hk0
  subst e
  exact ⟨_,by simpa using hj,l6 hj hg' hk' (by rw [hr];simp) h' a w hs hm hcl⟩
end
theorem tP (z:Array Value) (n:Nat) (u:Value) (h:u∈(Builtin.zeroCells z n).toList):u∈z.toList:=by
 rw [Array.mem_toList_iff,Builtin.zeroCells,Array.mem_map] at h
 obtain ⟨i,hi,rfl⟩:=h
 rw [Array.mem_range] at hi
 have hz:0<z.size:=by
  rcases NP z.size with h|h
  ·
   rw [h] at hi;simp at hi
  ·
   exact h
 have hl:i % z.size<z.size:=Nat.mod_lt _ hz
 rw [getElem!_pos z (i % z.size) hl,Array.mem_toList_iff]
 exact Array.getElem_mem hl
theorem xD {P:Program} {n:Fr} {w0:World} {Q:bM} {s:az} {H:List Blk} {rest:List Oper} {ty:TypeId} {p:String} {af:Array Edge} {t e k n' c cx g sz:Nat} {x:Operand} {xs:List Value} {R:List Blk} {ops:Array Oper} {z:Value} [ht:Und P t (.slice e)] [hz:Zero P e z]
  (hx:ev s x=some (.slice (some ⟨g,k*sz,none⟩) (n' - k) cx)) (hk:k<n') (hsel:Sel (.own (some g) e sz n' c xs) H R) (hz1: ∀ u∈z.cells.toList,u.oneCell' =true) (hzs:z.cells.size=sz)
  (K:WL P n w0 ops rest Q s (.own (some g) e sz k c (xs.take (k*sz))::R)):
  WL P n w0 ops (⟨none,.call { callee:= .builtin .clear,args:= #[x],argTypes:= #[t] },ty,p,af,none⟩::rest) Q s H:=by
 intro a w hs hm
 have hm' :=hm.sel hsel
 obtain ⟨i,i1,i2⟩:=hz.out
 obtain ⟨b1,b2,b3,junk,b4,b5⟩:=(hm'.on _ MY).1
 have hzl:(Builtin.zeroCells z.cells (n' - k)).toList.length=(n' - k)*sz:=by rw [Array.length_toList,size_zeroCells,hzs]
 have hkn:k*sz+(n' - k)*sz=n' *sz:=by rw [← Pj];congr 1;omega
 have hst:=run_storeCells_at (P:=P) g (k*sz) e (Builtin.zeroCells z.cells (n' - k)).toList 0 _ w b5 (by simp only [Pu,MT,hzl];omega) (fun u hu=>hz1 u (tP _ _ _ hu))
 simp only [OU,hzl,hkn] at hst
 have hn0: ¬ n' - k=0:=by omega
 obtain ⟨m,hm2⟩: ∃ m,n' - k=m+1:=⟨n' - k - 1,by omega⟩
 have hrun:(Builtin.clear_ #[t] ty #[.slice (some ⟨g,k*sz,none⟩) (n' - k) cx]).run P w= .ok (.tuple #[]) (w.setRow g ((xs++junk).take (k*sz)++(Builtin.zeroCells z.cells (n' - k)).toList++(xs++junk).drop (n' *sz)).toArray):=by
  rw [hm2] at hst ⊢
  simp [Builtin.clear_,run_underlying ht.out,zeroValue,typeInfo,i1,i2,hst]
 refine wpList_plain rfl fun K' hK=> ?_
 unfold Oper.wp execOp
 simp only [resolve,invoke,builtin,Sem.run_bind,Sem.run_pure,Result.andThen_ok,OH,NA,Oz,hs.eval x _ hx,hrun,Oper.upon]
 refine hK _ _ (K _ _ (hs.put_none _) (hm'.upd (eJ _ _ _) (b' := .own (some g) e sz k c (xs.take (k*sz))) ⟨?_,by omega,b3,(Builtin.zeroCells z.cells (n' - k)).toList++(xs++junk).drop (n' *sz),?_,?_⟩ fun k hk=> .inl hk))
 ·
  rw [Nj,b1];omega
 ·
  have hle:n' *sz≤c*sz:=Nat.mul_le_mul_right _ b2
  simp only [MT,Nj,M6,hzl]
  rw [MT] at b4
  omega
 ·
  rw [O7 (by omega)]
  rw [← NC]
  exact setRow_heap _ _ _ _ _ _ b5
abbrev vS (x:BitVec 64):Value:= .int .u64 (x.toNat:Int)
theorem qL (x:BitVec 64):IntKind.u64.wrap (x.toNat:Int)=x.toNat:=by
 rw [IntKind.wrap_u64];have:=x.isLt;omega
theorem iW (x:BitVec 64):BitVec.ofInt 64 (x.toNat:Int)=x:=by
 rw [BitVec.ofInt_natCast,BitVec.ofNat_toNat,BitVec.setWidth_eq]
theorem HA (a b:BitVec 64):((a.toNat:Int)==b.toNat)=decide (a=b):=by
 by_cases h:a=b
 ·
  subst h;simp
 ·
  rw [decide_eq_false h,beq_eq_false_iff_ne];intro h2;exact h (Py (by omega))
section
variable {P:Program} {n:Fr} {w0:World} {Q:bM} {s:az} {H:List Blk} {l rest:List Oper} {ty:TypeId} {p:String} {af:Array Edge}
theorem qx {x y:Operand} {a b:BitVec 64} {t t' :TypeId} (hx:ev s x=some (vS a)) (hy:ev s y=some (vS b)):
  VOp P w0 s H (.binOp .and t x y t') ty (vS (a &&& b)):=by
 have h:Go.bits .and .u64 (a.toNat:Int) b.toNat=((a &&& b).toNat:Int):=by
  show IntKind.u64.wrap ((BitVec.ofInt 64 (a.toNat:Int) &&& BitVec.ofInt 64 (b.toNat:Int)).toNat:Int)=_
  rw [iW,iW,qL]
 unfold vS at hx hy ⊢
 rw [← h]
 clear h
 generalize (a.toNat:Int)=z at hx ⊢
 generalize (b.toNat:Int)=z2 at hy ⊢
 exact fun ρ w _ _ _ _ hρ _=>by simp [execOp,hρ x _ hx,hρ y _ hy,eqGuard,binOp,intBits_and]
theorem oX {x y:Operand} {a b:BitVec 64} {t t' :TypeId} (hx:ev s x=some (vS a)) (hy:ev s y=some (vS b)):
  VOp P w0 s H (.binOp .or t x y t') ty (vS (a|||b)):=by
 have h:Go.bits .or .u64 (a.toNat:Int) b.toNat=((a|||b).toNat:Int):=by
  show IntKind.u64.wrap ((BitVec.ofInt 64 (a.toNat:Int)|||BitVec.ofInt 64 (b.toNat:Int)).toNat:Int)=_
  rw [iW,iW,qL]
 unfold vS at hx hy ⊢
 rw [← h]
 clear h
 generalize (a.toNat:Int)=z at hx ⊢
 generalize (b.toNat:Int)=z2 at hy ⊢
 exact fun ρ w _ _ _ _ hρ _=>by simp [execOp,hρ x _ hx,hρ y _ hy,eqGuard,binOp,intBits_or]
theorem dG {x y:Operand} {a b:BitVec 64} {t t' :TypeId} (hx:ev s x=some (vS a)) (hy:ev s y=some (vS b)):
  VOp P w0 s H (.binOp .andNot t x y t') ty (vS (a &&& ~~~b)):=by
 have h:Go.bits .andNot .u64 (a.toNat:Int) b.toNat=((a &&& ~~~b).toNat:Int):=by
  show IntKind.u64.wrap ((BitVec.ofInt 64 (a.toNat:Int) &&& ~~~BitVec.ofInt 64 (b.toNat:Int)).toNat:Int)=_
  rw [iW,iW,qL]
 unfold vS at hx hy ⊢
 rw [← h]
 clear h
 generalize (a.toNat:Int)=z at hx ⊢
 generalize (b.toNat:Int)=z2 at hy ⊢
 exact fun ρ w _ _ _ _ hρ _=>by simp [execOp,hρ x _ hx,hρ y _ hy,eqGuard,binOp,intBits_andNot]
theorem I4 {x y:Operand} {k' :IntKind} {a:BitVec 64} {m:Nat} {t t' :TypeId} (hx:ev s x=some (vS a)) (hy:ev s y=some (.int k' (m:Nat))) (hm:m≤64):
  VOp P w0 s H (.binOp .shr t x y t') ty (vS (a>>>m)):=by
 have h:=FG (P:=P) (w0:=w0) (H:=H) (ty:=ty) (t:=t) (t' :=t') hx hy (by simpa [IntKind.bits] using hm)
 have e:((a.toNat:Int) / 2 ^ m)=((a>>>m).toNat:Int):=by
  rw [BitVec.toNat_ushiftRight,Nat.shiftRight_eq_div_pow];norm_cast
 rwa [e] at h
theorem wo {x y:Operand} {k' :IntKind} {a:BitVec 64} {m:Nat} {t t' :TypeId} (hx:ev s x=some (vS a)) (hy:ev s y=some (.int k' (m:Nat))) (hm:m≤64):
  VOp P w0 s H (.binOp .shl t x y t') ty (vS (a<<<m)):=by
 have e:IntKind.u64.wrap ((a.toNat:Int)*2 ^ m)=((a<<<m).toNat:Int):=by
  rw [BitVec.toNat_shiftLeft,Nat.shiftLeft_eq,IntKind.wrap_u64]
  generalize a.toNat=u
  have h64:(2:Nat) ^ 64=18446744073709551616:=by decide
  rw [h64,Int.natCast_emod,Int.natCast_mul,Int.natCast_pow];rfl
 unfold vS at hx ⊢
 rw [← e]
 clear e
 generalize (a.toNat:Int)=z at hx ⊢
 have h0:(0:Int)≤(m:Int):=by omega
 have hb:min m IntKind.u64.bits=m:=OK hm
 exact fun ρ w _ _ _ _ hρ _=>by simp [execOp,hρ x _ hx,hρ y _ hy,eqGuard,binOp,shift_shl_any .u64 k' z m h0,hb]
theorem I2 {x y:Operand} {a b:BitVec 64} {t t' :TypeId} (hx:ev s x=some (vS a)) (hy:ev s y=some (vS b)):
  VOp P w0 s H (.binOp .sub t x y t') ty (vS (a - b)):=by
 have e:IntKind.u64.wrap ((a.toNat:Int) - b.toNat)=((a - b).toNat:Int):=by
  rw [BitVec.toNat_sub,IntKind.wrap_u64]
  have h1:=a.isLt
  have h2:=b.isLt
  omega
 unfold vS at hx hy ⊢
 rw [← e]
 clear e
 generalize (a.toNat:Int)=z at hx ⊢
 generalize (b.toNat:Int)=z2 at hy ⊢
 exact fun ρ w _ _ _ _ hρ _=>by simp [execOp,hρ x _ hx,hρ y _ hy,eqGuard,binOp,Op.intArith]
theorem CF {x y:Operand} {a b:BitVec 64} {t t' :TypeId} (hx:ev s x=some (vS a)) (hy:ev s y=some (vS b)):
  VOp P w0 s H (.binOp .eql t x y t') ty (.bool (decide (a=b))):=fun ρ w _ _ _ _ hρ _=>by
 have e:=HA a b
 simp [execOp,hρ x _ hx,hρ y _ hy,eqGuard,binOp,Op.intCmp,e,vS]
theorem gU {x y:Operand} {a b:BitVec 64} {t t' :TypeId} (hx:ev s x=some (vS a)) (hy:ev s y=some (vS b)):
  VOp P w0 s H (.binOp .neq t x y t') ty (.bool (!decide (a=b))):=fun ρ w _ _ _ _ hρ _=>by
 have e:=HA a b
 have e2:((a.toNat:Int)=b.toNat)↔a=b:=⟨fun h=>Py (by omega),fun h=>by rw [h]⟩
 simp [execOp,hρ x _ hx,hρ y _ hy,eqGuard,binOp,Op.intCmp,vS,bne,BEq.beq,e2]
end
def xe (n:Nat):BitVec 64:=(1#64<<<n) - 1#64
def fA (x:BitVec 64) (u:Int):Bool:=decide (0≤u) && decide (u<64) && x.getLsbD u.toNat
theorem Ju (x:BitVec 64) (m:Nat):decide ((x>>>m) &&& 1#64=1#64)=x.getLsbD m:=by
 have h:(x>>>m) &&& 1#64=if x.getLsbD m then 1#64 else 0#64:=by
  apply Pr
  intro i hi
  rw [O2,BitVec.getLsbD_ushiftRight]
  rcases i with _|i
  ·
   cases hx:x.getLsbD m<;>simp [hx]
  ·
   cases hx:x.getLsbD m<;>simp [BitVec.getLsbD_one]
 rw [h]
 cases x.getLsbD m<;>decide
def eW (x:Int):Value:= .int .i64 x
theorem uG {P:Program} {w0:World} {s:az} {H:List Blk} {ty t t' :TypeId} {x y:Operand} {a b:Int} {c:Bool} (h:decide (a=b)=c) (hx:ev s x=some (eW a)) (hy:ev s y=some (eW b)):
  VOp P w0 s H (.binOp .eql t x y t') ty (.bool c):=fun ρ w _ _ _ _ hρ _=>by
 subst h
 have e:(a==b)=decide (a=b):=by rw [NG];simp
 simp [execOp,hρ x _ hx,hρ y _ hy,eqGuard,binOp,Op.intCmp,eW,e]
theorem uF {P:Program} {w0:World} {s:az} {H:List Blk} {ty t t' :TypeId} {x y:Operand} {a b:Int} {c:Bool} (h:decide (a=b)=c) (hx:ev s x=some (eW a)) (hy:ev s y=some (eW b)):
  VOp P w0 s H (.binOp .neq t x y t') ty (.bool (!c)):=fun ρ w _ _ _ _ hρ _=>by
 subst h
 simp [execOp,hρ x _ hx,hρ y _ hy,eqGuard,binOp,Op.intCmp,eW,bne,BEq.beq]
end Go.SL
namespace Go.SL
open Go
structure Rl where
 rect:Rct
 read:BitVec 64
 write:BitVec 64
 own:BitVec 64
def bf (r:Rl):List Value:= [.int .i64 r.rect.c1,.int .i64 r.rect.r1,.int .i64 r.rect.c2,.int .i64 r.rect.r2,vS r.read,vS r.write,vS r.own]
theorem dg (r:Rl):(bf r).length=7:=rfl
structure Gn where
 rect:Rct
 fns:Int
 to:BitVec 64
 by_:Int
 rev:Bool
def bg (g:Gn):List Value:= [.int .i64 g.rect.c1,.int .i64 g.rect.r1,.int .i64 g.rect.c2,.int .i64 g.rect.r2,.int .u8 g.fns,vS g.to,.int .i64 g.by_,.bool g.rev]
theorem cW (g:Gn):(bg g).length=8:=rfl
def EC (x:Int):List Int→List Int
 | []=> [x]
 |y::l=>if x≤y then x::y::l else y::EC x l
def qD (l:List Int):List Int:=l.foldr EC []
def iF (l:List Int):List Int:=l.mergeSort fun x y=>decide (x≤y)
theorem ph (x:Int): ∀ l:List Int,(EC x l).Perm (x::l)
 | []=> .refl _
 |y::l=>by
  rw [EC];split
  ·
   exact .refl _
  ·
   exact ((ph x l).cons y).trans (.swap x y l)
theorem pX (x:Int): ∀ {l:List Int},l.Pairwise (· ≤ ·)→(EC x l).Pairwise (· ≤ ·)
 | [],_=>O4 _ _
 |y::l,h=>by
  have h1:=Nr.1 h
  rw [EC];split
  ·
   rename_i hxy
   refine Nr.2 ⟨fun z hz=> ?_,h⟩
   rcases M8.1 hz with rfl|hz
   ·
    exact hxy
   ·
    exact Int.le_trans hxy (h1.1 z hz)
  ·
   refine Nr.2 ⟨fun z hz=> ?_,pX x h1.2⟩
   rcases M8.1 ((ph x l).mem_iff.1 hz) with rfl|hz
   ·
    omega
   ·
    exact h1.1 z hz
theorem ou: ∀ l:List Int,(qD l).Perm l
 | []=> .refl _
 |x::l=>(ph x _).trans ((ou l).cons x)
theorem lQ: ∀ l:List Int,(qD l).Pairwise (· ≤ ·)
 | []=> .nil
 |x::l=>pX x (lQ l)
theorem gI (l:List Int):(iF l).Perm l:=List.mergeSort_perm _ _
theorem nK (l:List Int):(iF l).Pairwise (· ≤ ·):=by
 have h:=List.pairwise_mergeSort (le:=fun x y:Int=>decide (x≤y)) (fun a b c h1 h2=>by simp only [decide_eq_true_eq] at*;omega) (fun a b=>by simp only [OG,decide_eq_true_eq];omega) l
 exact h.imp fun h=>by simpa using h
theorem mF: ∀ {l m:List Int},l.Pairwise (· ≤ ·)→m.Pairwise (· ≤ ·)→l.Perm m→l=m
 | [],m,_,_,h=>(List.nil_perm.1 h).symm
 |a::l,[],_,_,h=>absurd h.length_eq (by simp)
 |a::l,b::m,h1,h2,h=>by
  have k1:=Nr.1 h1
  have k2:=Nr.1 h2
  have hab:a=b:=by
   have ha:a∈b::m:=h.mem_iff.1 MY
   have hb:b∈a::l:=h.mem_iff.2 MY
   rcases M8.1 ha with e|ha
   ·
    exact e
   ·
    rcases M8.1 hb with e|hb
    ·
     exact e.symm
    ·
     have:=k2.1 a ha
     have:=k1.1 b hb
     omega
  subst hab
  rw [mF k1.2 k2.2 ((List.perm_cons a).1 h)]
theorem FV (l:List Int):iF l=qD l:=mF (nK l) (lQ l) ((gI l).trans (ou l).symm)
def fD:List Int→List Int
 | []=> []
 |a::l=>if l.head? =some a then fD l else a::fD l
theorem vF (x:Int): ∀ l:List Int,fD (l++ [x])=if l.getLast? =some x then fD l else fD l++ [x]
 | []=>by simp [fD]
 | [a]=>by
  by_cases h:x=a
  ·
   subst h;simp [fD]
  ·
   have h2: ¬ a=x:=fun e=>h e.symm
   simp [fD,h,h2]
 |a::b::l=>by
  have ih:=vF x (b::l)
  have h0: ∀ l,fD (a::l)=if l.head? =some a then fD l else a::fD l:=fun _=>rfl
  have hh:(b::l++ [x]).head? =(b::l).head? :=rfl
  rw [List.getLast?_cons_cons,MU,h0,h0,hh,ih]
  by_cases h1:(b::l).head? =some a
  ·
   simp only [h1,if_true]
  ·
   simp only [h1,if_false];split<;>rfl
theorem vE {L:List Int} {j:Nat} (h:j<L.length) (h0:0<j):fD (L.take (j+1))=if L[j]=L[j - 1] then fD (L.take j) else fD (L.take j)++ [L[j]]:=by
 have h1:L.take (j+1)=L.take j++ [L[j]]:=by rw [M9 h]
 have h2:(L.take j).getLast? =some L[j - 1]:=by
  rw [PL,Nj,OK (by omega),OO (by omega),MV (by omega)]
 rw [h1,vF,h2]
 simp only [Option.some.injEq,eq_comm]
theorem zG {L:List Int} (h:L.length≤1):fD L=L:=by
 match L,h with
 | [],_=>rfl
 | [a],_=>rfl
theorem lI {x:Int}: ∀ {l:List Int},x∈fD l↔x∈l
 | []=>Iff.rfl
 |a::l=>by
  rw [fD]
  split
  ·
   rename_i h
   rw [lI (l:=l),M8]
   exact ⟨.inr,fun h2=>h2.elim (fun e=>by subst e;exact List.mem_of_mem_head? h) id⟩
  ·
   rw [M8,M8,lI (l:=l)]
theorem tA: ∀ l:List Int,(fD l).length≤l.length
 | []=>MZ _
 |a::l=>by
  have:=tA l
  rw [fD]
  split<;>simp only [Nq]<;>omega
theorem qa: ∀ {l:List Int},l.Pairwise (· ≤ ·)→(fD l).Pairwise (· < ·)
 | [],_=> .nil
 |a::l,h=>by
  have h1:=Nr.1 h
  have ih:=qa h1.2
  rw [fD]
  split
  ·
   exact ih
  ·
   rename_i hh
   refine Nr.2 ⟨fun y hy=> ?_,ih⟩
   have hyl:=lI.1 hy
   have h2:=h1.1 y hyl
   by_cases e:a=y
   ·
    subst e
    cases l with
    |nil=>cases hyl
    |cons b l=>
     have h3:=h1.1 b MY
     have h4:=Nr.1 h1.2
     rcases M8.1 hyl with e|hm
     ·
      subst e;exact absurd rfl hh
     ·
      have h5:=h4.1 a hm
      have h6:b=a:=by omega
      subst h6;exact absurd rfl hh
   ·
    omega
def dq:List Int→Int→List (Int × Int)
 | [],_=> []
 | [x],h=> [(x,h)]
 |x::y::l,h=>(x,y - 1)::dq (y::l) h
theorem js (x h:Int): ∀ l:List Int,dq (l++ [x]) h=dq l (x - 1)++ [(x,h)]
 | []=>rfl
 | [a]=>rfl
 |a::b::l=>by
  have ih:=js x h (b::l)
  show (a,b - 1)::dq (b::l++ [x]) h=_
  rw [ih];rfl
theorem kI (h:Int): ∀ l:List Int,(dq l h).length=l.length
 | []=>rfl
 | [a]=>rfl
 |a::b::l=>by
  have ih:=kI h (b::l)
  show (dq (b::l) h).length+1=_
  rw [ih];rfl
theorem yU (l:List Int) (h h' :Int) (hl:l≠ []): ∃ f a,dq l h=f++ [(a,h)]∧dq l h' =f++ [(a,h')]:=by
 have e:=OA hl
 refine ⟨dq l.dropLast (l.getLast hl - 1),l.getLast hl,?_,?_⟩
 ·
  conv=>lhs;rw [← e]
  rw [js]
 ·
  conv=>lhs;rw [← e]
  rw [js]
def cR (lo:Int) (ps:List (Int × Int)):List Int:=lo::ps.flatMap fun p=> [p.1,p.2+1]
def tu (lo hi:Int) (ps:List (Int × Int)):List Int:=(fD (iF (cR lo ps))).filter fun x=>decide (lo≤x) && decide (x≤hi)
def cf (lo hi:Int) (ps:List (Int × Int)):List (Int × Int):=dq (tu lo hi ps) hi
theorem fN {lo hi x:Int} {ps:List (Int × Int)}:x∈tu lo hi ps↔(x=lo∨ ∃ p∈ps,x=p.1∨x=p.2+1)∧lo≤x∧x≤hi:=by
 rw [tu,List.mem_filter,lI,(gI _).mem_iff,cR,M8,NR]
 simp
theorem kQ (lo hi:Int) (ps:List (Int × Int)):(tu lo hi ps).Pairwise (· < ·):=(qa (nK _)).filter _
theorem qb (lo:Int) (ps:List (Int × Int)):(cR lo ps).length=1+2*ps.length:=by
 unfold cR
 induction ps with
 |nil=>rfl
 |cons p ps ih=>simp only [Nc,Nq,MT,Pp] at ih ⊢;omega
theorem gT (lo hi:Int) (ps:List (Int × Int)):(cf lo hi ps).length≤1+2*ps.length:=by
 rw [cf,kI,tu]
 refine Nt (Pw _ _) (Nt (tA _) ?_)
 rw [(gI _).length_eq,qb];exact MZ _
theorem mh: ∀ {l:List Int} {h:Int},l.Pairwise (· < ·)→(∀ x∈l,x≤h)→ ∀ {p:Int × Int},p∈dq l h→p.1∈l∧p.1≤p.2∧p.2≤h∧ ∀ x∈l,¬ (p.1<x∧x≤p.2)
 | [],h,_,_,p,hp=>by cases hp
 | [a],h,_,hx,p,hp=>by
  rw [Nz.1 hp]
  have:=hx a (by simp)
  exact ⟨by simp,this,Od _,fun x hx=>by rw [Nz.1 hx];simp only;omega⟩
 |a::b::l,h,hs,hx,p,hp=>by
  have h1:=Nr.1 hs
  have hab:=h1.1 b MY
  rcases M8.1 hp with rfl|hp
  ·
   refine ⟨MY,by simp only;omega,by have:=hx b (by simp);simp only;omega,fun x hm=> ?_⟩
   simp only
   rcases M8.1 hm with rfl|hm
   ·
    omega
   ·
    rcases M8.1 hm with rfl|hm
    ·
     omega
    ·
     have:=(Nr.1 h1.2).1 x hm;omega
  ·
   obtain ⟨k1,k2,k3,k4⟩:=mh h1.2 (fun x hm=>hx x (M7 _ hm)) hp
   refine ⟨M7 _ k1,k2,k3,fun x hm=> ?_⟩
   rcases M8.1 hm with rfl|hm
   ·
    have:=h1.1 p.1 k1;omega
   ·
    exact k4 x hm
theorem nZ: ∀ {l:List Int} {h:Int},l.Pairwise (· < ·)→(∀ x∈l,x≤h)→(dq l h).Pairwise fun p q=>p.2<q.1
 | [],_,_,_=> .nil
 | [a],_,_,_=>O4 _ _
 |a::b::l,h,hs,hx=>by
  have h1:=Nr.1 hs
  refine Nr.2 ⟨fun q hq=> ?_,nZ h1.2 fun x hm=>hx x (M7 _ hm)⟩
  have hq1:=(mh h1.2 (fun x hm=>hx x (M7 _ hm)) hq).1
  simp only
  rcases M8.1 hq1 with e|hm
  ·
   omega
  ·
   have:=(Nr.1 h1.2).1 _ hm;omega
theorem pQ: ∀ {l:List Int} {h v:Int},(∃ x∈l,x≤v)→v≤h→ ∃ p∈dq l h,p.1≤v∧v≤p.2
 | [],h,v,⟨x,hx,_⟩,_=>by cases hx
 | [a],h,v,⟨x,hx,h1⟩,h2=>by rw [Nz.1 hx] at h1;exact ⟨(a,h),Nz.2 rfl,h1,h2⟩
 |a::b::l,h,v,⟨x,hx,h1⟩,h2=>by
  by_cases hb: ∃ x∈b::l,x≤v
  ·
   obtain ⟨p,hp,h3⟩:=pQ (h:=h) hb h2
   exact ⟨p,M7 _ hp,h3⟩
  ·
   rcases M8.1 hx with rfl|hx
   ·
    refine ⟨(x,b - 1),MY,h1,?_⟩
    have: ¬ b≤v:=fun e=>hb ⟨b,MY,e⟩
    simp only;omega
   ·
    exact absurd ⟨x,hx,h1⟩ hb
theorem dU {lo hi:Int} {ps:List (Int × Int)} {p:Int × Int} (hp:p∈cf lo hi ps):lo≤p.1∧p.1≤p.2∧p.2≤hi:=by
 obtain ⟨h1,h2,h3,_⟩:=mh (kQ lo hi ps) (fun x hx=>(fN.1 hx).2.2) hp
 exact ⟨(fN.1 h1).2.1,h2,h3⟩
theorem oM (lo hi:Int) (ps:List (Int × Int)):(cf lo hi ps).Pairwise fun p q=>p.2<q.1:=nZ (kQ lo hi ps) fun x hx=>(fN.1 hx).2.2
theorem qd {lo hi v:Int} {ps:List (Int × Int)} (h1:lo≤v) (h2:v≤hi): ∃ p∈cf lo hi ps,p.1≤v∧v≤p.2:=
 pQ ⟨lo,fN.2 ⟨.inl rfl,Od _,by omega⟩,h1⟩ h2
theorem vL {lo hi:Int} {ps:List (Int × Int)} {p q:Int × Int} (hp:p∈cf lo hi ps) (hq:q∈ps) (h1:q.1≤p.2) (h2:p.1≤q.2):q.1≤p.1∧p.2≤q.2:=by
 obtain ⟨k1,k2,k3,k4⟩:=mh (kQ lo hi ps) (fun x hx=>(fN.1 hx).2.2) hp
 have k5:=(fN.1 k1).2.1
 constructor
 ·
  refine Int.not_lt.1 fun hlt=>k4 q.1 (fN.2 ⟨.inr ⟨q,hq,.inl rfl⟩,by omega,by omega⟩) ⟨hlt,h1⟩
 ·
  refine Int.not_lt.1 fun hlt=>k4 (q.2+1) (fN.2 ⟨.inr ⟨q,hq,.inr rfl⟩,by omega,by omega⟩) ⟨by omega,by omega⟩
structure Pz where
 rect:Rct
 a:Nat
 b:Nat
def cU (p:Pz):List Value:= [.int .i64 p.rect.c1,.int .i64 p.rect.r1,.int .i64 p.rect.c2,.int .i64 p.rect.r2,.int .i64 (p.a:Int),.int .i64 (p.b:Int)]
theorem cJ (p:Pz):(cU p).length=6:=rfl
def iR (a b:Rct):Bool:=(dD a b).2 && decide ((dD a b).1=a)
def kW (r:Rct) (L:List Rl):Nat→Nat
 |0=>0
 |n+1=>if iR r ((L[n]?.map (·.rect)).getD aL)=true then n else kW r L n
def gD (r:Rct) (L:List Rl):Nat:=kW r L L.length
theorem uA (r:Rct) (L:List Rl): ∀ n,kW r L n≤n - 1
 |0=>MZ _
 |n+1=>by
  rw [kW];split
  ·
   exact MZ _
  ·
   have:=uA r L n;omega
def aU (r:Rct) (L:List Rl):List (Int × Int):=L.flatMap fun x=>if (dD x.rect r).2=true then [((dD x.rect r).1.c1,(dD x.rect r).1.c2)] else []
def aS (r:Rct) (L:List Rl):List (Int × Int):=L.flatMap fun x=>if (dD x.rect r).2=true then [((dD x.rect r).1.r1,(dD x.rect r).1.r2)] else []
def lG (A B:List Rl) (y x:Int × Int):Pz:=⟨⟨x.1,y.1,x.2,y.2⟩,gD ⟨x.1,y.1,x.2,y.2⟩ A,gD ⟨x.1,y.1,x.2,y.2⟩ B⟩
def ji (l:List Pz) (p:Pz):List Pz:=match l.getLast? with
 |some q=>if q.a=p.a∧q.b=p.b then l.dropLast++ [⟨⟨q.rect.c1,q.rect.r1,p.rect.c2,q.rect.r2⟩,q.a,q.b⟩] else l++ [p]
 |none=> [p]
def je (A B:List Rl) (y:Int × Int) (xs:List (Int × Int)):List Pz:=xs.foldl (fun l x=>ji l (lG A B y x)) []
theorem jZ {A B:List Rl} {y:Int × Int} {xs:List (Int × Int)} {x:Int × Int}:je A B y (xs++ [x])=ji (je A B y xs) (lG A B y x):=by
 unfold je;rw [PN];rfl
def dm (r:Rct) (A B:List Rl):List Pz:=(cf r.r1 r.r2 (aS r A++aS r B)).flatMap fun y=>je A B y (cf r.c1 r.c2 (aU r A++aU r B))
def qp (l:List (BitVec 64)):BitVec 64:=l.foldl (· &&& ·) (BitVec.allOnes 64)
def rR (f:Rl→BitVec 64) (r:Rct) (L:List Rl):BitVec 64:=qp ((dm r L []).map fun p=>(L[p.a]?.map f).getD 0#64)
theorem EU {l:List (BitVec 64)} {x:BitVec 64}:qp (l++ [x])=qp l &&& x:=by unfold qp;rw [PN];rfl
end Go.SL
namespace Go.SL
open Go Go.Proofs
attribute [local irreducible] W WL WQ WG WA WX WLI WR WT WC WE VOp RW thn blk bL scp bi bz bY aQ FnIn FnP ceP
def cN (n:Int):BitVec 64 × Int:=if n<0∨64<n then (0#64,3) else (xe n.toNat,0)
theorem xq (n:Int) (w:World):ax Tryz.prog 107 [.int .i64 n] w (.tuple #[vS (cN n).1,.int .i64 (cN n).2]):=by
 refine aq Tryz.func107 rfl Tryz.ntmps107 rfl ?_
 by_cases h:n<0∨64<n
 ·
  rw [cN,if_pos h]
  repeat' (first|refine sT ?_|refine sM fun _=> ?_|(refine sC ?_ ?_<;>intro hb<;>try omega)|fail)
  all_goals first|(exfalso;omega)|((refine rT2 ?_);rfl)|trace_state
 ·
  rw [cN,if_neg h]
  obtain ⟨m,rfl⟩: ∃ m:Nat,n=(m:Int):=⟨n.toNat,by omega⟩
  repeat' (first|(apply aj;exact rfl;apply wo (a:=1#64) (m:=m);exact rfl;exact rfl;omega)|(apply aj;exact rfl;apply I2 (b:=1#64);exact rfl;exact rfl)|refine sT ?_|refine sM fun _=> ?_|(refine sC ?_ ?_<;>intro hb<;>try omega)|fail)
  all_goals first|(exfalso;omega)|((refine rT2 ?_);rfl)|trace_state
theorem oP (x:BitVec 64) (u:Int) (w:World):ax Tryz.prog 109 [vS x,.int .i64 u] w (.bool (fA x u)):=by
 refine aq Tryz.func109 rfl Tryz.ntmps109 rfl ?_
 by_cases h:0≤u∧u<64
 ·
  obtain ⟨m,rfl⟩: ∃ m:Nat,u=(m:Int):=⟨u.toNat,by omega⟩
  have hs:=Ju x m
  have he:fA x (m:Int)=x.getLsbD m:=by simp [fA];omega
  rw [he]
  repeat' (first|(apply aj;exact rfl;apply I4 (a:=x) (m:=m);exact rfl;exact rfl;omega)|(apply aj;exact rfl;apply qx (b:=1#64);exact rfl;exact rfl)|(apply aj;exact rfl;apply CF (b:=1#64);exact rfl;exact rfl)|refine sT ?_|refine sM fun _=> ?_|(refine sC ?_ ?_<;>intro hb<;>try omega)|fail)
  all_goals first|(exfalso;omega)|((refine rT1 ?_);exact congrArg Value.bool hs)|trace_state
 ·
  have he:fA x u=false:=by
   unfold fA
   by_cases h1:0≤u
   ·
    have h2: ¬ u<64:=fun h2=>h ⟨h1,h2⟩
    simp [h2]
   ·
    simp [h1]
  rw [he]
  repeat' (first|refine sT ?_|refine sM fun _=> ?_|(refine sC ?_ ?_<;>intro hb<;>try omega)|fail)
  all_goals first|(exfalso;omega)|((refine rT1 ?_);rfl)|trace_state
theorem E4 (L:List (BitVec 64)) (lv:Value) (w:World) (hl:Reads w lv L.length (L.map vS)):ax Tryz.prog 83 [lv] w (vS (qp L)):=by
 obtain ⟨Al,cl,rfl,hl1,hl2,hl3⟩:=hl
 refine aq Tryz.func83 rfl Tryz.ntmps83 rfl ?_
 repeat' (first|refine sT ?_|refine sM fun _=> ?_|(refine sC ?_ ?_<;>intro hb<;>try omega)|fail)
 refine ay [6,7] rfl (fun i:Nat=> [(3,vS (qp (L.take i))),(8,.int .i64 (i:Int))]) (fun _=> []) (fun i=>i≤L.length) (fun i=>L.length - i) 0 (Nl _) sB mS ?_
 rintro i hi
 by_cases hlt:i<L.length
 ·
  obtain ⟨gl,ol,rfl,hrl⟩:=hl3 (by omega)
  have he1:=hrl.cellV i (v:=vS L[i]) (by rw [NY,MV hlt];rfl)
  have hs:qp (L.take (i+1))=qp (L.take i) &&& L[i]:=by rw [M9 hlt,EU]
  repeat' (first|(apply aj;exact rfl;apply qx;exact rfl;exact rfl)|refine sT ?_|refine sN ?_|refine sO ?_|refine sM fun _=> ?_|(refine sC ?_ ?_<;>intro hb<;>try omega)|fail)
  all_goals first
   |(exfalso;omega)
   |(refine ⟨i+1,hlt,by omega,?_,by exact sB,by exact mS⟩;rw [hs];exact sB)
   |trace_state
 ·
  have e:i=L.length:=by omega
  subst e
  repeat' (first|refine sT ?_|refine sM fun _=> ?_|(refine sC ?_ ?_<;>intro hb<;>try omega)|fail)
  all_goals first
   |(exfalso;omega)
   |((refine rT1 ?_);rw [N0])
   |trace_state
theorem gL {r:Rct} (h:dC r≠0):aG r=false:=by
 cases hq:aG r
 ·
  rfl
 ·
  exact absurd (by rw [dC,hq];rfl) h
theorem eD {r:Rct} (h: ¬ dC r≠0): ¬ aG r=false:=fun hq=>h (by rw [dC,hq];decide)
def lp:Rct:=⟨1,1,1024,1024⟩
def dZ (u:Int):List Rl→Int→Int × Int
 | [],_=>(0,0)
 |r::L,i=>if aG r.rect=false then (i,3) else if (r.read|||r.write|||r.own) &&& ~~~(cN u).1≠0#64 then (i,2) else dZ u L (i+1)
def fP (u:Int) (L:List Rl):Int × Int:=
 if u<0∨64<u∨u=0∨L= [] then (0,2) else if 64<L.length then (64,5) else if (L.head?.map (·.rect))≠some lp then (0,2) else dZ u L 0
theorem FW (w:World):ax Tryz.prog 108 [] w (.agg (bK lp).toArray):=by
 refine aq Tryz.func108 rfl Tryz.ntmps108 rfl ?_
 repeat' (first|refine sT ?_|refine sM fun _=> ?_|(refine sC ?_ ?_<;>intro hb<;>try omega)|fail)
 (refine eRC ?_)
 rfl
theorem Rl.ro {w:World} {g o:Nat} {r:Rl} (h:Ro w g o (bf r)):Ro w g o (bK r.rect)∧Ro w g (o+4) [vS r.read]∧Ro w g (o+5) [vS r.write]∧Ro w g (o+6) [vS r.own]∧Ro w g (o+4) [vS r.read,vS r.write,vS r.own]:=
 ⟨h.take (k:=4),(h.drop (k:=4)).take (k:=1),(h.drop (k:=5)).take (k:=1),h.drop (k:=6),h.drop (k:=4)⟩
set_option maxHeartbeats 4000000 in
theorem lY (u:Int) (L:List Rl) (lv:Value) (w:World) (hl:Reads w lv L.length (L.flatMap bf)):ax Tryz.prog 51 [.int .i64 u,lv] w (.tuple #[.int .i64 (fP u L).1,.int .i64 (fP u L).2]):=by
 obtain ⟨Al,cl,rfl,hl1,hl2,hl3⟩:=hl
 refine aq Tryz.func51 rfl Tryz.ntmps51 rfl ?_
 have hA:=fun w=>xq u w
 unfold fP
 have hE:(cN u).2=if u<0∨64<u then 3 else 0:=by unfold cN;split<;>rfl
 by_cases h1:u<0∨64<u∨u=0∨L= []
 ·
  rw [if_pos h1]
  generalize cN u=ae at hA hE
  obtain ⟨sa,ee⟩:=ae
  dsimp only at hA hE
  subst hE
  have h1' : ¬ (u<0∨64<u)→u≠0→L.length=0:=fun h2 h3=>by
   rcases h1 with h|h|h|h
   ·
    exact absurd (.inl h) h2
   ·
    exact absurd (.inr h) h2
   ·
    exact absurd h h3
   ·
    rw [h];rfl
  clear h1
  by_cases h2:u<0∨64<u
  ·
   rw [if_pos h2] at hA
   repeat' (first|(apply aa;exact rfl;exact rfl;(intro w hm;exact hA w))|refine sT ?_|refine sM fun _=> ?_|(refine sC ?_ ?_<;>intro hb<;>try omega)|fail)
   all_goals first|(exfalso;omega)|((refine rT2 ?_);rfl)|trace_state
  ·
   rw [if_neg h2] at hA
   have h3:=h1' h2
   repeat' (first|(apply aa;exact rfl;exact rfl;(intro w hm;exact hA w))|refine sT ?_|refine sM fun _=> ?_|(refine sC ?_ ?_<;>intro hb<;>try omega)|fail)
   all_goals first|(exfalso;omega)|((refine rT2 ?_);rfl)|trace_state
 rw [if_neg h1]
 have hu: ¬ (u<0∨64<u)∧u≠0:=⟨fun h=>h1 (h.elim .inl fun h=> .inr (.inl h)),fun h=>h1 (.inr (.inr (.inl h)))⟩
 have hpos:0<L.length:=OJ.2 fun h=>h1 (.inr (.inr (.inr h)))
 rw [if_neg hu.1] at hE
 rw [hE] at hA
 obtain ⟨sa,has⟩: ∃ sa,sa=(cN u).1:=⟨_,rfl⟩
 rw [← has] at hA
 obtain ⟨gl,ol,rfl,hrl⟩:=hl3 hpos
 by_cases h64:64<L.length
 ·
  rw [if_pos h64]
  repeat' (first|(apply aa;exact rfl;exact rfl;(intro w hm;exact hA w))|refine sT ?_|refine sM fun _=> ?_|(refine sC ?_ ?_<;>intro hb<;>try omega)|fail)
  all_goals first|(exfalso;omega)|((refine rT2 ?_);rfl)|trace_state
 rw [if_neg h64]
 obtain ⟨h0a,_⟩:=Rl.ro (hrl.elem dg 0 hpos)
 have hsh:=fun w=>FW w
 have hhd:L.head?.map (·.rect)=some L[0].rect:=by rw [List.head?_eq_getElem?,MV hpos];rfl
 rw [hhd]
 obtain ⟨c,hc⟩: ∃ c,decide (L[0].rect=lp)=c:=⟨_,rfl⟩
 have hcs:(some L[0].rect≠some lp)↔c=false:=by rw [← hc];simp
 generalize L[0].rect=r0 at h0a hc hcs ⊢
 simp only [hcs]
 clear hhd hcs
 cases c with
 |false=>
  repeat' (first|(apply aa;exact rfl;exact rfl;(intro w hm;exact hA w))|(apply d9 (f:=108);exact rfl;exact rfl;(intro w' _;exact hsh w'))|(apply aP;exact rfl;apply ak (j:=0);exact rfl;exact rfl;exact hpos)|(apply aP;exact rfl;apply aA (xs:=bK r0);exact rfl;exact h0a;exact rfl)|(apply aP;exact rfl;apply l9 hc;exact rfl;exact rfl)|refine sT ?_|refine sQ ?_|refine sN ?_|refine sNQ ?_|refine sO ?_|refine sOQ ?_|refine sD ?_|refine sM fun _=> ?_|(refine sC ?_ ?_<;>intro hb<;>try omega)|(refine sCQ ?_ ?_<;>intro hb<;>try omega)|fail)
  all_goals first|(exfalso;omega)|((refine rT2 ?_);rfl)|trace_state
 |true=>
  repeat' (first|(apply aa;exact rfl;exact rfl;(intro w hm;exact hA w))|(apply d9 (f:=108);exact rfl;exact rfl;(intro w' _;exact hsh w'))|(apply aP;exact rfl;apply ak (j:=0);exact rfl;exact rfl;exact hpos)|(apply aP;exact rfl;apply aA (xs:=bK r0);exact rfl;exact h0a;exact rfl)|(apply aP;exact rfl;apply l9 hc;exact rfl;exact rfl)|refine sT ?_|refine sQ ?_|refine sN ?_|refine sNQ ?_|refine sO ?_|refine sOQ ?_|refine sD ?_|refine sM fun _=> ?_|(refine sC ?_ ?_<;>intro hb<;>try omega)|(refine sCQ ?_ ?_<;>intro hb<;>try omega)|fail)
  all_goals try (exfalso;omega)
  refine ay [1,6,37,38] rfl (fun i:Nat=> [(39,.int .i64 (i:Int))]) (fun _=> []) (fun i=>i≤L.length∧dZ u L 0=dZ u (L.drop i) (i:Int)) (fun i=>L.length - i) 0 ⟨Nl _,rfl⟩ sB mS ?_
  rintro i ⟨hi,hrec⟩
  by_cases hlt:i<L.length
  ·
   have he1:=hrl.elem dg i hlt
   rw [M3 hlt,dZ,← has] at hrec
   generalize L[i]=r at hrec he1
   have hck:=fun w=>fY r.rect w
   repeat' (first|(apply aa;exact rfl;exact rfl;(intro w hm;exact hck w))|(apply aj;exact rfl;apply oX;exact rfl;exact rfl)|(apply aj;exact rfl;apply dG (b:=sa);exact rfl;exact rfl)|(apply aj;exact rfl;apply gU (b:=0#64);exact rfl;exact rfl)|refine sT ?_|refine sN ?_|refine sO ?_|refine sM fun _=> ?_|(refine sC ?_ ?_<;>intro hb<;>try omega)|fail)
   all_goals first
    |(exfalso;omega)
    |((refine rT2 ?_);rw [if_neg (by decide),hrec,if_pos (gL hb)];done)
    |((refine rT2 ?_);rw [if_neg (by decide),hrec,if_neg (eD ‹_›),if_pos hb];done)
    |(refine ⟨i+1,⟨hlt,by rw [hrec,if_neg (eD ‹_›),if_neg (fun h=>h hb)];rfl⟩,by omega,by exact sB,by exact sB,by exact mS⟩;done)
    |trace_state
  ·
   have e:i=L.length:=by omega
   subst e
   rw [ND,dZ] at hrec
   rw [if_neg (by decide),hrec]
   repeat' (first|refine sT ?_|refine sM fun _=> ?_|(refine sC ?_ ?_<;>intro hb<;>try omega)|fail)
   all_goals first|(exfalso;omega)|((refine rT2 ?_);rfl)|trace_state
end Go.SL
