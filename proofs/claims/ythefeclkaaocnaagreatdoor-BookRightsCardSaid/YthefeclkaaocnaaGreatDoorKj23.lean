/-
  Lemmas and walks, put together: Sl29 Sl30 Sl31 Sl32 Bt Pg Ha.
-/
import Derived.Deep.AppendSrc
import Derived.Test.YthefeclkaaocnaaGreatDoorKj18
set_option linter.unusedSimpArgs false
set_option linter.unusedVariables false
set_option maxRecDepth 20000
namespace Go.SL
open Go Go.RowKit
section
variable {P:Program} {ops:Array Oper} {es ps:List Nat} {C:World→Prop}
theorem rS {Q:Act→World→Prop} {i:Nat} {oi:Oper} (hi:ops[i]? =some oi) (hsel: ∀ (j:Nat) (o:Oper) cs b,ops[j]? =some o→o.op≠ .select cs b)
  (hnb: ∀ x∈es,∀ y,y∈es∨y∈ps→x≠y→(x=i∨y=i)→sY ops x y):
  ∀ (f:Nat) (L:Array Bool) (a:Act) (w:World),ClosedL ops L→C w→
   (∀ j oj,ops[j]? =some oj→j≠i→L.getD j true=false→(∀ e∈oj.after,Region.binds .any e=true→e.on≠i)→oi.apart ops oj=true)→
   i∈Region.ready .any ops L→EOp P ops es ps C (AnyE P ops es ps C Q f (L.setIfInBounds i true)) i oi a w→AnyE P ops es ps C Q (f+1) L a w
 |0,L,a,w,hcl,hC,_,hr,hy=>⟨hC,fun h=>(by rw [h] at hr;cases hr),fun j hj=>by
   by_cases hji:j=i
   ·
    subst hji;exact ⟨oi,hi,hy⟩
   ·
    exfalso
    have hne:=ready_mono hj hji
    have hE: ∃ a' w',AnyE P ops es ps C Q 0 (L.setIfInBounds i true) a' w' :=by
     cases hy with
     |pass _ hk=>exact ⟨_,_,hk⟩
     |quiet _ _ _ _ _ hk=>exact ⟨_,_,hk⟩
     |eff _ _ hk=>obtain ⟨v,w',h⟩:=hk.ex;exact ⟨_,_,h⟩
    obtain ⟨a',w',_,h0,_⟩:=hE
    rw [h0] at hne
    cases hne⟩
 |f+1,L,a,w,hcl,hC,hfree,hr,hy=>⟨hC,fun h=>(by rw [h] at hr;cases hr),fun j hj=>by
   by_cases hji:j=i
   ·
    subst hji;exact ⟨oi,hi,hy⟩
   ·
    have hj' :=ready_mono hj hji
    obtain ⟨hjun,oj,hoj,hall⟩:=mem_ready.1 hj
    have hnot: ∀ e∈oj.after,Region.binds .any e=true→e.on≠i:=fun e he hb heq=>by
     have h1:=hall e he hb
     have h0:=(mem_ready.1 hr).1
     rw [heq] at h1
     rcases Po i L.size with h' |h'
     ·
      simp [h'] at h0 h1;rw [h0] at h1;cases h1
     ·
      simp [PU h'] at h1
    have hap:=hfree j oj hoj hji hjun hnot
    obtain ⟨h1,h2,h3⟩:=Oper.apart_spec hap
    have hsi:=fun cs b=>hsel i oi cs b hi
    have hsj:=fun cs b=>hsel j oj cs b hoj
    have hej: ∀ v,execOp (a.put oi.dst v).eval oj=execOp a.eval oj:=fun v=>execOp_put oj hsj a oi.dst v h1
    have hwj: ∀ v,Region.wanted oj (yielded ops (a.put oi.dst v).tmps)=Region.wanted oj (yielded ops a.tmps):=fun v=>wanted_put oj a oi.dst v h1
    have hcomm: ∀ v u,(a.put oi.dst v).put oj.dst u=(a.put oj.dst u).put oi.dst v:=fun v u=>Act.put_comm a v u h2
    have hset:(L.setIfInBounds i true).setIfInBounds j true=(L.setIfInBounds j true).setIfInBounds i true:=Qv _ _ (Ne.symm hji)
    have hfree' : ∀ k ok,ops[k]? =some ok→k≠i→(L.setIfInBounds j true).getD k true=false→
      (∀ e∈ok.after,Region.binds .any e=true→e.on≠i)→oi.apart ops ok=true:=fun k ok hk hki hun hno=>by
     refine hfree k ok hk hki ?_ hno
     by_cases hjk:j=k
     ·
      subst hjk;exact hjun
     ·
      rw [getD_set_ne true hjk] at hun;exact hun
    have ih:=rS (Q:=Q) hi hsel hnb f (L.setIfInBounds j true)
    have hcl' :=hcl.set hj
    have hr' :=ready_mono hr (Ne.symm hji)
    -- what comes of j behind an outcome of i
    have hJ: ∀ v w',AnyE P ops es ps C Q (f+1) (L.setIfInBounds i true) (a.put oi.dst v) w' →EOp P ops es ps C (AnyE P ops es ps C Q f ((L.setIfInBounds j true).setIfInBounds i true)) j oj (a.put oi.dst v) w' :=fun v w' h=>by
     obtain ⟨o,ho,hE⟩:=h.2.2 j hj'
     have e:o=oj:=Option.some.inj (ho.symm.trans hoj)
     subst e
     rw [hset] at hE
     exact hE
    refine ⟨oj,hoj,?_⟩
    have hstill:(∃ v,AnyE P ops es ps C Q (f+1) (L.setIfInBounds i true) (a.put oi.dst v) w∧ ∀ (u:Value) (w2:World) (K' :Act→World→Prop),C w2→(i∈ps→w2=w)→K' ((a.put oj.dst u).put oi.dst v) w2→EOp P ops es ps C K' i oi (a.put oj.dst u) w2)∨
      (Region.wanted oi (yielded ops a.tmps)=true∧i∈es∧NormUp P (fun v w' =>AnyE P ops es ps C Q (f+1) (L.setIfInBounds i true) (a.put oi.dst v) w') ((execOp a.eval oi).run P w)):=by
     cases hy with
     |pass hw hk=>exact .inl ⟨undef,hk,fun u w2 K' _ _ hk' => .pass ((wanted_put oi a oj.dst u h3).trans hw) hk'⟩
     |quiet hw hies v hrun hst hk=>
      refine .inl ⟨v,hk,fun u w2 K' hC2 hps hk' => ?_⟩
      have he:=execOp_put oi hsi a oj.dst u h3
      have hrun2:(execOp a.eval oi).run P w2= .ok (.value v) w2:=by
       rcases hst with h|h
       ·
        rw [hps h];exact hrun
       ·
        exact h w2 hC2
      exact .quiet ((wanted_put oi a oj.dst u h3).trans hw) hies v (by rw [he];exact hrun2) (by rw [he];exact hst) hk'
     |eff hw hies hk=>exact .inr ⟨hw,hies,hk⟩
    rcases hstill with ⟨v,hk,hS⟩|⟨hw,hies,hk⟩
    ·
     cases hJ v w hk with
     |pass hwj' hkj=>exact .pass ((hwj v).symm.trans hwj') (ih _ w hcl' hC hfree' hr' (hS undef w _ hC (fun _=>rfl) (by rw [← hcomm];exact hkj)))
     |quiet hwj' hjes u hrun hst hkj=>
      rw [hej] at hrun hst
      exact .quiet ((hwj v).symm.trans hwj') hjes u hrun hst (ih _ w hcl' hC hfree' hr' (hS u w _ hC (fun _=>rfl) (by rw [← hcomm];exact hkj)))
     |eff hwj' hjes hkj=>
      rw [hej] at hkj
      exact .eff ((hwj v).symm.trans hwj') hjes (hkj.mono fun u w2 hk2=>ih _ w2 hcl' hk2.inC hfree' hr' (hS u w2 _ hk2.inC (fun hps=>(hnb j hjes i (.inr hps) hji (.inr rfl) L hcl hj hr).elim) (by rw [← hcomm];exact hk2)))
    ·
     obtain ⟨v0,w1,h0⟩:=hk.ex
     cases hJ v0 w1 h0 with
     |pass hwj' hkj=>
      have hwa:=(hwj v0).symm.trans hwj'
      refine .pass hwa (ih _ w hcl' hC hfree' hr' (EOp.of_put hap hsi (.eff hw hies hk) fun v w' h=> ?_))
      cases hJ v w' h with
      |pass _ h' =>rw [← hcomm];exact h'
      |quiet hw2 _ _ _ _ _=>rw [hwj,hwa] at hw2;cases hw2
      |eff hw2 _ _=>rw [hwj,hwa] at hw2;cases hw2
     |quiet hwj' hjes u hrun hst hkj=>
      have hwa:=(hwj v0).symm.trans hwj'
      have hst2: ∀ w1,C w1→(execOp a.eval oj).run P w1= .ok (.value u) w1:=by
       rcases hst with h|h
       ·
        exact (hnb i hies j (.inr h) (Ne.symm hji) (.inl rfl) L hcl hr hj).elim
       ·
        rw [hej] at h;exact h
      refine .quiet hwa hjes u (hst2 w hC) (.inr hst2) (ih _ w hcl' hC hfree' hr' (EOp.of_put hap hsi (.eff hw hies hk) fun v w' h=> ?_))
      cases hJ v w' h with
      |pass hw2 _=>rw [hwj,hwa] at hw2;cases hw2
      |eff _ hjes2 _=>exact absurd hjes2 hjes
      |quiet _ _ u' hr2 hst' h' =>
       have hst3:(execOp a.eval oj).run P w= .ok (.value u') w:=by
        rcases hst' with h|h
        ·
         exact (hnb i hies j (.inr h) (Ne.symm hji) (.inl rfl) L hcl hr hj).elim
        ·
         have:=h w hC
         rw [hej] at this;exact this
       rw [hst2 w hC] at hst3
       injection hst3 with h4
       injection h4 with h4
       subst h4
       rw [← hcomm];exact h'
     |eff hwj' hjes hkj=>exact (hnb i hies j (.inl hjes) (Ne.symm hji) (.inl rfl) L hcl hr hj).elim⟩
end
section
variable {P:Program} {n:Fr} {w0:World} {Q:bO} {s:az} {H S:List Blk} {l:List Oper} {ty:TypeId} {p:String} {af:Array Edge} {es:List Nat} {gu:Option (Nat × Bool)} {f:Nat} {L:Array Bool}
def WE (P:Program) (n:Fr) (w0:World) (l:List Oper) (S:List Blk) (es:List Nat) (Q:bO) (f:Nat) (L:Array Bool) (s:az) (H:List Blk):Prop:=
 ∀ a w,St n s a→Mem w0 w H→Mem w0 w S→ClosedL l.toArray L→AnyE P l.toArray es [] (fun w=>Mem w0 w S) (post n w0 Q .normal) f L a w
theorem xx {id:Nat} (es:List Nat) (S:List Blk) (N:Nat) (hN:l.length=N) (hm:P.follows .mixedOrders=true) (hS:MSub S H)
  (h:WE P n w0 l S es Q N (Array.replicate N false) s H):W P n w0 (.region id l.toArray true) Q s H:=by
 intro a w hs hmem
 subst hN
 refine wp_region_any hm (fM (es:=es) (ps:= []) (C:=fun w=>Mem w0 w S) (Q:=post n w0 Q .normal) (fun _ _ h=>h) _ _ _ _ ?_)
 have hcl:ClosedL l.toArray (Array.replicate l.length false):=fun i o _ hi=>by
  rw [Oj,Qw] at hi
  split at hi<;>cases hi
 have:=h a _ hs hmem.drew (hS.use hmem.drew) hcl
 simpa using this
theorem xv (hr:Region.ready .any l.toArray L= []) (h:Q .normal s H):WE P n w0 l S es Q f L s H:=by
 intro a w hs hm hS hcl
 cases f with
 |zero=>exact ⟨hS,hr,s,H,hs,hm,h⟩
 |succ f=>exact ⟨hS,fun _=>⟨s,H,hs,hm,h⟩,fun i hi=>by rw [hr] at hi;cases hi⟩
theorem gM {i:Nat} {op:Op} {d:Nat} {v:Value} (hi:l[i]? =some ⟨some d,op,ty,p,af,gu⟩) (hn:Nat.blt d n.sz=true) (hg:gok l s gu=some true) (hk:es.contains i=false) (hsel:Region.noSelect l.toArray=true)
  (hr:(Region.ready .any l.toArray L).contains i=true) (hf:Region.free .any l.toArray L i=true) (hv:VOp P w0 s S op ty v) (h:WE P n w0 l S es Q f (L.setIfInBounds i true) ((d,v)::s) H):WE P n w0 l S es Q (f+1) L s H:=by
 intro a w hs hm hS hcl
 have hi' :l.toArray[i]? =some ⟨some d,op,ty,p,af,gu⟩:=by simpa using hi
 have hr' :i∈Region.ready .any l.toArray L:=by simpa using hr
 have hk' :i∉es:=by simpa using hk
 refine rS hi' (Region.noSelect_spec hsel) (fun x hx y hy _ hxy=> ?_) f L a w hcl hS (Region.free_spec hi' hf) hr'
  (.quiet (gA rfl hg hs) hk' v (hv a.eval w (some d) p af gu hs.eval hS) (.inr fun w1 h1=>hv a.eval w1 (some d) p af gu hs.eval h1) (h _ _ (hs.put (OH ▸ hn) v) hm hS (hcl.set hr')))
 rcases hxy with rfl|rfl
 ·
  exact (hk' hx).elim
 ·
  rcases hy with hy|hy
  ·
   exact (hk' hy).elim
  ·
   cases hy
theorem nT {i:Nat} {op:Op} {dst:Option Tmp} (hi:l[i]? =some ⟨dst,op,ty,p,af,gu⟩) (hg:gok l s gu=some true) (hk:es.contains i=true) (hr:(Region.ready .any l.toArray L).contains i=true)
  (h:WL P n w0 #[] [⟨dst,op,ty,p,af,none⟩] (ceP S (WE P n w0 l S es Q f (L.setIfInBounds i true))) s H) (a:Act) (w:World) (hs:St n s a) (hm:Mem w0 w H) (hcl:ClosedL l.toArray L):
  EOp P l.toArray es [] (fun w=>Mem w0 w S) (AnyE P l.toArray es [] (fun w=>Mem w0 w S) (post n w0 Q .normal) f (L.setIfInBounds i true)) i ⟨dst,op,ty,p,af,gu⟩ a w:=by
 have hr' :i∈Region.ready .any l.toArray L:=by simpa using hr
 refine .eff (gA rfl hg hs) (by simpa using hk) ?_
 have h1:=h a w hs hm
 unfold wpList at h1
 simp only [Region.wanted,if_true] at h1
 replace h1:=h1.elim id fun ⟨_,a0,w1,s',H'',_,_,he,_⟩=>by cases he
 have hexec:execOp a.eval ⟨dst,op,ty,p,af,gu⟩=execOp a.eval ⟨dst,op,ty,p,af,none⟩:=rfl
 rw [hexec]
 have nxt: ∀ (a' :Act) (w' :World),wpList P #[] (post n w0 (ceP S (WE P n w0 l S es Q f (L.setIfInBounds i true)))) [] a' w' →AnyE P l.toArray es [] (fun w=>Mem w0 w S) (post n w0 Q .normal) f (L.setIfInBounds i true) a' w' :=by
  rintro a' w' ⟨s',H',hs',hm',_,hSub,hK⟩
  exact hK a' w' hs' hm' (hSub.use hm') (hcl.set hr')
 unfold Oper.wp at h1
 generalize (execOp a.eval ⟨dst,op,ty,p,af,none⟩).run P w=r at h1 ⊢
 cases r with
 |ok x w' =>
  cases x<;>simp only [Oper.upon] at h1<;>simp only [NormUp]
  case value u=>exact nxt _ _ h1
  case skip=>exact nxt _ _ h1
  case defer dd=>
   obtain ⟨s',H'',hs',_⟩:=h1
   have h2:=congrArg List.length (hs'.defers.trans hs.defers.symm)
   cases dst<;>simp [Act.put] at h2
  case enter f args=>
   refine h1.mono fun e w'' he=> ?_
   cases e with
   |returned v=>exact ⟨v,rfl,nxt _ _ he⟩
   |panicked c=>
    obtain ⟨s',H'',_,_,he',_⟩:=he
    cases he'
   |outgrown=>
    obtain ⟨a0,w1,s',H'',_,_,he',_⟩:=he
    cases he'
  case row f args=>exact Rows.mono h1 fun u w'' he=>nxt _ _ he
 |halt x w' =>
  cases x<;>simp only [Oper.upon] at h1
  all_goals
   obtain ⟨s',H'',_,_,he',_⟩:=h1
   cases he'
theorem gq {i:Nat} {op:Op} {dst:Option Tmp} (hi:l[i]? =some ⟨dst,op,ty,p,af,gu⟩) (hg:gok l s gu=some true) (hk:es.contains i=true) (hr:Region.ready .any l.toArray L= [i])
  (h:WL P n w0 #[] [⟨dst,op,ty,p,af,none⟩] (ceP S (WE P n w0 l S es Q f (L.setIfInBounds i true))) s H):WE P n w0 l S es Q (f+1) L s H:=by
 intro a w hs hm hS hcl
 refine ⟨hS,fun h0=>(by rw [hr] at h0;cases h0),fun j hj=> ?_⟩
 rw [hr] at hj
 have e:j=i:=by simpa using hj
 subst e
 exact ⟨_,by simpa using hi,nT hi hg hk (by rw [hr];simp) h a w hs hm hcl⟩
theorem kF {i j:Nat} {op op' :Op} {dst dst' :Option Tmp} {ty' :TypeId} {p' :String} {af' :Array Edge} {gu' :Option (Nat × Bool)} (hi:l[i]? =some ⟨dst,op,ty,p,af,gu⟩) (hj:l[j]? =some ⟨dst',op',ty',p',af',gu'⟩) (hg:gok l s gu=some true) (hg' :gok l s gu' =some true)
  (hk:es.contains i=true) (hk' :es.contains j=true) (hr:Region.ready .any l.toArray L= [i,j])
  (h:WL P n w0 #[] [⟨dst,op,ty,p,af,none⟩] (ceP S (WE P n w0 l S es Q f (L.setIfInBounds i true))) s H)
  (h' :WL P n w0 #[] [⟨dst',op',ty',p',af',none⟩] (ceP S (WE P n w0 l S es Q f (L.setIfInBounds j true))) s H):WE P n w0 l S es Q (f+1) L s H:=by
 intro a w hs hm hS hcl
 refine ⟨hS,fun h0=>(by rw [hr] at h0;cases h0),fun k hk0=> ?_⟩
 rw [hr] at hk0
 rcases NS.1 hk0 with e|hk0
 ·
  subst e
  exact ⟨_,by simpa using hi,nT hi hg hk (by rw [hr];simp) h a w hs hm hcl⟩
 ·
  have e:k=j:=by simpa using hk0
  subst e
  exact ⟨_,by simpa using hj,nT hj hg' hk' (by rw [hr];simp) h' a w hs hm hcl⟩
end
theorem vp (z:Array Value) (n:Nat) (u:Value) (h:u∈(Builtin.zeroCells z n).toList):u∈z.toList:=by
 rw [Array.mem_toList_iff,Builtin.zeroCells,Array.mem_map] at h
 obtain ⟨i,hi,rfl⟩:=h
 rw [Array.mem_range] at hi
 have hz:0<z.size:=by
  rcases OJ z.size with h|h
  ·
   rw [h] at hi;simp at hi
  ·
   exact h
 have hl:i % z.size<z.size:=Nat.mod_lt _ hz
 rw [getElem!_pos z (i % z.size) hl,Array.mem_toList_iff]
 exact Array.getElem_mem hl
theorem yV {P:Program} {n:Fr} {w0:World} {Q:bO} {s:az} {H:List Blk} {rest:List Oper} {ty:TypeId} {p:String} {af:Array Edge} {t e k n' c cx g sz:Nat} {x:Operand} {xs:List Value} {R:List Blk} {ops:Array Oper} {z:Value} [ht:Und P t (.slice e)] [hz:Zero P e z]
  (hx:ev s x=some (.slice (some ⟨g,k*sz,none⟩) (n' - k) cx)) (hk:k<n') (hsel:Sel (.own (some g) e sz n' c xs) H R) (hz1: ∀ u∈z.cells.toList,u.oneCell' =true) (hzs:z.cells.size=sz)
  (K:WL P n w0 ops rest Q s (.own (some g) e sz k c (xs.take (k*sz))::R)):
  WL P n w0 ops (⟨none,.call { callee:= .builtin .clear,args:= #[x],argTypes:= #[t] },ty,p,af,none⟩::rest) Q s H:=by
 intro a w hs hm
 have hm' :=hm.sel hsel
 obtain ⟨i,i1,i2⟩:=hz.out
 obtain ⟨b1,b2,b3,junk,b4,b5⟩:=(hm'.on _ NI).1
 have hzl:(Builtin.zeroCells z.cells (n' - k)).toList.length=(n' - k)*sz:=by rw [Array.length_toList,size_zeroCells,hzs]
 have hkn:k*sz+(n' - k)*sz=n' *sz:=by rw [← P6];congr 1;omega
 have hst:=run_storeCells_at (P:=P) g (k*sz) e (Builtin.zeroCells z.cells (n' - k)).toList 0 _ w b5 (by simp only [Qe,ND,hzl];omega) (fun u hu=>hz1 u (vp _ _ _ hu))
 simp only [PB,hzl,hkn] at hst
 have hn0: ¬ n' - k=0:=by omega
 obtain ⟨m,hm2⟩: ∃ m,n' - k=m+1:=⟨n' - k - 1,by omega⟩
 have hrun:(Builtin.clear_ #[t] ty #[.slice (some ⟨g,k*sz,none⟩) (n' - k) cx]).run P w= .ok (.tuple #[]) (w.setRow g ((xs++junk).take (k*sz)++(Builtin.zeroCells z.cells (n' - k)).toList++(xs++junk).drop (n' *sz)).toArray):=by
  rw [hm2] at hst ⊢
  simp [Builtin.clear_,run_underlying ht.out,zeroValue,typeInfo,i1,i2,hst]
 refine wpList_plain rfl fun K' hK=> ?_
 unfold Oper.wp execOp
 simp only [resolve,invoke,builtin,Sem.run_bind,Sem.run_pure,Result.andThen_ok,Pp,Ow,Pe,hs.eval x _ hx,hrun,Oper.upon]
 refine hK _ _ (K _ _ (hs.put_none _) (hm'.upd (gO _ _ _) (b' := .own (some g) e sz k c (xs.take (k*sz))) ⟨?_,by omega,b3,(Builtin.zeroCells z.cells (n' - k)).toList++(xs++junk).drop (n' *sz),?_,?_⟩ fun k hk=> .inl hk))
 ·
  rw [NZ,b1];omega
 ·
  have hle:n' *sz≤c*sz:=Nat.mul_le_mul_right _ b2
  simp only [ND,NZ,NP,hzl]
  rw [ND] at b4
  omega
 ·
  rw [PT (by omega)]
  rw [← OA]
  exact setRow_heap _ _ _ _ _ _ b5
abbrev vS (x:BitVec 64):Value:= .int .u64 (x.toNat:Int)
theorem s5 (x:BitVec 64):IntKind.u64.wrap (x.toNat:Int)=x.toNat:=by
 rw [IntKind.wrap_u64];have:=x.isLt;omega
theorem jE (x:BitVec 64):BitVec.ofInt 64 (x.toNat:Int)=x:=by
 rw [BitVec.ofInt_natCast,BitVec.ofNat_toNat,BitVec.setWidth_eq]
theorem Jh (a b:BitVec 64):((a.toNat:Int)==b.toNat)=decide (a=b):=by
 by_cases h:a=b
 ·
  subst h;simp
 ·
  rw [decide_eq_false h,beq_eq_false_iff_ne];intro h2;exact h (PM (by omega))
section
variable {P:Program} {n:Fr} {w0:World} {Q:bO} {s:az} {H:List Blk} {l rest:List Oper} {ty:TypeId} {p:String} {af:Array Edge}
theorem su {x y:Operand} {a b:BitVec 64} {t t' :TypeId} (hx:ev s x=some (vS a)) (hy:ev s y=some (vS b)):
  VOp P w0 s H (.binOp .and t x y t') ty (vS (a &&& b)):=by
 have h:Go.bits .and .u64 (a.toNat:Int) b.toNat=((a &&& b).toNat:Int):=by
  show IntKind.u64.wrap ((BitVec.ofInt 64 (a.toNat:Int) &&& BitVec.ofInt 64 (b.toNat:Int)).toNat:Int)=_
  rw [jE,jE,s5]
 unfold vS at hx hy ⊢
 rw [← h]
 clear h
 generalize (a.toNat:Int)=z at hx ⊢
 generalize (b.toNat:Int)=z2 at hy ⊢
 exact fun ρ w _ _ _ _ hρ _=>by simp [execOp,hρ x _ hx,hρ y _ hy,eqGuard,binOp,intBits_and]
theorem qE {x y:Operand} {a b:BitVec 64} {t t' :TypeId} (hx:ev s x=some (vS a)) (hy:ev s y=some (vS b)):
  VOp P w0 s H (.binOp .or t x y t') ty (vS (a|||b)):=by
 have h:Go.bits .or .u64 (a.toNat:Int) b.toNat=((a|||b).toNat:Int):=by
  show IntKind.u64.wrap ((BitVec.ofInt 64 (a.toNat:Int)|||BitVec.ofInt 64 (b.toNat:Int)).toNat:Int)=_
  rw [jE,jE,s5]
 unfold vS at hx hy ⊢
 rw [← h]
 clear h
 generalize (a.toNat:Int)=z at hx ⊢
 generalize (b.toNat:Int)=z2 at hy ⊢
 exact fun ρ w _ _ _ _ hρ _=>by simp [execOp,hρ x _ hx,hρ y _ hy,eqGuard,binOp,intBits_or]
theorem dY {x y:Operand} {a b:BitVec 64} {t t' :TypeId} (hx:ev s x=some (vS a)) (hy:ev s y=some (vS b)):
  VOp P w0 s H (.binOp .andNot t x y t') ty (vS (a &&& ~~~b)):=by
 have h:Go.bits .andNot .u64 (a.toNat:Int) b.toNat=((a &&& ~~~b).toNat:Int):=by
  show IntKind.u64.wrap ((BitVec.ofInt 64 (a.toNat:Int) &&& ~~~BitVec.ofInt 64 (b.toNat:Int)).toNat:Int)=_
  rw [jE,jE,s5]
 unfold vS at hx hy ⊢
 rw [← h]
 clear h
 generalize (a.toNat:Int)=z at hx ⊢
 generalize (b.toNat:Int)=z2 at hy ⊢
 exact fun ρ w _ _ _ _ hρ _=>by simp [execOp,hρ x _ hx,hρ y _ hy,eqGuard,binOp,intBits_andNot]
theorem xC {x y:Operand} {k' :IntKind} {a:BitVec 64} {m:Nat} {t t' :TypeId} (hx:ev s x=some (vS a)) (hy:ev s y=some (.int k' (m:Nat))) (hm:m≤64):
  VOp P w0 s H (.binOp .shr t x y t') ty (vS (a>>>m)):=by
 have h:=jZ (P:=P) (w0:=w0) (H:=H) (ty:=ty) (t:=t) (t' :=t') hx hy (by simpa [IntKind.bits] using hm)
 have e:((a.toNat:Int) / 2 ^ m)=((a>>>m).toNat:Int):=by
  rw [BitVec.toNat_ushiftRight,Nat.shiftRight_eq_div_pow];norm_cast
 rwa [e] at h
theorem xD {x y:Operand} {k' :IntKind} {a:BitVec 64} {m:Nat} {t t' :TypeId} (hx:ev s x=some (vS a)) (hy:ev s y=some (.int k' (m:Nat))) (hm:m≤64):
  VOp P w0 s H (.binOp .shl t x y t') ty (vS (a<<<m)):=by
 have e:IntKind.u64.wrap ((a.toNat:Int)*2 ^ m)=((a<<<m).toNat:Int):=by
  rw [BitVec.toNat_shiftLeft,Nat.shiftLeft_eq,IntKind.wrap_u64]
  generalize a.toNat=u
  have h64:(2:Nat) ^ 64=18446744073709551616:=by decide
  rw [h64,Int.natCast_emod,Int.natCast_mul,Int.natCast_pow];rfl
 unfold vS at hx ⊢
 rw [← e]
 clear e
 generalize (a.toNat:Int)=z at hx ⊢
 have h0:(0:Int)≤(m:Int):=by omega
 have hb:min m IntKind.u64.bits=m:=Ps hm
 exact fun ρ w _ _ _ _ hρ _=>by simp [execOp,hρ x _ hx,hρ y _ hy,eqGuard,binOp,shift_shl_any .u64 k' z m h0,hb]
theorem J6 {x y:Operand} {a b:BitVec 64} {t t' :TypeId} (hx:ev s x=some (vS a)) (hy:ev s y=some (vS b)):
  VOp P w0 s H (.binOp .sub t x y t') ty (vS (a - b)):=by
 have e:IntKind.u64.wrap ((a.toNat:Int) - b.toNat)=((a - b).toNat:Int):=by
  rw [BitVec.toNat_sub,IntKind.wrap_u64]
  have h1:=a.isLt
  have h2:=b.isLt
  omega
 unfold vS at hx hy ⊢
 rw [← e]
 clear e
 generalize (a.toNat:Int)=z at hx ⊢
 generalize (b.toNat:Int)=z2 at hy ⊢
 exact fun ρ w _ _ _ _ hρ _=>by simp [execOp,hρ x _ hx,hρ y _ hy,eqGuard,binOp,Op.intArith]
theorem xG {x y:Operand} {a b:BitVec 64} {t t' :TypeId} (hx:ev s x=some (vS a)) (hy:ev s y=some (vS b)):
  VOp P w0 s H (.binOp .eql t x y t') ty (.bool (decide (a=b))):=fun ρ w _ _ _ _ hρ _=>by
 have e:=Jh a b
 simp [execOp,hρ x _ hx,hρ y _ hy,eqGuard,binOp,Op.intCmp,e,vS]
theorem iM {x y:Operand} {a b:BitVec 64} {t t' :TypeId} (hx:ev s x=some (vS a)) (hy:ev s y=some (vS b)):
  VOp P w0 s H (.binOp .neq t x y t') ty (.bool (!decide (a=b))):=fun ρ w _ _ _ _ hρ _=>by
 have e:=Jh a b
 have e2:((a.toNat:Int)=b.toNat)↔a=b:=⟨fun h=>PM (by omega),fun h=>by rw [h]⟩
 simp [execOp,hρ x _ hx,hρ y _ hy,eqGuard,binOp,Op.intCmp,vS,bne,BEq.beq,e2]
end
def yD (n:Nat):BitVec 64:=(1#64<<<n) - 1#64
def eU (x:BitVec 64) (u:Int):Bool:=decide (0≤u) && decide (u<64) && x.getLsbD u.toNat
theorem Es (x:BitVec 64) (m:Nat):decide ((x>>>m) &&& 1#64=1#64)=x.getLsbD m:=by
 have h:(x>>>m) &&& 1#64=if x.getLsbD m then 1#64 else 0#64:=by
  apply Qc
  intro i hi
  rw [PL,BitVec.getLsbD_ushiftRight]
  rcases i with _|i
  ·
   cases hx:x.getLsbD m<;>simp [hx]
  ·
   cases hx:x.getLsbD m<;>simp [BitVec.getLsbD_one]
 rw [h]
 cases x.getLsbD m<;>decide
def fE (x:Int):Value:= .int .i64 x
theorem wm {P:Program} {w0:World} {s:az} {H:List Blk} {ty t t' :TypeId} {x y:Operand} {a b:Int} {c:Bool} (h:decide (a=b)=c) (hx:ev s x=some (fE a)) (hy:ev s y=some (fE b)):
  VOp P w0 s H (.binOp .eql t x y t') ty (.bool c):=fun ρ w _ _ _ _ hρ _=>by
 subst h
 have e:(a==b)=decide (a=b):=by rw [Om];simp
 simp [execOp,hρ x _ hx,hρ y _ hy,eqGuard,binOp,Op.intCmp,fE,e]
theorem wj {P:Program} {w0:World} {s:az} {H:List Blk} {ty t t' :TypeId} {x y:Operand} {a b:Int} {c:Bool} (h:decide (a=b)=c) (hx:ev s x=some (fE a)) (hy:ev s y=some (fE b)):
  VOp P w0 s H (.binOp .neq t x y t') ty (.bool (!c)):=fun ρ w _ _ _ _ hρ _=>by
 subst h
 simp [execOp,hρ x _ hx,hρ y _ hy,eqGuard,binOp,Op.intCmp,fE,bne,BEq.beq]
end Go.SL
namespace Go.SL
open Go
structure Rl where
 rect:Rct
 read:BitVec 64
 write:BitVec 64
 own:BitVec 64
def bn (r:Rl):List Value:= [.int .i64 r.rect.c1,.int .i64 r.rect.r1,.int .i64 r.rect.c2,.int .i64 r.rect.r2,vS r.read,vS r.write,vS r.own]
theorem cK (r:Rl):(bn r).length=7:=rfl
structure Gn where
 rect:Rct
 fns:Int
 to:BitVec 64
 by_:Int
 rev:Bool
def bA (g:Gn):List Value:= [.int .i64 g.rect.c1,.int .i64 g.rect.r1,.int .i64 g.rect.c2,.int .i64 g.rect.r2,.int .u8 g.fns,vS g.to,.int .i64 g.by_,.bool g.rev]
theorem cX (g:Gn):(bA g).length=8:=rfl
def F5 (x:Int):List Int→List Int
 | []=> [x]
 |y::l=>if x≤y then x::y::l else y::F5 x l
def sK (l:List Int):List Int:=l.foldr F5 []
def jm (l:List Int):List Int:=l.mergeSort fun x y=>decide (x≤y)
theorem qQ (x:Int): ∀ l:List Int,(F5 x l).Perm (x::l)
 | []=> .refl _
 |y::l=>by
  rw [F5];split
  ·
   exact .refl _
  ·
   exact ((qQ x l).cons y).trans (.swap x y l)
theorem rG (x:Int): ∀ {l:List Int},l.Pairwise (· ≤ ·)→(F5 x l).Pairwise (· ≤ ·)
 | [],_=>PO _ _
 |y::l,h=>by
  have h1:=Oi.1 h
  rw [F5];split
  ·
   rename_i hxy
   refine Oi.2 ⟨fun z hz=> ?_,h⟩
   rcases NS.1 hz with rfl|hz
   ·
    exact hxy
   ·
    exact Int.le_trans hxy (h1.1 z hz)
  ·
   refine Oi.2 ⟨fun z hz=> ?_,rG x h1.2⟩
   rcases NS.1 ((qQ x l).mem_iff.1 hz) with rfl|hz
   ·
    omega
   ·
    exact h1.1 z hz
theorem qb: ∀ l:List Int,(sK l).Perm l
 | []=> .refl _
 |x::l=>(qQ x _).trans ((qb l).cons x)
theorem nB: ∀ l:List Int,(sK l).Pairwise (· ≤ ·)
 | []=> .nil
 |x::l=>rG x (nB l)
theorem il (l:List Int):(jm l).Perm l:=List.mergeSort_perm _ _
theorem pQ (l:List Int):(jm l).Pairwise (· ≤ ·):=by
 have h:=List.pairwise_mergeSort (le:=fun x y:Int=>decide (x≤y)) (fun a b c h1 h2=>by simp only [decide_eq_true_eq] at*;omega) (fun a b=>by simp only [Pn,decide_eq_true_eq];omega) l
 exact h.imp fun h=>by simpa using h
theorem oI: ∀ {l m:List Int},l.Pairwise (· ≤ ·)→m.Pairwise (· ≤ ·)→l.Perm m→l=m
 | [],m,_,_,h=>(List.nil_perm.1 h).symm
 |a::l,[],_,_,h=>absurd h.length_eq (by simp)
 |a::l,b::m,h1,h2,h=>by
  have k1:=Oi.1 h1
  have k2:=Oi.1 h2
  have hab:a=b:=by
   have ha:a∈b::m:=h.mem_iff.1 NI
   have hb:b∈a::l:=h.mem_iff.2 NI
   rcases NS.1 ha with e|ha
   ·
    exact e
   ·
    rcases NS.1 hb with e|hb
    ·
     exact e.symm
    ·
     have:=k2.1 a ha
     have:=k1.1 b hb
     omega
  subst hab
  rw [oI k1.2 k2.2 ((List.perm_cons a).1 h)]
theorem HM (l:List Int):jm l=sK l:=oI (pQ l) (nB l) ((il l).trans (qb l).symm)
def fY:List Int→List Int
 | []=> []
 |a::l=>if l.head? =some a then fY l else a::fY l
theorem w7 (x:Int): ∀ l:List Int,fY (l++ [x])=if l.getLast? =some x then fY l else fY l++ [x]
 | []=>by simp [fY]
 | [a]=>by
  by_cases h:x=a
  ·
   subst h;simp [fY]
  ·
   have h2: ¬ a=x:=fun e=>h e.symm
   simp [fY,h,h2]
 |a::b::l=>by
  have ih:=w7 x (b::l)
  have h0: ∀ l,fY (a::l)=if l.head? =some a then fY l else a::fY l:=fun _=>rfl
  have hh:(b::l++ [x]).head? =(b::l).head? :=rfl
  rw [List.getLast?_cons_cons,NF,h0,h0,hh,ih]
  by_cases h1:(b::l).head? =some a
  ·
   simp only [h1,if_true]
  ·
   simp only [h1,if_false];split<;>rfl
theorem w6 {L:List Int} {j:Nat} (h:j<L.length) (h0:0<j):fY (L.take (j+1))=if L[j]=L[j - 1] then fY (L.take j) else fY (L.take j)++ [L[j]]:=by
 have h1:L.take (j+1)=L.take j++ [L[j]]:=by rw [NT h]
 have h2:(L.take j).getLast? =some L[j - 1]:=by
  rw [Qs,NZ,Ps (by omega),Pv (by omega),NE (by omega)]
 rw [h1,w7,h2]
 simp only [Option.some.injEq,eq_comm]
theorem Bh {L:List Int} (h:L.length≤1):fY L=L:=by
 match L,h with
 | [],_=>rfl
 | [a],_=>rfl
theorem nk {x:Int}: ∀ {l:List Int},x∈fY l↔x∈l
 | []=>Iff.rfl
 |a::l=>by
  rw [fY]
  split
  ·
   rename_i h
   rw [nk (l:=l),NS]
   exact ⟨.inr,fun h2=>h2.elim (fun e=>by subst e;exact List.mem_of_mem_head? h) id⟩
  ·
   rw [NS,NS,nk (l:=l)]
theorem u5: ∀ l:List Int,(fY l).length≤l.length
 | []=>NJ _
 |a::l=>by
  have:=u5 l
  rw [fY]
  split<;>simp only [N8]<;>omega
theorem rN: ∀ {l:List Int},l.Pairwise (· ≤ ·)→(fY l).Pairwise (· < ·)
 | [],_=> .nil
 |a::l,h=>by
  have h1:=Oi.1 h
  have ih:=rN h1.2
  rw [fY]
  split
  ·
   exact ih
  ·
   rename_i hh
   refine Oi.2 ⟨fun y hy=> ?_,ih⟩
   have hyl:=nk.1 hy
   have h2:=h1.1 y hyl
   by_cases e:a=y
   ·
    subst e
    cases l with
    |nil=>cases hyl
    |cons b l=>
     have h3:=h1.1 b NI
     have h4:=Oi.1 h1.2
     rcases NS.1 hyl with e|hm
     ·
      subst e;exact absurd rfl hh
     ·
      have h5:=h4.1 a hm
      have h6:b=a:=by omega
      subst h6;exact absurd rfl hh
   ·
    omega
def dK:List Int→Int→List (Int × Int)
 | [],_=> []
 | [x],h=> [(x,h)]
 |x::y::l,h=>(x,y - 1)::dK (y::l) h
theorem ko (x h:Int): ∀ l:List Int,dK (l++ [x]) h=dK l (x - 1)++ [(x,h)]
 | []=>rfl
 | [a]=>rfl
 |a::b::l=>by
  have ih:=ko x h (b::l)
  show (a,b - 1)::dK (b::l++ [x]) h=_
  rw [ih];rfl
theorem l4 (h:Int): ∀ l:List Int,(dK l h).length=l.length
 | []=>rfl
 | [a]=>rfl
 |a::b::l=>by
  have ih:=l4 h (b::l)
  show (dK (b::l) h).length+1=_
  rw [ih];rfl
theorem zX (l:List Int) (h h' :Int) (hl:l≠ []): ∃ f a,dK l h=f++ [(a,h)]∧dK l h' =f++ [(a,h')]:=by
 have e:=Ph hl
 refine ⟨dK l.dropLast (l.getLast hl - 1),l.getLast hl,?_,?_⟩
 ·
  conv=>lhs;rw [← e]
  rw [ko]
 ·
  conv=>lhs;rw [← e]
  rw [ko]
def dl (lo:Int) (ps:List (Int × Int)):List Int:=lo::ps.flatMap fun p=> [p.1,p.2+1]
def uZ (lo hi:Int) (ps:List (Int × Int)):List Int:=(fY (jm (dl lo ps))).filter fun x=>decide (lo≤x) && decide (x≤hi)
def cE (lo hi:Int) (ps:List (Int × Int)):List (Int × Int):=dK (uZ lo hi ps) hi
theorem gI {lo hi x:Int} {ps:List (Int × Int)}:x∈uZ lo hi ps↔(x=lo∨ ∃ p∈ps,x=p.1∨x=p.2+1)∧lo≤x∧x≤hi:=by
 rw [uZ,QD,nk,(il _).mem_iff,dl,NS,OL]
 simp
theorem mi (lo hi:Int) (ps:List (Int × Int)):(uZ lo hi ps).Pairwise (· < ·):=(rN (pQ _)).filter _
theorem rO (lo:Int) (ps:List (Int × Int)):(dl lo ps).length=1+2*ps.length:=by
 unfold dl
 induction ps with
 |nil=>rfl
 |cons p ps ih=>simp only [NU,N8,ND,P9] at ih ⊢;omega
theorem iG (lo hi:Int) (ps:List (Int × Int)):(cE lo hi ps).length≤1+2*ps.length:=by
 rw [cE,l4,uZ]
 refine Ok (PY _ _) (Ok (u5 _) ?_)
 rw [(il _).length_eq,rO];exact NJ _
theorem nZ: ∀ {l:List Int} {h:Int},l.Pairwise (· < ·)→(∀ x∈l,x≤h)→ ∀ {p:Int × Int},p∈dK l h→p.1∈l∧p.1≤p.2∧p.2≤h∧ ∀ x∈l,¬ (p.1<x∧x≤p.2)
 | [],h,_,_,p,hp=>by cases hp
 | [a],h,_,hx,p,hp=>by
  rw [Ov.1 hp]
  have:=hx a (by simp)
  exact ⟨by simp,this,OW _,fun x hx=>by rw [Ov.1 hx];simp only;omega⟩
 |a::b::l,h,hs,hx,p,hp=>by
  have h1:=Oi.1 hs
  have hab:=h1.1 b NI
  rcases NS.1 hp with rfl|hp
  ·
   refine ⟨NI,by simp only;omega,by have:=hx b (by simp);simp only;omega,fun x hm=> ?_⟩
   simp only
   rcases NS.1 hm with rfl|hm
   ·
    omega
   ·
    rcases NS.1 hm with rfl|hm
    ·
     omega
    ·
     have:=(Oi.1 h1.2).1 x hm;omega
  ·
   obtain ⟨k1,k2,k3,k4⟩:=nZ h1.2 (fun x hm=>hx x (NQ _ hm)) hp
   refine ⟨NQ _ k1,k2,k3,fun x hm=> ?_⟩
   rcases NS.1 hm with rfl|hm
   ·
    have:=h1.1 p.1 k1;omega
   ·
    exact k4 x hm
theorem pZ: ∀ {l:List Int} {h:Int},l.Pairwise (· < ·)→(∀ x∈l,x≤h)→(dK l h).Pairwise fun p q=>p.2<q.1
 | [],_,_,_=> .nil
 | [a],_,_,_=>PO _ _
 |a::b::l,h,hs,hx=>by
  have h1:=Oi.1 hs
  refine Oi.2 ⟨fun q hq=> ?_,pZ h1.2 fun x hm=>hx x (NQ _ hm)⟩
  have hq1:=(nZ h1.2 (fun x hm=>hx x (NQ _ hm)) hq).1
  simp only
  rcases NS.1 hq1 with e|hm
  ·
   omega
  ·
   have:=(Oi.1 h1.2).1 _ hm;omega
theorem ru: ∀ {l:List Int} {h v:Int},(∃ x∈l,x≤v)→v≤h→ ∃ p∈dK l h,p.1≤v∧v≤p.2
 | [],h,v,⟨x,hx,_⟩,_=>by cases hx
 | [a],h,v,⟨x,hx,h1⟩,h2=>by rw [Ov.1 hx] at h1;exact ⟨(a,h),Ov.2 rfl,h1,h2⟩
 |a::b::l,h,v,⟨x,hx,h1⟩,h2=>by
  by_cases hb: ∃ x∈b::l,x≤v
  ·
   obtain ⟨p,hp,h3⟩:=ru (h:=h) hb h2
   exact ⟨p,NQ _ hp,h3⟩
  ·
   rcases NS.1 hx with rfl|hx
   ·
    refine ⟨(x,b - 1),NI,h1,?_⟩
    have: ¬ b≤v:=fun e=>hb ⟨b,NI,e⟩
    simp only;omega
   ·
    exact absurd ⟨x,hx,h1⟩ hb
theorem eJ {lo hi:Int} {ps:List (Int × Int)} {p:Int × Int} (hp:p∈cE lo hi ps):lo≤p.1∧p.1≤p.2∧p.2≤hi:=by
 obtain ⟨h1,h2,h3,_⟩:=nZ (mi lo hi ps) (fun x hx=>(gI.1 hx).2.2) hp
 exact ⟨(gI.1 h1).2.1,h2,h3⟩
theorem qq (lo hi:Int) (ps:List (Int × Int)):(cE lo hi ps).Pairwise fun p q=>p.2<q.1:=pZ (mi lo hi ps) fun x hx=>(gI.1 hx).2.2
theorem rQ {lo hi v:Int} {ps:List (Int × Int)} (h1:lo≤v) (h2:v≤hi): ∃ p∈cE lo hi ps,p.1≤v∧v≤p.2:=
 ru ⟨lo,gI.2 ⟨.inl rfl,OW _,by omega⟩,h1⟩ h2
theorem xb {lo hi:Int} {ps:List (Int × Int)} {p q:Int × Int} (hp:p∈cE lo hi ps) (hq:q∈ps) (h1:q.1≤p.2) (h2:p.1≤q.2):q.1≤p.1∧p.2≤q.2:=by
 obtain ⟨k1,k2,k3,k4⟩:=nZ (mi lo hi ps) (fun x hx=>(gI.1 hx).2.2) hp
 have k5:=(gI.1 k1).2.1
 constructor
 ·
  refine Int.not_lt.1 fun hlt=>k4 q.1 (gI.2 ⟨.inr ⟨q,hq,.inl rfl⟩,by omega,by omega⟩) ⟨hlt,h1⟩
 ·
  refine Int.not_lt.1 fun hlt=>k4 (q.2+1) (gI.2 ⟨.inr ⟨q,hq,.inr rfl⟩,by omega,by omega⟩) ⟨by omega,by omega⟩
structure Pz where
 rect:Rct
 a:Nat
 b:Nat
def dr (p:Pz):List Value:= [.int .i64 p.rect.c1,.int .i64 p.rect.r1,.int .i64 p.rect.c2,.int .i64 p.rect.r2,.int .i64 (p.a:Int),.int .i64 (p.b:Int)]
theorem cW (p:Pz):(dr p).length=6:=rfl
def jw (a b:Rct):Bool:=(dV a b).2 && decide ((dV a b).1=a)
def mE (r:Rct) (L:List Rl):Nat→Nat
 |0=>0
 |n+1=>if jw r ((L[n]?.map (·.rect)).getD aM)=true then n else mE r L n
def ib (r:Rct) (L:List Rl):Nat:=mE r L L.length
theorem v6 (r:Rct) (L:List Rl): ∀ n,mE r L n≤n - 1
 |0=>NJ _
 |n+1=>by
  rw [mE];split
  ·
   exact NJ _
  ·
   have:=v6 r L n;omega
def aU (r:Rct) (L:List Rl):List (Int × Int):=L.flatMap fun x=>if (dV x.rect r).2=true then [((dV x.rect r).1.c1,(dV x.rect r).1.c2)] else []
def aS (r:Rct) (L:List Rl):List (Int × Int):=L.flatMap fun x=>if (dV x.rect r).2=true then [((dV x.rect r).1.r1,(dV x.rect r).1.r2)] else []
def ng (A B:List Rl) (y x:Int × Int):Pz:=⟨⟨x.1,y.1,x.2,y.2⟩,ib ⟨x.1,y.1,x.2,y.2⟩ A,ib ⟨x.1,y.1,x.2,y.2⟩ B⟩
def jU (l:List Pz) (p:Pz):List Pz:=match l.getLast? with
 |some q=>if q.a=p.a∧q.b=p.b then l.dropLast++ [⟨⟨q.rect.c1,q.rect.r1,p.rect.c2,q.rect.r2⟩,q.a,q.b⟩] else l++ [p]
 |none=> [p]
def jR (A B:List Rl) (y:Int × Int) (xs:List (Int × Int)):List Pz:=xs.foldl (fun l x=>jU l (ng A B y x)) []
theorem ll {A B:List Rl} {y:Int × Int} {xs:List (Int × Int)} {x:Int × Int}:jR A B y (xs++ [x])=jU (jR A B y xs) (ng A B y x):=by
 unfold jR;rw [Qu];rfl
def dJ (r:Rct) (A B:List Rl):List Pz:=(cE r.r1 r.r2 (aS r A++aS r B)).flatMap fun y=>jR A B y (cE r.c1 r.c2 (aU r A++aU r B))
def sj (l:List (BitVec 64)):BitVec 64:=l.foldl (· &&& ·) (BitVec.allOnes 64)
def uk (f:Rl→BitVec 64) (r:Rct) (L:List Rl):BitVec 64:=sj ((dJ r L []).map fun p=>(L[p.a]?.map f).getD 0#64)
theorem Gm {l:List (BitVec 64)} {x:BitVec 64}:sj (l++ [x])=sj l &&& x:=by unfold sj;rw [Qu];rfl
end Go.SL
namespace Go.SL
open Go Go.Proofs
attribute [local irreducible] W WL WQ WG WA WX WLI WR WT WC WE VOp RW thn blk bG scp bg bi bT aQ FnIn FnP ceP
def db (n:Int):BitVec 64 × Int:=if n<0∨64<n then (0#64,3) else (yD n.toNat,0)
theorem yO (n:Int) (w:World):ax Tryz.prog 107 [.int .i64 n] w (.tuple #[vS (db n).1,.int .i64 (db n).2]):=by
 refine aq Tryz.func107 rfl Tryz.ntmps107 rfl ?_
 by_cases h:n<0∨64<n
 ·
  rw [db,if_pos h]
  repeat' (first|refine sT ?_|refine sM fun _=> ?_|(refine sC ?_ ?_<;>intro hb<;>try omega)|fail)
  all_goals first|(exfalso;omega)|((refine rT2 ?_);rfl)|trace_state
 ·
  rw [db,if_neg h]
  obtain ⟨m,rfl⟩: ∃ m:Nat,n=(m:Int):=⟨n.toNat,by omega⟩
  repeat' (first|(apply ak;exact rfl;apply xD (a:=1#64) (m:=m);exact rfl;exact rfl;omega)|(apply ak;exact rfl;apply J6 (b:=1#64);exact rfl;exact rfl)|refine sT ?_|refine sM fun _=> ?_|(refine sC ?_ ?_<;>intro hb<;>try omega)|fail)
  all_goals first|(exfalso;omega)|((refine rT2 ?_);rfl)|trace_state
theorem qw (x:BitVec 64) (u:Int) (w:World):ax Tryz.prog 109 [vS x,.int .i64 u] w (.bool (eU x u)):=by
 refine aq Tryz.func109 rfl Tryz.ntmps109 rfl ?_
 by_cases h:0≤u∧u<64
 ·
  obtain ⟨m,rfl⟩: ∃ m:Nat,u=(m:Int):=⟨u.toNat,by omega⟩
  have hs:=Es x m
  have he:eU x (m:Int)=x.getLsbD m:=by simp [eU];omega
  rw [he]
  repeat' (first|(apply ak;exact rfl;apply xC (a:=x) (m:=m);exact rfl;exact rfl;omega)|(apply ak;exact rfl;apply su (b:=1#64);exact rfl;exact rfl)|(apply ak;exact rfl;apply xG (b:=1#64);exact rfl;exact rfl)|refine sT ?_|refine sM fun _=> ?_|(refine sC ?_ ?_<;>intro hb<;>try omega)|fail)
  all_goals first|(exfalso;omega)|((refine rT1 ?_);exact congrArg Value.bool hs)|trace_state
 ·
  have he:eU x u=false:=by
   unfold eU
   by_cases h1:0≤u
   ·
    have h2: ¬ u<64:=fun h2=>h ⟨h1,h2⟩
    simp [h2]
   ·
    simp [h1]
  rw [he]
  repeat' (first|refine sT ?_|refine sM fun _=> ?_|(refine sC ?_ ?_<;>intro hb<;>try omega)|fail)
  all_goals first|(exfalso;omega)|((refine rT1 ?_);rfl)|trace_state
theorem GD (L:List (BitVec 64)) (lv:Value) (w:World) (hl:Reads w lv L.length (L.map vS)):ax Tryz.prog 83 [lv] w (vS (sj L)):=by
 obtain ⟨Al,cl,rfl,hl1,hl2,hl3⟩:=hl
 refine aq Tryz.func83 rfl Tryz.ntmps83 rfl ?_
 repeat' (first|refine sT ?_|refine sM fun _=> ?_|(refine sC ?_ ?_<;>intro hb<;>try omega)|fail)
 refine ay [6,7] rfl (fun i:Nat=> [(3,vS (sj (L.take i))),(8,.int .i64 (i:Int))]) (fun _=> []) (fun i=>i≤L.length) (fun i=>L.length - i) 0 (NY _) sB mS ?_
 rintro i hi
 by_cases hlt:i<L.length
 ·
  obtain ⟨gl,ol,rfl,hrl⟩:=hl3 (by omega)
  have he1:=hrl.cellV i (v:=vS L[i]) (by rw [OU,NE hlt];rfl)
  have hs:sj (L.take (i+1))=sj (L.take i) &&& L[i]:=by rw [NT hlt,Gm]
  repeat' (first|(apply ak;exact rfl;apply su;exact rfl;exact rfl)|refine sT ?_|refine sN ?_|refine sO ?_|refine sM fun _=> ?_|(refine sC ?_ ?_<;>intro hb<;>try omega)|fail)
  all_goals first
   |(exfalso;omega)
   |(refine ⟨i+1,hlt,by omega,?_,by exact sB,by exact mS⟩;rw [hs];exact sB)
   |trace_state
 ·
  have e:i=L.length:=by omega
  subst e
  repeat' (first|refine sT ?_|refine sM fun _=> ?_|(refine sC ?_ ?_<;>intro hb<;>try omega)|fail)
  all_goals first
   |(exfalso;omega)
   |((refine rT1 ?_);rw [OX])
   |trace_state
theorem iy {r:Rct} (h:dU r≠0):aF r=false:=by
 cases hq:aF r
 ·
  rfl
 ·
  exact absurd (by rw [dU,hq];rfl) h
theorem fg {r:Rct} (h: ¬ dU r≠0): ¬ aF r=false:=fun hq=>h (by rw [dU,hq];decide)
def mU:Rct:=⟨1,1,1024,1024⟩
def eR (u:Int):List Rl→Int→Int × Int
 | [],_=>(0,0)
 |r::L,i=>if aF r.rect=false then (i,3) else if (r.read|||r.write|||r.own) &&& ~~~(db u).1≠0#64 then (i,2) else eR u L (i+1)
def eL (u:Int) (L:List Rl):Int × Int:=
 if u<0∨64<u∨u=0∨L= [] then (0,2) else if 64<L.length then (64,5) else if (L.head?.map (·.rect))≠some mU then (0,2) else eR u L 0
theorem HN (w:World):ax Tryz.prog 108 [] w (.agg (bQ mU).toArray):=by
 refine aq Tryz.func108 rfl Tryz.ntmps108 rfl ?_
 repeat' (first|refine sT ?_|refine sM fun _=> ?_|(refine sC ?_ ?_<;>intro hb<;>try omega)|fail)
 (refine eRC ?_)
 rfl
theorem Rl.ro {w:World} {g o:Nat} {r:Rl} (h:Ro w g o (bn r)):Ro w g o (bQ r.rect)∧Ro w g (o+4) [vS r.read]∧Ro w g (o+5) [vS r.write]∧Ro w g (o+6) [vS r.own]∧Ro w g (o+4) [vS r.read,vS r.write,vS r.own]:=
 ⟨h.take (k:=4),(h.drop (k:=4)).take (k:=1),(h.drop (k:=5)).take (k:=1),h.drop (k:=6),h.drop (k:=4)⟩
set_option maxHeartbeats 4000000 in
theorem ky (u:Int) (L:List Rl) (lv:Value) (w:World) (hl:Reads w lv L.length (L.flatMap bn)):ax Tryz.prog 51 [.int .i64 u,lv] w (.tuple #[.int .i64 (eL u L).1,.int .i64 (eL u L).2]):=by
 obtain ⟨Al,cl,rfl,hl1,hl2,hl3⟩:=hl
 refine aq Tryz.func51 rfl Tryz.ntmps51 rfl ?_
 have hA:=fun w=>yO u w
 unfold eL
 have hE:(db u).2=if u<0∨64<u then 3 else 0:=by unfold db;split<;>rfl
 by_cases h1:u<0∨64<u∨u=0∨L= []
 ·
  rw [if_pos h1]
  generalize db u=ae at hA hE
  obtain ⟨sa,ee⟩:=ae
  dsimp only at hA hE
  subst hE
  have h1' : ¬ (u<0∨64<u)→u≠0→L.length=0:=fun h2 h3=>by
   rcases h1 with h|h|h|h
   ·
    exact absurd (.inl h) h2
   ·
    exact absurd (.inr h) h2
   ·
    exact absurd h h3
   ·
    rw [h];rfl
  clear h1
  by_cases h2:u<0∨64<u
  ·
   rw [if_pos h2] at hA
   repeat' (first|(apply aa;exact rfl;exact rfl;(intro w hm;exact hA w))|refine sT ?_|refine sM fun _=> ?_|(refine sC ?_ ?_<;>intro hb<;>try omega)|fail)
   all_goals first|(exfalso;omega)|((refine rT2 ?_);rfl)|trace_state
  ·
   rw [if_neg h2] at hA
   have h3:=h1' h2
   repeat' (first|(apply aa;exact rfl;exact rfl;(intro w hm;exact hA w))|refine sT ?_|refine sM fun _=> ?_|(refine sC ?_ ?_<;>intro hb<;>try omega)|fail)
   all_goals first|(exfalso;omega)|((refine rT2 ?_);rfl)|trace_state
 rw [if_neg h1]
 have hu: ¬ (u<0∨64<u)∧u≠0:=⟨fun h=>h1 (h.elim .inl fun h=> .inr (.inl h)),fun h=>h1 (.inr (.inr (.inl h)))⟩
 have hpos:0<L.length:=O2.2 fun h=>h1 (.inr (.inr (.inr h)))
 rw [if_neg hu.1] at hE
 rw [hE] at hA
 obtain ⟨sa,has⟩: ∃ sa,sa=(db u).1:=⟨_,rfl⟩
 rw [← has] at hA
 obtain ⟨gl,ol,rfl,hrl⟩:=hl3 hpos
 by_cases h64:64<L.length
 ·
  rw [if_pos h64]
  repeat' (first|(apply aa;exact rfl;exact rfl;(intro w hm;exact hA w))|refine sT ?_|refine sM fun _=> ?_|(refine sC ?_ ?_<;>intro hb<;>try omega)|fail)
  all_goals first|(exfalso;omega)|((refine rT2 ?_);rfl)|trace_state
 rw [if_neg h64]
 obtain ⟨h0a,_⟩:=Rl.ro (hrl.elem cK 0 hpos)
 have hsh:=fun w=>HN w
 have hhd:L.head?.map (·.rect)=some L[0].rect:=by rw [List.head?_eq_getElem?,NE hpos];rfl
 rw [hhd]
 obtain ⟨c,hc⟩: ∃ c,decide (L[0].rect=mU)=c:=⟨_,rfl⟩
 have hcs:(some L[0].rect≠some mU)↔c=false:=by rw [← hc];simp
 generalize L[0].rect=r0 at h0a hc hcs ⊢
 simp only [hcs]
 clear hhd hcs
 cases c with
 |false=>
  repeat' (first|(apply aa;exact rfl;exact rfl;(intro w hm;exact hA w))|(apply dO (f:=108);exact rfl;exact rfl;(intro w' _;exact hsh w'))|(apply aK;exact rfl;apply aj (j:=0);exact rfl;exact rfl;exact hpos)|(apply aK;exact rfl;apply aA (xs:=bQ r0);exact rfl;exact h0a;exact rfl)|(apply aK;exact rfl;apply nV hc;exact rfl;exact rfl)|refine sT ?_|refine sQ ?_|refine sN ?_|refine sNQ ?_|refine sO ?_|refine sOQ ?_|refine sD ?_|refine sM fun _=> ?_|(refine sC ?_ ?_<;>intro hb<;>try omega)|(refine sCQ ?_ ?_<;>intro hb<;>try omega)|fail)
  all_goals first|(exfalso;omega)|((refine rT2 ?_);rfl)|trace_state
 |true=>
  repeat' (first|(apply aa;exact rfl;exact rfl;(intro w hm;exact hA w))|(apply dO (f:=108);exact rfl;exact rfl;(intro w' _;exact hsh w'))|(apply aK;exact rfl;apply aj (j:=0);exact rfl;exact rfl;exact hpos)|(apply aK;exact rfl;apply aA (xs:=bQ r0);exact rfl;exact h0a;exact rfl)|(apply aK;exact rfl;apply nV hc;exact rfl;exact rfl)|refine sT ?_|refine sQ ?_|refine sN ?_|refine sNQ ?_|refine sO ?_|refine sOQ ?_|refine sD ?_|refine sM fun _=> ?_|(refine sC ?_ ?_<;>intro hb<;>try omega)|(refine sCQ ?_ ?_<;>intro hb<;>try omega)|fail)
  all_goals try (exfalso;omega)
  refine ay [1,6,37,38] rfl (fun i:Nat=> [(39,.int .i64 (i:Int))]) (fun _=> []) (fun i=>i≤L.length∧eR u L 0=eR u (L.drop i) (i:Int)) (fun i=>L.length - i) 0 ⟨NY _,rfl⟩ sB mS ?_
  rintro i ⟨hi,hrec⟩
  by_cases hlt:i<L.length
  ·
   have he1:=hrl.elem cK i hlt
   rw [NL hlt,eR,← has] at hrec
   generalize L[i]=r at hrec he1
   have hck:=fun w=>gR r.rect w
   repeat' (first|(apply aa;exact rfl;exact rfl;(intro w hm;exact hck w))|(apply ak;exact rfl;apply qE;exact rfl;exact rfl)|(apply ak;exact rfl;apply dY (b:=sa);exact rfl;exact rfl)|(apply ak;exact rfl;apply iM (b:=0#64);exact rfl;exact rfl)|refine sT ?_|refine sN ?_|refine sO ?_|refine sM fun _=> ?_|(refine sC ?_ ?_<;>intro hb<;>try omega)|fail)
   all_goals first
    |(exfalso;omega)
    |((refine rT2 ?_);rw [if_neg (by decide),hrec,if_pos (iy hb)];done)
    |((refine rT2 ?_);rw [if_neg (by decide),hrec,if_neg (fg ‹_›),if_pos hb];done)
    |(refine ⟨i+1,⟨hlt,by rw [hrec,if_neg (fg ‹_›),if_neg (fun h=>h hb)];rfl⟩,by omega,by exact sB,by exact sB,by exact mS⟩;done)
    |trace_state
  ·
   have e:i=L.length:=by omega
   subst e
   rw [NW,eR] at hrec
   rw [if_neg (by decide),hrec]
   repeat' (first|refine sT ?_|refine sM fun _=> ?_|(refine sC ?_ ?_<;>intro hb<;>try omega)|fail)
   all_goals first|(exfalso;omega)|((refine rT2 ?_);rfl)|trace_state
end Go.SL
