/-
  Lemmas and walks, put together: Sl29 Sl30 Sl31 Sl32 Bt Pg.
-/
import Derived.Deep.AppendSrc
import Derived.Laws.Bits64
import Derived.Test.YthefeclkaaocnaaGreatDoorKf10
set_option linter.unusedSimpArgs false
set_option linter.unusedVariables false
set_option maxRecDepth 20000
namespace Go.SL
open Go Go.RowKit
section
variable {P:Program} {ops:Array Oper} {es ps:List Nat} {C:World→Prop}
theorem vU {Q:Act→World→Prop} {i:Nat} {oi:Oper} (hi:ops[i]? =some oi) (hsel: ∀ (j:Nat) (o:Oper) cs b,ops[j]? =some o→o.op≠ .select cs b)
  (hnb: ∀ x∈es,∀ y,y∈es∨y∈ps→x≠y→(x=i∨y=i)→wM ops x y):
  ∀ (f:Nat) (L:Array Bool) (a:Act) (w:World),ClosedL ops L→C w→
   (∀ j oj,ops[j]? =some oj→j≠i→L.getD j true=false→(∀ e∈oj.after,Region.binds .any e=true→e.on≠i)→oi.apart ops oj=true)→
   i∈Region.ready .any ops L→EOp P ops es ps C (AnyE P ops es ps C Q f (L.setIfInBounds i true)) i oi a w→AnyE P ops es ps C Q (f+1) L a w
 |0,L,a,w,hcl,hC,_,hr,hy=>⟨hC,fun h=>(by rw [h] at hr;cases hr),fun j hj=>by
   by_cases hji:j=i
   ·
    subst hji;exact ⟨oi,hi,hy⟩
   ·
    exfalso
    have hne:=ready_mono hj hji
    have hE: ∃ a' w',AnyE P ops es ps C Q 0 (L.setIfInBounds i true) a' w' :=by
     cases hy with
     |pass _ hk=>exact ⟨_,_,hk⟩
     |quiet _ _ _ _ _ hk=>exact ⟨_,_,hk⟩
     |eff _ _ hk=>obtain ⟨v,w',h⟩:=hk.ex;exact ⟨_,_,h⟩
    obtain ⟨a',w',_,h0,_⟩:=hE
    rw [h0] at hne
    cases hne⟩
 |f+1,L,a,w,hcl,hC,hfree,hr,hy=>⟨hC,fun h=>(by rw [h] at hr;cases hr),fun j hj=>by
   by_cases hji:j=i
   ·
    subst hji;exact ⟨oi,hi,hy⟩
   ·
    have hj' :=ready_mono hj hji
    obtain ⟨hjun,oj,hoj,hall⟩:=mem_ready.1 hj
    have hnot: ∀ e∈oj.after,Region.binds .any e=true→e.on≠i:=fun e he hb heq=>by
     have h1:=hall e he hb
     have h0:=(mem_ready.1 hr).1
     rw [heq] at h1
     rcases Vq i L.size with h' |h'
     ·
      simp [h'] at h0 h1;rw [h0] at h1;cases h1
     ·
      simp [VV h'] at h1
    have hap:=hfree j oj hoj hji hjun hnot
    obtain ⟨h1,h2,h3⟩:=Oper.apart_spec hap
    have hsi:=fun cs b=>hsel i oi cs b hi
    have hsj:=fun cs b=>hsel j oj cs b hoj
    have hej: ∀ v,execOp (a.put oi.dst v).eval oj=execOp a.eval oj:=fun v=>execOp_put oj hsj a oi.dst v h1
    have hwj: ∀ v,Region.wanted oj (yielded ops (a.put oi.dst v).tmps)=Region.wanted oj (yielded ops a.tmps):=fun v=>wanted_put oj a oi.dst v h1
    have hcomm: ∀ v u,(a.put oi.dst v).put oj.dst u=(a.put oj.dst u).put oi.dst v:=fun v u=>Act.put_comm a v u h2
    have hset:(L.setIfInBounds i true).setIfInBounds j true=(L.setIfInBounds j true).setIfInBounds i true:=WH _ _ (Ne.symm hji)
    have hfree' : ∀ k ok,ops[k]? =some ok→k≠i→(L.setIfInBounds j true).getD k true=false→
      (∀ e∈ok.after,Region.binds .any e=true→e.on≠i)→oi.apart ops ok=true:=fun k ok hk hki hun hno=>by
     refine hfree k ok hk hki ?_ hno
     by_cases hjk:j=k
     ·
      subst hjk;exact hjun
     ·
      rw [getD_set_ne true hjk] at hun;exact hun
    have ih:=vU (Q:=Q) hi hsel hnb f (L.setIfInBounds j true)
    have hcl' :=hcl.set hj
    have hr' :=ready_mono hr (Ne.symm hji)
    -- what comes of j behind an outcome of i
    have hJ: ∀ v w',AnyE P ops es ps C Q (f+1) (L.setIfInBounds i true) (a.put oi.dst v) w' →EOp P ops es ps C (AnyE P ops es ps C Q f ((L.setIfInBounds j true).setIfInBounds i true)) j oj (a.put oi.dst v) w' :=fun v w' h=>by
     obtain ⟨o,ho,hE⟩:=h.2.2 j hj'
     have e:o=oj:=Option.some.inj (ho.symm.trans hoj)
     subst e
     rw [hset] at hE
     exact hE
    refine ⟨oj,hoj,?_⟩
    have hstill:(∃ v,AnyE P ops es ps C Q (f+1) (L.setIfInBounds i true) (a.put oi.dst v) w∧ ∀ (u:Value) (w2:World) (K' :Act→World→Prop),C w2→(i∈ps→w2=w)→K' ((a.put oj.dst u).put oi.dst v) w2→EOp P ops es ps C K' i oi (a.put oj.dst u) w2)∨
      (Region.wanted oi (yielded ops a.tmps)=true∧i∈es∧NormUp P (fun v w' =>AnyE P ops es ps C Q (f+1) (L.setIfInBounds i true) (a.put oi.dst v) w') ((execOp a.eval oi).run P w)):=by
     cases hy with
     |pass hw hk=>exact .inl ⟨undef,hk,fun u w2 K' _ _ hk' => .pass ((wanted_put oi a oj.dst u h3).trans hw) hk'⟩
     |quiet hw hies v hrun hst hk=>
      refine .inl ⟨v,hk,fun u w2 K' hC2 hps hk' => ?_⟩
      have he:=execOp_put oi hsi a oj.dst u h3
      have hrun2:(execOp a.eval oi).run P w2= .ok (.value v) w2:=by
       rcases hst with h|h
       ·
        rw [hps h];exact hrun
       ·
        exact h w2 hC2
      exact .quiet ((wanted_put oi a oj.dst u h3).trans hw) hies v (by rw [he];exact hrun2) (by rw [he];exact hst) hk'
     |eff hw hies hk=>exact .inr ⟨hw,hies,hk⟩
    rcases hstill with ⟨v,hk,hS⟩|⟨hw,hies,hk⟩
    ·
     cases hJ v w hk with
     |pass hwj' hkj=>exact .pass ((hwj v).symm.trans hwj') (ih _ w hcl' hC hfree' hr' (hS undef w _ hC (fun _=>rfl) (by rw [← hcomm];exact hkj)))
     |quiet hwj' hjes u hrun hst hkj=>
      rw [hej] at hrun hst
      exact .quiet ((hwj v).symm.trans hwj') hjes u hrun hst (ih _ w hcl' hC hfree' hr' (hS u w _ hC (fun _=>rfl) (by rw [← hcomm];exact hkj)))
     |eff hwj' hjes hkj=>
      rw [hej] at hkj
      exact .eff ((hwj v).symm.trans hwj') hjes (hkj.mono fun u w2 hk2=>ih _ w2 hcl' hk2.inC hfree' hr' (hS u w2 _ hk2.inC (fun hps=>(hnb j hjes i (.inr hps) hji (.inr rfl) L hcl hj hr).elim) (by rw [← hcomm];exact hk2)))
    ·
     obtain ⟨v0,w1,h0⟩:=hk.ex
     cases hJ v0 w1 h0 with
     |pass hwj' hkj=>
      have hwa:=(hwj v0).symm.trans hwj'
      refine .pass hwa (ih _ w hcl' hC hfree' hr' (EOp.of_put hap hsi (.eff hw hies hk) fun v w' h=> ?_))
      cases hJ v w' h with
      |pass _ h' =>rw [← hcomm];exact h'
      |quiet hw2 _ _ _ _ _=>rw [hwj,hwa] at hw2;cases hw2
      |eff hw2 _ _=>rw [hwj,hwa] at hw2;cases hw2
     |quiet hwj' hjes u hrun hst hkj=>
      have hwa:=(hwj v0).symm.trans hwj'
      have hst2: ∀ w1,C w1→(execOp a.eval oj).run P w1= .ok (.value u) w1:=by
       rcases hst with h|h
       ·
        exact (hnb i hies j (.inr h) (Ne.symm hji) (.inl rfl) L hcl hr hj).elim
       ·
        rw [hej] at h;exact h
      refine .quiet hwa hjes u (hst2 w hC) (.inr hst2) (ih _ w hcl' hC hfree' hr' (EOp.of_put hap hsi (.eff hw hies hk) fun v w' h=> ?_))
      cases hJ v w' h with
      |pass hw2 _=>rw [hwj,hwa] at hw2;cases hw2
      |eff _ hjes2 _=>exact absurd hjes2 hjes
      |quiet _ _ u' hr2 hst' h' =>
       have hst3:(execOp a.eval oj).run P w= .ok (.value u') w:=by
        rcases hst' with h|h
        ·
         exact (hnb i hies j (.inr h) (Ne.symm hji) (.inl rfl) L hcl hr hj).elim
        ·
         have:=h w hC
         rw [hej] at this;exact this
       rw [hst2 w hC] at hst3
       injection hst3 with h4
       injection h4 with h4
       subst h4
       rw [← hcomm];exact h'
     |eff hwj' hjes hkj=>exact (hnb i hies j (.inl hjes) (Ne.symm hji) (.inl rfl) L hcl hr hj).elim⟩
end
section
variable {P:Program} {n:Fr} {w0:World} {Q:ck} {s:aB} {H S:List Blk} {l:List Oper} {ty:TypeId} {p:String} {af:Array Edge} {es:List Nat} {gu:Option (Nat × Bool)} {f:Nat} {L:Array Bool}
def WE (P:Program) (n:Fr) (w0:World) (l:List Oper) (S:List Blk) (es:List Nat) (Q:ck) (f:Nat) (L:Array Bool) (s:aB) (H:List Blk):Prop:=
 ∀ a w,St n s a→Mem w0 w H→Mem w0 w S→ClosedL l.toArray L→AnyE P l.toArray es [] (fun w=>Mem w0 w S) (post n w0 Q .normal) f L a w
theorem ll {id:Nat} (es:List Nat) (S:List Blk) (N:Nat) (hN:l.length=N) (hm:P.follows .mixedOrders=true) (hS:MSub S H)
  (h:WE P n w0 l S es Q N (Array.replicate N false) s H):W P n w0 (.region id l.toArray true) Q s H:=by
 intro a w hs hmem
 subst hN
 refine wp_region_any hm (gS (es:=es) (ps:= []) (C:=fun w=>Mem w0 w S) (Q:=post n w0 Q .normal) (fun _ _ h=>h) _ _ _ _ ?_)
 have hcl:ClosedL l.toArray (Array.replicate l.length false):=fun i o _ hi=>by
  rw [Uz,V8] at hi
  split at hi<;>cases hi
 have:=h a _ hs hmem.drew (hS.use hmem.drew) hcl
 simpa using this
theorem lj (hr:Region.ready .any l.toArray L= []) (h:Q .normal s H):WE P n w0 l S es Q f L s H:=by
 intro a w hs hm hS hcl
 cases f with
 |zero=>exact ⟨hS,hr,s,H,hs,hm,h⟩
 |succ f=>exact ⟨hS,fun _=>⟨s,H,hs,hm,h⟩,fun i hi=>by rw [hr] at hi;cases hi⟩
theorem bY {i:Nat} {op:Op} {d:Nat} {v:Value} (hi:l[i]? =some ⟨some d,op,ty,p,af,gu⟩) (hn:Nat.blt d n.sz=true) (hg:gok l s gu=some true) (hk:es.contains i=false) (hsel:Region.noSelect l.toArray=true)
  (hr:(Region.ready .any l.toArray L).contains i=true) (hf:Region.free .any l.toArray L i=true) (hv:VOp P w0 s S op ty v) (h:WE P n w0 l S es Q f (L.setIfInBounds i true) ((d,v)::s) H):WE P n w0 l S es Q (f+1) L s H:=by
 intro a w hs hm hS hcl
 have hi' :l.toArray[i]? =some ⟨some d,op,ty,p,af,gu⟩:=by simpa using hi
 have hr' :i∈Region.ready .any l.toArray L:=by simpa using hr
 have hk' :i∉es:=by simpa using hk
 refine vU hi' (Region.noSelect_spec hsel) (fun x hx y hy _ hxy=> ?_) f L a w hcl hS (Region.free_spec hi' hf) hr'
  (.quiet (jt rfl hg hs) hk' v (hv a.eval w (some d) p af gu hs.eval hS) (.inr fun w1 h1=>hv a.eval w1 (some d) p af gu hs.eval h1) (h _ _ (hs.put (UI ▸ hn) v) hm hS (hcl.set hr')))
 rcases hxy with rfl|rfl
 ·
  exact (hk' hx).elim
 ·
  rcases hy with hy|hy
  ·
   exact (hk' hy).elim
  ·
   cases hy
theorem pY {i:Nat} {op:Op} {dst:Option Tmp} (hi:l[i]? =some ⟨dst,op,ty,p,af,gu⟩) (hg:gok l s gu=some true) (hk:es.contains i=true) (hr:(Region.ready .any l.toArray L).contains i=true)
  (h:WL P n w0 #[] [⟨dst,op,ty,p,af,none⟩] (ceP S (WE P n w0 l S es Q f (L.setIfInBounds i true))) s H) (a:Act) (w:World) (hs:St n s a) (hm:Mem w0 w H) (hcl:ClosedL l.toArray L):
  EOp P l.toArray es [] (fun w=>Mem w0 w S) (AnyE P l.toArray es [] (fun w=>Mem w0 w S) (post n w0 Q .normal) f (L.setIfInBounds i true)) i ⟨dst,op,ty,p,af,gu⟩ a w:=by
 have hr' :i∈Region.ready .any l.toArray L:=by simpa using hr
 refine .eff (jt rfl hg hs) (by simpa using hk) ?_
 have h1:=h a w hs hm
 unfold wpList at h1
 simp only [Region.wanted,if_true] at h1
 replace h1:=h1.elim id fun ⟨_,a0,w1,s',H'',_,_,he,_⟩=>by cases he
 have hexec:execOp a.eval ⟨dst,op,ty,p,af,gu⟩=execOp a.eval ⟨dst,op,ty,p,af,none⟩:=rfl
 rw [hexec]
 have nxt: ∀ (a' :Act) (w' :World),wpList P #[] (post n w0 (ceP S (WE P n w0 l S es Q f (L.setIfInBounds i true)))) [] a' w' →AnyE P l.toArray es [] (fun w=>Mem w0 w S) (post n w0 Q .normal) f (L.setIfInBounds i true) a' w' :=by
  rintro a' w' ⟨s',H',hs',hm',_,hSub,hK⟩
  exact hK a' w' hs' hm' (hSub.use hm') (hcl.set hr')
 unfold Oper.wp at h1
 generalize (execOp a.eval ⟨dst,op,ty,p,af,none⟩).run P w=r at h1 ⊢
 cases r with
 |ok x w' =>
  cases x<;>simp only [Oper.upon] at h1<;>simp only [NormUp]
  case value u=>exact nxt _ _ h1
  case skip=>exact nxt _ _ h1
  case defer dd=>
   obtain ⟨s',H'',hs',_⟩:=h1
   have h2:=congrArg List.length (hs'.defers.trans hs.defers.symm)
   cases dst<;>simp [Act.put] at h2
  case enter f args=>
   refine h1.mono fun e w'' he=> ?_
   cases e with
   |returned v=>exact ⟨v,rfl,nxt _ _ he⟩
   |panicked c=>
    obtain ⟨s',H'',_,_,he',_⟩:=he
    cases he'
   |outgrown=>
    obtain ⟨a0,w1,s',H'',_,_,he',_⟩:=he
    cases he'
  case row f args=>exact Rows.mono h1 fun u w'' he=>nxt _ _ he
 |halt x w' =>
  cases x<;>simp only [Oper.upon] at h1
  all_goals
   obtain ⟨s',H'',_,_,he',_⟩:=h1
   cases he'
theorem cG {i:Nat} {op:Op} {dst:Option Tmp} (hi:l[i]? =some ⟨dst,op,ty,p,af,gu⟩) (hg:gok l s gu=some true) (hk:es.contains i=true) (hr:Region.ready .any l.toArray L= [i])
  (h:WL P n w0 #[] [⟨dst,op,ty,p,af,none⟩] (ceP S (WE P n w0 l S es Q f (L.setIfInBounds i true))) s H):WE P n w0 l S es Q (f+1) L s H:=by
 intro a w hs hm hS hcl
 refine ⟨hS,fun h0=>(by rw [hr] at h0;cases h0),fun j hj=> ?_⟩
 rw [hr] at hj
 have e:j=i:=by simpa using hj
 subst e
 exact ⟨_,by simpa using hi,pY hi hg hk (by rw [hr];simp) h a w hs hm hcl⟩
theorem iq {i j:Nat} {op op' :Op} {dst dst' :Option Tmp} {ty' :TypeId} {p' :String} {af' :Array Edge} {gu' :Option (Nat × Bool)} (hi:l[i]? =some ⟨dst,op,ty,p,af,gu⟩) (hj:l[j]? =some ⟨dst',op',ty',p',af',gu'⟩) (hg:gok l s gu=some true) (hg' :gok l s gu' =some true)
  (hk:es.contains i=true) (hk' :es.contains j=true) (hr:Region.ready .any l.toArray L= [i,j])
  (h:WL P n w0 #[] [⟨dst,op,ty,p,af,none⟩] (ceP S (WE P n w0 l S es Q f (L.setIfInBounds i true))) s H)
  (h' :WL P n w0 #[] [⟨dst',op',ty',p',af',none⟩] (ceP S (WE P n w0 l S es Q f (L.setIfInBounds j true))) s H):WE P n w0 l S es Q (f+1) L s H:=by
 intro a w hs hm hS hcl
 refine ⟨hS,fun h0=>(by rw [hr] at h0;cases h0),fun k hk0=> ?_⟩
 rw [hr] at hk0
 rcases TS.1 hk0 with e|hk0
 ·
  subst e
  exact ⟨_,by simpa using hi,pY hi hg hk (by rw [hr];simp) h a w hs hm hcl⟩
 ·
  have e:k=j:=by simpa using hk0
  subst e
  exact ⟨_,by simpa using hj,pY hj hg' hk' (by rw [hr];simp) h' a w hs hm hcl⟩
end
theorem xC {P:Program} (w:World) (base:Nat) (t ty e:TypeId) (i:TypeInfo) (z:Value) (size bytes:Nat) (ht:P.underlying t=some (.slice e)) (hi:P.info? e=some i) (hz:i.zero=some z)
    (hsize:i.size=size) (hby:i.bytes=bytes) (hzs:z.cells.size=size) (hsz:0<size)
    (g n cap k off:Nat) (hk:k≤n) (hoff:k<cap→off=k*size) (xs:List Value) (hown:w.ownsRow base e size (.slice (some ⟨g,0,none⟩) n cap) n xs)
    (a:Addr) (m c:Nat) (news:List Value) (hl:news.length=m*size) (hnews: ∀ j u,news[j]? =some u→w.cell? (a.add j)=some u) (h1: ∀ u∈news,u.oneCell' =true) (hm0:0<m)
    (h63:n+m≤maxLen) (hbytes:(n+m)*bytes≤140737488355328) (hbase:base≤w.heap.size):
    ∃ v' w',(Builtin.append_ #[t,t] ty #[.slice (some ⟨g,off,none⟩) (n - k) (cap - k),.slice (some a) m c]).run P w= .ok v' w' ∧w.grownBy w' (some g)∧
      ((v' = .slice (some ⟨g, off, none⟩) (n - k + m) (cap - k) ∧ n + m ≤ cap ∧ w'.ownsRow base e size (.slice (some ⟨g, 0, none⟩) (n + m) cap) (n + m) (xs ++ news)) ∨
       (∃ cap',v' = .slice (some ⟨w.heap.size,0,none⟩) (n - k+m) cap' ∧w'.ownsRow base e size v' (n - k+m) (xs.drop (k*size)++news))):=by
  subst hsize
  subst hby
  obtain ⟨hxl,hown2⟩:=hown
  rcases hown2 with ⟨h0,_⟩|⟨g',cap',cur,hv,hbg,hg,hnc,hcm,hcs,htake⟩
  · cases h0
  injection hv with e1 e2 e3
  injection e1 with e1
  injection e1 with e1
  subst e1;subst e3
  have hsrc:Src P i.size t (.slice (some a) m c) m news w:=Src.ofSlice w ht a m c news hl hnews h1
  have hlen:(xs++news).length=(n+m)*i.size:=by rw [TG,hxl,hl,Vt]
  by_cases hroom:n+m≤cap
  · have hoff' :=hoff (by omega)
    subst hoff'
    have hfit:n*i.size+news.length≤cur.size:=by rw [hl,hcs,← Vt];exact VR _ hroom
    have hkn:k*i.size+(n - k)*i.size=n*i.size:=by
      rw [← Vt]
      congr 1
      omega
    have hr0:=run_append_room (P:=P) w t ty e i ht hi g n cap cur hg a m c news hl hnews h1 hroom hfit
    have hcell: ∀ j,j<news.length→(w.cell? ⟨g,n*i.size+j,none⟩).isSome=true:=fun j hj=>by
      simp only [World.cell?,hg]
      rw [Array.getElem?_eq_getElem (by omega)]
      rfl
    have hfro: ∀ j,j<news.length→w.frozen? ⟨g,n*i.size+j,none⟩=false:=fun j hj=>by
      simp [World.frozen?,hg]
    have hr1:=run_append_room_src (P:=P) w t t ty e i ht hi g 0 n cap (.slice (some a) m c) m news hsrc hroom (by simpa using hcell) (by simpa using hfro)
    have hr2:=run_append_room_src (P:=P) w t t ty e i ht hi g (k*i.size) (n - k) (cap - k) (.slice (some a) m c) m news hsrc (by omega) (by rw [hkn];exact hcell) (by rw [hkn];exact hfro)
    rw [hkn] at hr2
    rw [Uc] at hr1
    have hw:=hr0.symm.trans hr1
    injection hw with hw1 hw2
    rw [← hw2] at hr2
    refine ⟨_,_,hr2,⟨rfl,rfl,rfl,by simp,fun j _ hj=>setRow_other w g j _ (fun e=>hj (by rw [e]))⟩,.inl ⟨rfl,hroom,hlen,.inr ⟨g,cap,_,rfl,hbg,setRow_heap w g cur _ e _ hg,hroom,hcm,?_,?_⟩⟩⟩
    · simp only [Vc,TG,Ue,Ug,Array.length_toList]
      omega
    · rw [htake,← hlen]
      exact V1
  · have hol:(xs.drop (k*i.size)).length=(n - k)*i.size:=by rw [Ug,hxl,← Nat.sub_mul]
    have hold:(Builtin.firstCells i.size (n - k) (.slice (some ⟨g,off,none⟩) (n - k) (cap - k))).run P w.drew= .ok (xs.drop (k*i.size)).toArray w.drew:=by
      by_cases hkn:n=k
      · subst hkn
        have e0:xs.drop (n*i.size)= []:=US (by rw [hol];simp)
        rw [e0]
        exact run_firstCells_some w.drew i.size (n - n) ⟨g,off,none⟩ (n - n) (cap - n) [] (by simp) (fun j u hu=>by simp at hu)
      · have hoff' :=hoff (by omega)
        subst hoff'
        refine run_firstCells_some w.drew i.size (n - k) ⟨g,k*i.size,none⟩ (n - k) (cap - k) _ hol fun j u hu=> ?_
        have hcc:w.cell? ((⟨g,0,none⟩:Addr).add (k*i.size+j))=some u:=by
          have hu' :xs[k*i.size+j]? =some u:=by rw [← UR];exact hu
          exact World.ownsRow.cells (w:=w) (base:=base) (e:=e) (size:=i.size) (v:= .slice (some ⟨g,0,none⟩) n cap) (n:=n) (xs:=xs) ⟨hxl,.inr ⟨g,cap,cur,rfl,hbg,hg,hnc,hcm,hcs,htake⟩⟩ (g:=g) rfl _ _ hu'
        rw [eE] at hcc ⊢
        simpa using hcc
    have hfits:Builtin.nextslicecap (n - k+m) (cap - k)*i.bytes≤281474976710656:=growslice_fits (by omega) (Uo (VR _ (by omega)) hbytes)
    have hr:=run_append_grow_src (P:=P) w t t ty e i z ht hi hz (some ⟨g,off,none⟩) (n - k) (cap - k) (xs.drop (k*i.size)) hold (.slice (some a) m c) m news hsrc (by omega) (by simp only [maxLen] at h63;omega) hfits
    have hge:=grownCap_ge w (n - k+m) (cap - k) e
    have hcm2:grownCap w (n - k+m) (cap - k) e≤maxLen:=grownCap_le_maxLen w (n - k+m) (cap - k) e (by omega)
    have hlen2:(xs.drop (k*i.size)++news).length=(n - k+m)*i.size:=by rw [TG,hol,hl,Vt]
    refine ⟨_,_,hr,⟨rfl,rfl,rfl,by simp,fun k hk _=>heap_alloc_old w.drew _ hk⟩,.inr ⟨_,rfl,hlen2,.inr ⟨w.heap.size,_,_,rfl,hbase,heap_alloc_new w.drew _,hge,hcm2,?_,?_⟩⟩⟩
    · simp only [WF,Vc,size_zeroCells,hzs,hlen2,← Vt]
      congr 1
      omega
    · simp only [Array.toList_append,TY]
      rw [← TY,← hlen2]
      exact V1
section
variable {P:Program} {n:Fr} {w0:World} {Q:ck} {s:aB} {H:List Blk} {rest:List Oper} {ty:TypeId} {p:String} {af:Array Edge}
theorem wT {d t e n' c k off g g2 sz by_:Nat} {x y:Operand} {xs news:List Value} {R:List Blk} {ops:Array Oper} [ht:Und P t (.slice e)] [he:Elem P e sz by_] (hn:Nat.blt d n.sz=true)
  (hx:ev s x=some (.slice (some ⟨g,off,none⟩) (n' - k) (c - k))) (hk:k≤n') (hoff:k<c→off=k*sz) (hy:ev s y=some (.slice (some ⟨g2,0,none⟩) 1 1)) (hsel:Sel (.own (some g) e sz n' c xs) H R)
  (hi:In (.own (some g2) e sz 1 1 news) H) (hl:news.length=sz) (h1: ∀ u∈news,u.oneCell' =true) (hby:(n' +1)*by_≤140737488355328) (h63:n' +1≤maxLen)
  (K: ∀ g' off' k' n2 c2 ys,k' ≤n2→(k' <c2→off' =k' *sz)→n2 - k' =n' - k+1→n2≤n' +1→ys.drop (k' *sz)=xs.drop (k*sz)++news→WL P n w0 ops rest Q ((d,.slice (some ⟨g',off',none⟩) (n2 - k') (c2 - k'))::s) (.own (some g') e sz n2 c2 ys::R)):
  WL P n w0 ops (⟨some d,.call { callee:= .builtin .append,args:= #[x,y],argTypes:= #[t,t] },ty,p,af,none⟩::rest) Q s H:=by
 intro a w hs hm
 have hm' :=hm.sel hsel
 obtain ⟨i,z,i1,i2,i3,i4,i5,i6⟩:=he.out
 have hb:=(hm'.on _ TI)
 have hown:w.ownsRow w0.heap.size e sz (.slice (some ⟨g,0,none⟩) n' c) n' xs:=by
  obtain ⟨⟨b1,b2,b3,b4⟩,b5⟩:=hb
  refine ⟨b1,?_⟩
  obtain ⟨junk,j1,j2⟩:=b4
  refine .inr ⟨g,c,_,rfl,b5 g rfl,j2,b2,b3,by simpa using j1,?_⟩
  simp only [V6]
  rw [← b1,V1]
 have hxl:=hown.1
 obtain ⟨v',w',hr,hgr,hcase⟩:=xC (P:=P) w w0.heap.size t ty e i z sz by_ ht.out i1 i4 i2 i3 i5 i6 g n' c k off hk hoff xs hown ⟨g2,0,none⟩ 1 1 news (by omega)
  (fun j u hu=>by rw [eE];exact hm.cells_own hi j u hu) h1 (by omega) h63 hby hm.below.size
 have key: ∀ (G' N2 C2:Nat) (ys:List Value),w'.ownsRow w0.heap.size e sz (.slice (some ⟨G',0,none⟩) N2 C2) N2 ys→(Blk.own (some G') e sz N2 C2 ys).on w' :=by
  intro G' N2 C2 ys ho
  obtain ⟨q1,q2⟩:=ho
  rcases q2 with ⟨h0,_⟩|⟨g3,cap3,cur,hv,_,q4,q5,q6,q7,q8⟩
  ·
   cases h0
  ·
   injection hv with e1 e2 e3
   injection e1 with e1
   injection e1 with e1
   subst e1;subst e3
   refine ⟨q1,q5,q6,cur.toList.drop (N2*sz),?_,?_⟩
   ·
    rw [← q8,UF];simpa using q7
   ·
    rw [← q8,UF];simpa using q4
 refine wpList_plain rfl fun K' hK' => ?_
 unfold Oper.wp execOp
 simp only [resolve,invoke,builtin,Sem.run_bind,Sem.run_pure,Result.andThen_ok,Vs,Ud,UQ,hs.eval x _ hx,hs.eval y _ hy,hr,Oper.upon]
 rcases hcase with ⟨rfl,hroom,ho⟩|⟨cap',rfl,ho⟩
 ·
  have e1:n' - k+1=n' +1 - k:=by omega
  rw [e1] at*
  refine hK' _ _ (K g off k (n' +1) c (xs++news) (by omega) hoff (by omega) (TQ _) ?_ _ _ (hs.put (UI ▸ hn) _) (hm'.upd hgr (key _ _ _ _ ho) fun j hj=> .inl hj))
  exact List.drop_append_of_le_length (by rw [hxl];exact VR _ hk)
 ·
  refine hK' _ _ (K w.heap.size 0 0 (n' - k+1) cap' (xs.drop (k*sz)++news) (TW _) (fun _=>by simp) (by omega) (by omega) (by simp) _ _ (hs.put (UI ▸ hn) _) (hm'.upd hgr (key _ _ _ _ (by simpa using ho)) fun j hj=> ?_))
  right
  simp only [Blk.key] at hj
  injection hj with hj
  omega
end
theorem y4 (z:Array Value) (n:Nat) (u:Value) (h:u∈(Builtin.zeroCells z n).toList):u∈z.toList:=by
 rw [Array.mem_toList_iff,Builtin.zeroCells,Array.mem_map] at h
 obtain ⟨i,hi,rfl⟩:=h
 rw [Array.mem_range] at hi
 have hz:0<z.size:=by
  rcases VD z.size with h|h
  ·
   rw [h] at hi;simp at hi
  ·
   exact h
 have hl:i % z.size<z.size:=WU _ hz
 rw [getElem!_pos z (i % z.size) hl,Array.mem_toList_iff]
 exact Array.getElem_mem hl
theorem Di {P:Program} {n:Fr} {w0:World} {Q:ck} {s:aB} {H:List Blk} {rest:List Oper} {ty:TypeId} {p:String} {af:Array Edge} {t e k n' c cx g sz:Nat} {x:Operand} {xs:List Value} {R:List Blk} {ops:Array Oper} {z:Value} [ht:Und P t (.slice e)] [hz:Zero P e z]
  (hx:ev s x=some (.slice (some ⟨g,k*sz,none⟩) (n' - k) cx)) (hk:k<n') (hsel:Sel (.own (some g) e sz n' c xs) H R) (hz1: ∀ u∈z.cells.toList,u.oneCell' =true) (hzs:z.cells.size=sz)
  (K:WL P n w0 ops rest Q s (.own (some g) e sz k c (xs.take (k*sz))::R)):
  WL P n w0 ops (⟨none,.call { callee:= .builtin .clear,args:= #[x],argTypes:= #[t] },ty,p,af,none⟩::rest) Q s H:=by
 intro a w hs hm
 have hm' :=hm.sel hsel
 obtain ⟨i,i1,i2⟩:=hz.out
 obtain ⟨b1,b2,b3,junk,b4,b5⟩:=(hm'.on _ TI).1
 have hzl:(Builtin.zeroCells z.cells (n' - k)).toList.length=(n' - k)*sz:=by rw [Array.length_toList,size_zeroCells,hzs]
 have hkn:k*sz+(n' - k)*sz=n' *sz:=by rw [← Vt];congr 1;omega
 have hst:=run_storeCells_at (P:=P) g (k*sz) e (Builtin.zeroCells z.cells (n' - k)).toList 0 _ w b5 (by simp only [Vc,TG,hzl];omega) (fun u hu=>hz1 u (y4 _ _ _ hu))
 simp only [Vi,hzl,hkn] at hst
 have hn0: ¬ n' - k=0:=by omega
 obtain ⟨m,hm2⟩: ∃ m,n' - k=m+1:=⟨n' - k - 1,by omega⟩
 have hrun:(Builtin.clear_ #[t] ty #[.slice (some ⟨g,k*sz,none⟩) (n' - k) cx]).run P w= .ok (.tuple #[]) (w.setRow g ((xs++junk).take (k*sz)++(Builtin.zeroCells z.cells (n' - k)).toList++(xs++junk).drop (n' *sz)).toArray):=by
  rw [hm2] at hst ⊢
  simp [Builtin.clear_,run_underlying ht.out,zeroValue,typeInfo,i1,i2,hst]
 refine wpList_plain rfl fun K' hK=> ?_
 unfold Oper.wp execOp
 simp only [resolve,invoke,builtin,Sem.run_bind,Sem.run_pure,Result.andThen_ok,Vs,Ud,UQ,hs.eval x _ hx,hrun,Oper.upon]
 refine hK _ _ (K _ _ (hs.put_none _) (hm'.upd (iL _ _ _) (b' := .own (some g) e sz k c (xs.take (k*sz))) ⟨?_,by omega,b3,(Builtin.zeroCells z.cells (n' - k)).toList++(xs++junk).drop (n' *sz),?_,?_⟩ fun k hk=> .inl hk))
 ·
  rw [Ue,b1];omega
 ·
  have hle:n' *sz≤c*sz:=VR _ b2
  simp only [TG,Ue,Ug,hzl]
  rw [TG] at b4
  omega
 ·
  rw [VE (by omega)]
  rw [← TY]
  exact setRow_heap _ _ _ _ _ _ b5
abbrev vS (x:BitVec 64):Value:= .int .u64 (x.toNat:Int)
theorem wP (x:BitVec 64):IntKind.u64.wrap (x.toNat:Int)=x.toNat:=by
 rw [IntKind.wrap_u64];have:=x.isLt;omega
theorem kD (x:BitVec 64):BitVec.ofInt 64 (x.toNat:Int)=x:=by
 rw [BitVec.ofInt_natCast,BitVec.ofNat_toNat,BitVec.setWidth_eq]
theorem N9 (a b:BitVec 64):((a.toNat:Int)==b.toNat)=decide (a=b):=by
 by_cases h:a=b
 ·
  subst h;simp
 ·
  rw [decide_eq_false h,beq_eq_false_iff_ne];intro h2;exact h (VW (by omega))
section
variable {P:Program} {n:Fr} {w0:World} {Q:ck} {s:aB} {H:List Blk} {l rest:List Oper} {ty:TypeId} {p:String} {af:Array Edge}
theorem ng {x y:Operand} {a b:BitVec 64} {t t' :TypeId} (hx:ev s x=some (vS a)) (hy:ev s y=some (vS b)):
  VOp P w0 s H (.binOp .and t x y t') ty (vS (a &&& b)):=by
 have h:Go.bits .and .u64 (a.toNat:Int) b.toNat=((a &&& b).toNat:Int):=by
  show IntKind.u64.wrap ((BitVec.ofInt 64 (a.toNat:Int) &&& BitVec.ofInt 64 (b.toNat:Int)).toNat:Int)=_
  rw [kD,kD,wP]
 unfold vS at hx hy ⊢
 rw [← h]
 clear h
 generalize (a.toNat:Int)=z at hx ⊢
 generalize (b.toNat:Int)=z2 at hy ⊢
 exact fun ρ w _ _ _ _ hρ _=>by simp [execOp,hρ x _ hx,hρ y _ hy,eqGuard,binOp,intBits_and]
theorem RB {x y:Operand} {k:IntKind} {a b:Int} {t t' :TypeId} (hx:ev s x=some (.int k a)) (hy:ev s y=some (.int k b)):
  VOp P w0 s H (.binOp .and t x y t') ty (.int k (Go.bits .and k a b)):=fun ρ w _ _ _ _ hρ _=>by
 simp [execOp,hρ x _ hx,hρ y _ hy,eqGuard,binOp,intBits_and]
theorem Kb {x y:Operand} {k:IntKind} {a b c:Int} {t t' :TypeId} (hx:ev s x=some (.int k a)) (hy:ev s y=some (.int k b)) (h:k.wrap (a - b)=c):
  VOp P w0 s H (.binOp .sub t x y t') ty (.int k c):=fun ρ w _ _ _ _ hρ _=>by
 subst h
 simp [execOp,hρ x _ hx,hρ y _ hy,eqGuard,binOp,Op.intArith]
theorem rf {x y:Operand} {a b:BitVec 64} {t t' :TypeId} (hx:ev s x=some (vS a)) (hy:ev s y=some (vS b)):
  VOp P w0 s H (.binOp .or t x y t') ty (vS (a|||b)):=by
 have h:Go.bits .or .u64 (a.toNat:Int) b.toNat=((a|||b).toNat:Int):=by
  show IntKind.u64.wrap ((BitVec.ofInt 64 (a.toNat:Int)|||BitVec.ofInt 64 (b.toNat:Int)).toNat:Int)=_
  rw [kD,kD,wP]
 unfold vS at hx hy ⊢
 rw [← h]
 clear h
 generalize (a.toNat:Int)=z at hx ⊢
 generalize (b.toNat:Int)=z2 at hy ⊢
 exact fun ρ w _ _ _ _ hρ _=>by simp [execOp,hρ x _ hx,hρ y _ hy,eqGuard,binOp,intBits_or]
theorem m9 {x y:Operand} {a b:BitVec 64} {t t' :TypeId} (hx:ev s x=some (vS a)) (hy:ev s y=some (vS b)):
  VOp P w0 s H (.binOp .andNot t x y t') ty (vS (a &&& ~~~b)):=by
 have h:Go.bits .andNot .u64 (a.toNat:Int) b.toNat=((a &&& ~~~b).toNat:Int):=by
  show IntKind.u64.wrap ((BitVec.ofInt 64 (a.toNat:Int) &&& ~~~BitVec.ofInt 64 (b.toNat:Int)).toNat:Int)=_
  rw [kD,kD,wP]
 unfold vS at hx hy ⊢
 rw [← h]
 clear h
 generalize (a.toNat:Int)=z at hx ⊢
 generalize (b.toNat:Int)=z2 at hy ⊢
 exact fun ρ w _ _ _ _ hρ _=>by simp [execOp,hρ x _ hx,hρ y _ hy,eqGuard,binOp,intBits_andNot]
theorem m7 {x y:Operand} {k' :IntKind} {a:BitVec 64} {m:Nat} {t t' :TypeId} (hx:ev s x=some (vS a)) (hy:ev s y=some (.int k' (m:Nat))) (hm:m≤64):
  VOp P w0 s H (.binOp .shr t x y t') ty (vS (a>>>m)):=by
 have h:=I9 (P:=P) (w0:=w0) (H:=H) (ty:=ty) (t:=t) (t' :=t') hx hy (by simpa [IntKind.bits] using hm)
 have e:((a.toNat:Int) / 2 ^ m)=((a>>>m).toNat:Int):=by
  rw [BitVec.toNat_ushiftRight,Nat.shiftRight_eq_div_pow];norm_cast
 rwa [e] at h
theorem Jb {x y:Operand} {k' :IntKind} {a:BitVec 64} {m:Nat} {t t' :TypeId} (hx:ev s x=some (vS a)) (hy:ev s y=some (.int k' (m:Nat))) (hm:m≤64):
  VOp P w0 s H (.binOp .shl t x y t') ty (vS (a<<<m)):=by
 have e:IntKind.u64.wrap ((a.toNat:Int)*2 ^ m)=((a<<<m).toNat:Int):=by
  rw [BitVec.toNat_shiftLeft,Nat.shiftLeft_eq,IntKind.wrap_u64]
  generalize a.toNat=u
  have h64:(2:Nat) ^ 64=18446744073709551616:=by decide
  rw [h64,Int.natCast_emod,Int.natCast_mul,Int.natCast_pow];rfl
 unfold vS at hx ⊢
 rw [← e]
 clear e
 generalize (a.toNat:Int)=z at hx ⊢
 have h0:(0:Int)≤(m:Int):=by omega
 have hb:min m IntKind.u64.bits=m:=Vn hm
 exact fun ρ w _ _ _ _ hρ _=>by simp [execOp,hρ x _ hx,hρ y _ hy,eqGuard,binOp,shift_shl_any .u64 k' z m h0,hb]
theorem O4 {x y:Operand} {a b:BitVec 64} {t t' :TypeId} (hx:ev s x=some (vS a)) (hy:ev s y=some (vS b)):
  VOp P w0 s H (.binOp .sub t x y t') ty (vS (a - b)):=by
 have e:IntKind.u64.wrap ((a.toNat:Int) - b.toNat)=((a - b).toNat:Int):=by
  rw [BitVec.toNat_sub,IntKind.wrap_u64]
  have h1:=a.isLt
  have h2:=b.isLt
  omega
 unfold vS at hx hy ⊢
 rw [← e]
 clear e
 generalize (a.toNat:Int)=z at hx ⊢
 generalize (b.toNat:Int)=z2 at hy ⊢
 exact fun ρ w _ _ _ _ hρ _=>by simp [execOp,hρ x _ hx,hρ y _ hy,eqGuard,binOp,Op.intArith]
theorem p9 {x y:Operand} {a b:BitVec 64} {t t' :TypeId} (hx:ev s x=some (vS a)) (hy:ev s y=some (vS b)):
  VOp P w0 s H (.binOp .eql t x y t') ty (.bool (decide (a=b))):=fun ρ w _ _ _ _ hρ _=>by
 have e:=N9 a b
 simp [execOp,hρ x _ hx,hρ y _ hy,eqGuard,binOp,Op.intCmp,e,vS]
theorem BG {x y:Operand} {a b:BitVec 64} {t t' :TypeId} (hx:ev s x=some (vS a)) (hy:ev s y=some (vS b)):
  VOp P w0 s H (.binOp .neq t x y t') ty (.bool (!decide (a=b))):=fun ρ w _ _ _ _ hρ _=>by
 have e:=N9 a b
 have e2:((a.toNat:Int)=b.toNat)↔a=b:=⟨fun h=>VW (by omega),fun h=>by rw [h]⟩
 simp [execOp,hρ x _ hx,hρ y _ hy,eqGuard,binOp,Op.intCmp,vS,bne,BEq.beq,e2]
end
def CW (n:Nat):BitVec 64:=(1#64<<<n) - 1#64
def v8 (x:BitVec 64) (u:Int):Bool:=decide (0≤u) && decide (u<64) && x.getLsbD u.toNat
theorem BO (x:BitVec 64) (m:Nat):decide ((x>>>m) &&& 1#64=1#64)=x.getLsbD m:=by
 have h:(x>>>m) &&& 1#64=if x.getLsbD m then 1#64 else 0#64:=by
  apply VT
  intro i hi
  rw [VO,BitVec.getLsbD_ushiftRight]
  rcases i with _|i
  ·
   cases hx:x.getLsbD m<;>simp [hx]
  ·
   cases hx:x.getLsbD m<;>simp [BitVec.getLsbD_one]
 rw [h]
 cases x.getLsbD m<;>decide
def gL (x:Int):Value:= .int .i64 x
theorem zO {P:Program} {w0:World} {s:aB} {H:List Blk} {ty t t' :TypeId} {x y:Operand} {a b:Int} {c:Bool} (h:decide (a=b)=c) (hx:ev s x=some (gL a)) (hy:ev s y=some (gL b)):
  VOp P w0 s H (.binOp .eql t x y t') ty (.bool c):=fun ρ w _ _ _ _ hρ _=>by
 subst h
 have e:(a==b)=decide (a=b):=by rw [Uy];simp
 simp [execOp,hρ x _ hx,hρ y _ hy,eqGuard,binOp,Op.intCmp,gL,e]
theorem zM {P:Program} {w0:World} {s:aB} {H:List Blk} {ty t t' :TypeId} {x y:Operand} {a b:Int} {c:Bool} (h:decide (a=b)=c) (hx:ev s x=some (gL a)) (hy:ev s y=some (gL b)):
  VOp P w0 s H (.binOp .neq t x y t') ty (.bool (!c)):=fun ρ w _ _ _ _ hρ _=>by
 subst h
 simp [execOp,hρ x _ hx,hρ y _ hy,eqGuard,binOp,Op.intCmp,gL,bne,BEq.beq]
end Go.SL
namespace Go.SL
open Go
structure Rl where
 rect:Rct
 read:BitVec 64
 write:BitVec 64
 own:BitVec 64
def bM (r:Rl):List Value:= [.int .i64 r.rect.c1,.int .i64 r.rect.r1,.int .i64 r.rect.c2,.int .i64 r.rect.r2,vS r.read,vS r.write,vS r.own]
theorem dz (r:Rl):(bM r).length=7:=rfl
structure Gn where
 rect:Rct
 fns:Int
 to:BitVec 64
 by_:Int
 rev:Bool
def bp (g:Gn):List Value:= [.int .i64 g.rect.c1,.int .i64 g.rect.r1,.int .i64 g.rect.c2,.int .i64 g.rect.r2,.int .u8 g.fns,vS g.to,.int .i64 g.by_,.bool g.rev]
theorem mT (g:Gn):(bp g).length=8:=rfl
def K9 (x:Int):List Int→List Int
 | []=> [x]
 |y::l=>if x≤y then x::y::l else y::K9 x l
def wG (l:List Int):List Int:=l.foldr K9 []
def jX (l:List Int):List Int:=l.mergeSort fun x y=>decide (x≤y)
theorem uq (x:Int): ∀ l:List Int,(K9 x l).Perm (x::l)
 | []=> .refl _
 |y::l=>by
  rw [K9];split
  ·
   exact .refl _
  ·
   exact ((uq x l).cons y).trans (.swap x y l)
theorem vD (x:Int): ∀ {l:List Int},l.Pairwise (· ≤ ·)→(K9 x l).Pairwise (· ≤ ·)
 | [],_=>U4 _ _
 |y::l,h=>by
  have h1:=Un.1 h
  rw [K9];split
  ·
   rename_i hxy
   refine Un.2 ⟨fun z hz=> ?_,h⟩
   rcases TS.1 hz with rfl|hz
   ·
    exact hxy
   ·
    exact Int.le_trans hxy (h1.1 z hz)
  ·
   refine Un.2 ⟨fun z hz=> ?_,vD x h1.2⟩
   rcases TS.1 ((uq x l).mem_iff.1 hz) with rfl|hz
   ·
    omega
   ·
    exact h1.1 z hz
theorem tq: ∀ l:List Int,(wG l).Perm l
 | []=> .refl _
 |x::l=>(uq x _).trans ((tq l).cons x)
theorem pG: ∀ l:List Int,(wG l).Pairwise (· ≤ ·)
 | []=> .nil
 |x::l=>vD x (pG l)
theorem ji (l:List Int):(jX l).Perm l:=V7 _ _
theorem sr (l:List Int):(jX l).Pairwise (· ≤ ·):=by
 have h:=WJ (le:=fun x y:Int=>decide (x≤y)) (fun a b c h1 h2=>by simp only [decide_eq_true_eq] at*;omega) (fun a b=>by simp only [Vo,decide_eq_true_eq];omega) l
 exact h.imp fun h=>by simpa using h
theorem qG: ∀ {l m:List Int},l.Pairwise (· ≤ ·)→m.Pairwise (· ≤ ·)→l.Perm m→l=m
 | [],m,_,_,h=>(List.nil_perm.1 h).symm
 |a::l,[],_,_,h=>absurd h.length_eq (by simp)
 |a::l,b::m,h1,h2,h=>by
  have k1:=Un.1 h1
  have k2:=Un.1 h2
  have hab:a=b:=by
   have ha:a∈b::m:=h.mem_iff.1 TI
   have hb:b∈a::l:=h.mem_iff.2 TI
   rcases TS.1 ha with e|ha
   ·
    exact e
   ·
    rcases TS.1 hb with e|hb
    ·
     exact e.symm
    ·
     have:=k2.1 a ha
     have:=k1.1 b hb
     omega
  subst hab
  rw [qG k1.2 k2.2 ((List.perm_cons a).1 h)]
theorem MI (l:List Int):jX l=wG l:=qG (sr l) (pG l) ((ji l).trans (tq l).symm)
def gZ:List Int→List Int
 | []=> []
 |a::l=>if l.head? =some a then gZ l else a::gZ l
theorem Bg (x:Int): ∀ l:List Int,gZ (l++ [x])=if l.getLast? =some x then gZ l else gZ l++ [x]
 | []=>by simp [gZ]
 | [a]=>by
  by_cases h:x=a
  ·
   subst h;simp [gZ]
  ·
   have h2: ¬ a=x:=fun e=>h e.symm
   simp [gZ,h,h2]
 |a::b::l=>by
  have ih:=Bg x (b::l)
  have h0: ∀ l,gZ (a::l)=if l.head? =some a then gZ l else a::gZ l:=fun _=>rfl
  have hh:(b::l++ [x]).head? =(b::l).head? :=rfl
  rw [List.getLast?_cons_cons,TK,h0,h0,hh,ih]
  by_cases h1:(b::l).head? =some a
  ·
   simp only [h1,if_true]
  ·
   simp only [h1,if_false];split<;>rfl
theorem Bf {L:List Int} {j:Nat} (h:j<L.length) (h0:0<j):gZ (L.take (j+1))=if L[j]=L[j - 1] then gZ (L.take j) else gZ (L.take j)++ [L[j]]:=by
 have h1:L.take (j+1)=L.take j++ [L[j]]:=by rw [TP h]
 have h2:(L.take j).getLast? =some L[j - 1]:=by
  rw [Ve,Ue,Vn (by omega),Vj (by omega),TJ (by omega)]
 rw [h1,Bg,h2]
 simp only [Option.some.injEq,eq_comm]
theorem FH {L:List Int} (h:L.length≤1):gZ L=L:=by
 match L,h with
 | [],_=>rfl
 | [a],_=>rfl
theorem pg {x:Int}: ∀ {l:List Int},x∈gZ l↔x∈l
 | []=>Iff.rfl
 |a::l=>by
  rw [gZ]
  split
  ·
   rename_i h
   rw [pg (l:=l),TS]
   exact ⟨.inr,fun h2=>h2.elim (fun e=>by subst e;exact List.mem_of_mem_head? h) id⟩
  ·
   rw [TS,TS,pg (l:=l)]
theorem yP: ∀ l:List Int,(gZ l).length≤l.length
 | []=>TQ _
 |a::l=>by
  have:=yP l
  rw [gZ]
  split<;>simp only [TZ]<;>omega
theorem vM: ∀ {l:List Int},l.Pairwise (· ≤ ·)→(gZ l).Pairwise (· < ·)
 | [],_=> .nil
 |a::l,h=>by
  have h1:=Un.1 h
  have ih:=vM h1.2
  rw [gZ]
  split
  ·
   exact ih
  ·
   rename_i hh
   refine Un.2 ⟨fun y hy=> ?_,ih⟩
   have hyl:=pg.1 hy
   have h2:=h1.1 y hyl
   by_cases e:a=y
   ·
    subst e
    cases l with
    |nil=>cases hyl
    |cons b l=>
     have h3:=h1.1 b TI
     have h4:=Un.1 h1.2
     rcases TS.1 hyl with e|hm
     ·
      subst e;exact absurd rfl hh
     ·
      have h5:=h4.1 a hm
      have h6:b=a:=by omega
      subst h6;exact absurd rfl hh
   ·
    omega
def eL:List Int→Int→List (Int × Int)
 | [],_=> []
 | [x],h=> [(x,h)]
 |x::y::l,h=>(x,y - 1)::eL (y::l) h
theorem lG (x h:Int): ∀ l:List Int,eL (l++ [x]) h=eL l (x - 1)++ [(x,h)]
 | []=>rfl
 | [a]=>rfl
 |a::b::l=>by
  have ih:=lG x h (b::l)
  show (a,b - 1)::eL (b::l++ [x]) h=_
  rw [ih];rfl
theorem nF (h:Int): ∀ l:List Int,(eL l h).length=l.length
 | []=>rfl
 | [a]=>rfl
 |a::b::l=>by
  have ih:=nF h (b::l)
  show (eL (b::l) h).length+1=_
  rw [ih];rfl
theorem EH (l:List Int) (h h' :Int) (hl:l≠ []): ∃ f a,eL l h=f++ [(a,h)]∧eL l h' =f++ [(a,h')]:=by
 have e:=Vm hl
 refine ⟨eL l.dropLast (l.getLast hl - 1),l.getLast hl,?_,?_⟩
 ·
  conv=>lhs;rw [← e]
  rw [lG]
 ·
  conv=>lhs;rw [← e]
  rw [lG]
def dJ (lo:Int) (ps:List (Int × Int)):List Int:=lo::ps.flatMap fun p=> [p.1,p.2+1]
def yN (lo hi:Int) (ps:List (Int × Int)):List Int:=(gZ (jX (dJ lo ps))).filter fun x=>decide (lo≤x) && decide (x≤hi)
def cX (lo hi:Int) (ps:List (Int × Int)):List (Int × Int):=eL (yN lo hi ps) hi
theorem iF {lo hi x:Int} {ps:List (Int × Int)}:x∈yN lo hi ps↔(x=lo∨ ∃ p∈ps,x=p.1∨x=p.2+1)∧lo≤x∧x≤hi:=by
 rw [yN,Vb,pg,(ji _).mem_iff,dJ,TS,UM]
 simp
theorem nY (lo hi:Int) (ps:List (Int × Int)):(yN lo hi ps).Pairwise (· < ·):=(vM (sr _)).filter _
theorem vN (lo:Int) (ps:List (Int × Int)):(dJ lo ps).length=1+2*ps.length:=by
 unfold dJ
 induction ps with
 |nil=>rfl
 |cons p ps ih=>simp only [T9,TZ,TG,U2] at ih ⊢;omega
theorem jw (lo hi:Int) (ps:List (Int × Int)):(cX lo hi ps).length≤1+2*ps.length:=by
 rw [cX,nF,yN]
 refine Uo (VC _ _) (Uo (yP _) ?_)
 rw [(ji _).length_eq,vN];exact TQ _
theorem qe: ∀ {l:List Int} {h:Int},l.Pairwise (· < ·)→(∀ x∈l,x≤h)→ ∀ {p:Int × Int},p∈eL l h→p.1∈l∧p.1≤p.2∧p.2≤h∧ ∀ x∈l,¬ (p.1<x∧x≤p.2)
 | [],h,_,_,p,hp=>by cases hp
 | [a],h,_,hx,p,hp=>by
  rw [TX.1 hp]
  have:=hx a (by simp)
  exact ⟨by simp,this,Vw _,fun x hx=>by rw [TX.1 hx];simp only;omega⟩
 |a::b::l,h,hs,hx,p,hp=>by
  have h1:=Un.1 hs
  have hab:=h1.1 b TI
  rcases TS.1 hp with rfl|hp
  ·
   refine ⟨TI,by simp only;omega,by have:=hx b (by simp);simp only;omega,fun x hm=> ?_⟩
   simp only
   rcases TS.1 hm with rfl|hm
   ·
    omega
   ·
    rcases TS.1 hm with rfl|hm
    ·
     omega
    ·
     have:=(Un.1 h1.2).1 x hm;omega
  ·
   obtain ⟨k1,k2,k3,k4⟩:=qe h1.2 (fun x hm=>hx x (TM _ hm)) hp
   refine ⟨TM _ k1,k2,k3,fun x hm=> ?_⟩
   rcases TS.1 hm with rfl|hm
   ·
    have:=h1.1 p.1 k1;omega
   ·
    exact k4 x hm
theorem sY: ∀ {l:List Int} {h:Int},l.Pairwise (· < ·)→(∀ x∈l,x≤h)→(eL l h).Pairwise fun p q=>p.2<q.1
 | [],_,_,_=> .nil
 | [a],_,_,_=>U4 _ _
 |a::b::l,h,hs,hx=>by
  have h1:=Un.1 hs
  refine Un.2 ⟨fun q hq=> ?_,sY h1.2 fun x hm=>hx x (TM _ hm)⟩
  have hq1:=(qe h1.2 (fun x hm=>hx x (TM _ hm)) hq).1
  simp only
  rcases TS.1 hq1 with e|hm
  ·
   omega
  ·
   have:=(Un.1 h1.2).1 _ hm;omega
theorem fK {lo hi:Int} {ps:List (Int × Int)} {p:Int × Int} (hp:p∈cX lo hi ps):lo≤p.1∧p.1≤p.2∧p.2≤hi:=by
 obtain ⟨h1,h2,h3,_⟩:=qe (nY lo hi ps) (fun x hx=>(iF.1 hx).2.2) hp
 exact ⟨(iF.1 h1).2.1,h2,h3⟩
theorem tK (lo hi:Int) (ps:List (Int × Int)):(cX lo hi ps).Pairwise fun p q=>p.2<q.1:=sY (nY lo hi ps) fun x hx=>(iF.1 hx).2.2
structure Pz where
 rect:Rct
 a:Nat
 b:Nat
def dK (p:Pz):List Value:= [.int .i64 p.rect.c1,.int .i64 p.rect.r1,.int .i64 p.rect.c2,.int .i64 p.rect.r2,.int .i64 (p.a:Int),.int .i64 (p.b:Int)]
theorem dA (p:Pz):(dK p).length=6:=rfl
def kw (a b:Rct):Bool:=(dZ a b).2 && decide ((dZ a b).1=a)
def oD (r:Rct) (L:List Rl):Nat→Nat
 |0=>0
 |n+1=>if kw r ((L[n]?.map (·.rect)).getD aS)=true then n else oD r L n
def jd (r:Rct) (L:List Rl):Nat:=oD r L L.length
theorem zG (r:Rct) (L:List Rl): ∀ n,oD r L n≤n - 1
 |0=>TQ _
 |n+1=>by
  rw [oD];split
  ·
   exact TQ _
  ·
   have:=zG r L n;omega
def bg (r:Rct) (L:List Rl):List (Int × Int):=L.flatMap fun x=>if (dZ x.rect r).2=true then [((dZ x.rect r).1.c1,(dZ x.rect r).1.c2)] else []
def bf (r:Rct) (L:List Rl):List (Int × Int):=L.flatMap fun x=>if (dZ x.rect r).2=true then [((dZ x.rect r).1.r1,(dZ x.rect r).1.r2)] else []
def o6 (A B:List Rl) (y x:Int × Int):Pz:=⟨⟨x.1,y.1,x.2,y.2⟩,jd ⟨x.1,y.1,x.2,y.2⟩ A,jd ⟨x.1,y.1,x.2,y.2⟩ B⟩
def kY (l:List Pz) (p:Pz):List Pz:=match l.getLast? with
 |some q=>if q.a=p.a∧q.b=p.b then l.dropLast++ [⟨⟨q.rect.c1,q.rect.r1,p.rect.c2,q.rect.r2⟩,q.a,q.b⟩] else l++ [p]
 |none=> [p]
def kP (A B:List Rl) (y:Int × Int) (xs:List (Int × Int)):List Pz:=xs.foldl (fun l x=>kY l (o6 A B y x)) []
theorem mA {A B:List Rl} {y:Int × Int} {xs:List (Int × Int)} {x:Int × Int}:kP A B y (xs++ [x])=kY (kP A B y xs) (o6 A B y x):=by
 unfold kP;rw [U8];rfl
def eK (r:Rct) (A B:List Rl):List Pz:=(cX r.r1 r.r2 (bf r A++bf r B)).flatMap fun y=>kP A B y (cX r.c1 r.c2 (bg r A++bg r B))
def wq (l:List (BitVec 64)):BitVec 64:=l.foldl (· &&& ·) (BitVec.allOnes 64)
def lW (f:Rl→BitVec 64) (r:Rct) (L:List Rl):BitVec 64:=wq ((eK r L []).map fun p=>(L[p.a]?.map f).getD 0#64)
theorem LL {l:List (BitVec 64)} {x:BitVec 64}:wq (l++ [x])=wq l &&& x:=by unfold wq;rw [U8];rfl
end Go.SL
