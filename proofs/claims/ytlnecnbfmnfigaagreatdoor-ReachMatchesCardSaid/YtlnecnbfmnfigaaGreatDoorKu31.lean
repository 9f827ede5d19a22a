/-
  Lemmas and walks, put together: Sl29 Ra Pl Sl30 Rb Rd.
-/
import Derived.Deep.AppendSrc
import Derived.Test.YtlnecnbfmnfigaaGreatDoorKu30
set_option linter.unusedSimpArgs false
set_option linter.unusedVariables false
set_option maxRecDepth 20000
namespace Go.SL
open Go Go.RowKit
section
variable {P:Program} {ops:Array Oper} {es ps:List Nat} {C:World→Prop}
theorem tD {Q:Act→World→Prop} {i:Nat} {oi:Oper} (hi:ops[i]? =some oi) (hsel: ∀ (j:Nat) (o:Oper) cs b,ops[j]? =some o→o.op≠ .select cs b)
  (hnb: ∀ x∈es,∀ y,y∈es∨y∈ps→x≠y→(x=i∨y=i)→um ops x y):
  ∀ (f:Nat) (L:Array Bool) (a:Act) (w:World),ClosedL ops L→C w→
   (∀ j oj,ops[j]? =some oj→j≠i→L.getD j true=false→(∀ e∈oj.after,Region.binds .any e=true→e.on≠i)→oi.apart ops oj=true)→
   i∈Region.ready .any ops L→EOp P ops es ps C (AnyE P ops es ps C Q f (L.setIfInBounds i true)) i oi a w→AnyE P ops es ps C Q (f+1) L a w
 |0,L,a,w,hcl,hC,_,hr,hy=>⟨hC,fun h=>(by rw [h] at hr;cases hr),fun j hj=>by
   by_cases hji:j=i
   ·
    subst hji;exact ⟨oi,hi,hy⟩
   ·
    exfalso
    have hne:=ready_mono hj hji
    have hE: ∃ a' w',AnyE P ops es ps C Q 0 (L.setIfInBounds i true) a' w' :=by
     cases hy with
     |pass _ hk=>exact ⟨_,_,hk⟩
     |quiet _ _ _ _ _ hk=>exact ⟨_,_,hk⟩
     |eff _ _ hk=>obtain ⟨v,w',h⟩:=hk.ex;exact ⟨_,_,h⟩
    obtain ⟨a',w',_,h0,_⟩:=hE
    rw [h0] at hne
    cases hne⟩
 |f+1,L,a,w,hcl,hC,hfree,hr,hy=>⟨hC,fun h=>(by rw [h] at hr;cases hr),fun j hj=>by
   by_cases hji:j=i
   ·
    subst hji;exact ⟨oi,hi,hy⟩
   ·
    have hj' :=ready_mono hj hji
    obtain ⟨hjun,oj,hoj,hall⟩:=mem_ready.1 hj
    have hnot: ∀ e∈oj.after,Region.binds .any e=true→e.on≠i:=fun e he hb heq=>by
     have h1:=hall e he hb
     have h0:=(mem_ready.1 hr).1
     rw [heq] at h1
     rcases Qm i L.size with h' |h'
     ·
      simp [h'] at h0 h1;rw [h0] at h1;cases h1
     ·
      simp [Rp h'] at h1
    have hap:=hfree j oj hoj hji hjun hnot
    obtain ⟨h1,h2,h3⟩:=Oper.apart_spec hap
    have hsi:=fun cs b=>hsel i oi cs b hi
    have hsj:=fun cs b=>hsel j oj cs b hoj
    have hej: ∀ v,execOp (a.put oi.dst v).eval oj=execOp a.eval oj:=fun v=>execOp_put oj hsj a oi.dst v h1
    have hwj: ∀ v,Region.wanted oj (yielded ops (a.put oi.dst v).tmps)=Region.wanted oj (yielded ops a.tmps):=fun v=>wanted_put oj a oi.dst v h1
    have hcomm: ∀ v u,(a.put oi.dst v).put oj.dst u=(a.put oj.dst u).put oi.dst v:=fun v u=>Act.put_comm a v u h2
    have hset:(L.setIfInBounds i true).setIfInBounds j true=(L.setIfInBounds j true).setIfInBounds i true:=Sc _ _ (Ne.symm hji)
    have hfree' : ∀ k ok,ops[k]? =some ok→k≠i→(L.setIfInBounds j true).getD k true=false→
      (∀ e∈ok.after,Region.binds .any e=true→e.on≠i)→oi.apart ops ok=true:=fun k ok hk hki hun hno=>by
     refine hfree k ok hk hki ?_ hno
     by_cases hjk:j=k
     ·
      subst hjk;exact hjun
     ·
      rw [getD_set_ne true hjk] at hun;exact hun
    have ih:=tD (Q:=Q) hi hsel hnb f (L.setIfInBounds j true)
    have hcl' :=hcl.set hj
    have hr' :=ready_mono hr (Ne.symm hji)
    -- what comes of j behind an outcome of i
    have hJ: ∀ v w',AnyE P ops es ps C Q (f+1) (L.setIfInBounds i true) (a.put oi.dst v) w' →EOp P ops es ps C (AnyE P ops es ps C Q f ((L.setIfInBounds j true).setIfInBounds i true)) j oj (a.put oi.dst v) w' :=fun v w' h=>by
     obtain ⟨o,ho,hE⟩:=h.2.2 j hj'
     have e:o=oj:=Option.some.inj (ho.symm.trans hoj)
     subst e
     rw [hset] at hE
     exact hE
    refine ⟨oj,hoj,?_⟩
    have hstill:(∃ v,AnyE P ops es ps C Q (f+1) (L.setIfInBounds i true) (a.put oi.dst v) w∧ ∀ (u:Value) (w2:World) (K' :Act→World→Prop),C w2→(i∈ps→w2=w)→K' ((a.put oj.dst u).put oi.dst v) w2→EOp P ops es ps C K' i oi (a.put oj.dst u) w2)∨
      (Region.wanted oi (yielded ops a.tmps)=true∧i∈es∧NormUp P (fun v w' =>AnyE P ops es ps C Q (f+1) (L.setIfInBounds i true) (a.put oi.dst v) w') ((execOp a.eval oi).run P w)):=by
     cases hy with
     |pass hw hk=>exact .inl ⟨undef,hk,fun u w2 K' _ _ hk' => .pass ((wanted_put oi a oj.dst u h3).trans hw) hk'⟩
     |quiet hw hies v hrun hst hk=>
      refine .inl ⟨v,hk,fun u w2 K' hC2 hps hk' => ?_⟩
      have he:=execOp_put oi hsi a oj.dst u h3
      have hrun2:(execOp a.eval oi).run P w2= .ok (.value v) w2:=by
       rcases hst with h|h
       ·
        rw [hps h];exact hrun
       ·
        exact h w2 hC2
      exact .quiet ((wanted_put oi a oj.dst u h3).trans hw) hies v (by rw [he];exact hrun2) (by rw [he];exact hst) hk'
     |eff hw hies hk=>exact .inr ⟨hw,hies,hk⟩
    rcases hstill with ⟨v,hk,hS⟩|⟨hw,hies,hk⟩
    ·
     cases hJ v w hk with
     |pass hwj' hkj=>exact .pass ((hwj v).symm.trans hwj') (ih _ w hcl' hC hfree' hr' (hS undef w _ hC (fun _=>rfl) (by rw [← hcomm];exact hkj)))
     |quiet hwj' hjes u hrun hst hkj=>
      rw [hej] at hrun hst
      exact .quiet ((hwj v).symm.trans hwj') hjes u hrun hst (ih _ w hcl' hC hfree' hr' (hS u w _ hC (fun _=>rfl) (by rw [← hcomm];exact hkj)))
     |eff hwj' hjes hkj=>
      rw [hej] at hkj
      exact .eff ((hwj v).symm.trans hwj') hjes (hkj.mono fun u w2 hk2=>ih _ w2 hcl' hk2.inC hfree' hr' (hS u w2 _ hk2.inC (fun hps=>(hnb j hjes i (.inr hps) hji (.inr rfl) L hcl hj hr).elim) (by rw [← hcomm];exact hk2)))
    ·
     obtain ⟨v0,w1,h0⟩:=hk.ex
     cases hJ v0 w1 h0 with
     |pass hwj' hkj=>
      have hwa:=(hwj v0).symm.trans hwj'
      refine .pass hwa (ih _ w hcl' hC hfree' hr' (EOp.of_put hap hsi (.eff hw hies hk) fun v w' h=> ?_))
      cases hJ v w' h with
      |pass _ h' =>rw [← hcomm];exact h'
      |quiet hw2 _ _ _ _ _=>rw [hwj,hwa] at hw2;cases hw2
      |eff hw2 _ _=>rw [hwj,hwa] at hw2;cases hw2
     |quiet hwj' hjes u hrun hst hkj=>
      have hwa:=(hwj v0).symm.trans hwj'
      have hst2: ∀ w1,C w1→(execOp a.eval oj).run P w1= .ok (.value u) w1:=by
       rcases hst with h|h
       ·
        exact (hnb i hies j (.inr h) (Ne.symm hji) (.inl rfl) L hcl hr hj).elim
       ·
        rw [hej] at h;exact h
      refine .quiet hwa hjes u (hst2 w hC) (.inr hst2) (ih _ w hcl' hC hfree' hr' (EOp.of_put hap hsi (.eff hw hies hk) fun v w' h=> ?_))
      cases hJ v w' h with
      |pass hw2 _=>rw [hwj,hwa] at hw2;cases hw2
      |eff _ hjes2 _=>exact absurd hjes2 hjes
      |quiet _ _ u' hr2 hst' h' =>
       have hst3:(execOp a.eval oj).run P w= .ok (.value u') w:=by
        rcases hst' with h|h
        ·
         exact (hnb i hies j (.inr h) (Ne.symm hji) (.inl rfl) L hcl hr hj).elim
        ·
         have:=h w hC
         rw [hej] at this;exact this
       rw [hst2 w hC] at hst3
       injection hst3 with h4
       injection h4 with h4
       subst h4
       rw [← hcomm];exact h'
     |eff hwj' hjes hkj=>exact (hnb i hies j (.inl hjes) (Ne.symm hji) (.inl rfl) L hcl hr hj).elim⟩
end
section
variable {P:Program} {n:Fr} {w0:World} {Q:cd} {s:aB} {H S:List Blk} {l:List Oper} {ty:TypeId} {p:String} {af:Array Edge} {es:List Nat} {gu:Option (Nat × Bool)} {f:Nat} {L:Array Bool}
def WE (P:Program) (n:Fr) (w0:World) (l:List Oper) (S:List Blk) (es:List Nat) (Q:cd) (f:Nat) (L:Array Bool) (s:aB) (H:List Blk):Prop:=
 ∀ a w,St n s a→Mem w0 w H→Mem w0 w S→ClosedL l.toArray L→AnyE P l.toArray es [] (fun w=>Mem w0 w S) (post n w0 Q .normal) f L a w
theorem tV {id:Nat} (es:List Nat) (S:List Blk) (N:Nat) (hN:l.length=N) (hm:P.follows .mixedOrders=true) (hS:MSub S H)
  (h:WE P n w0 l S es Q N (Array.replicate N false) s H):W P n w0 (.region id l.toArray true) Q s H:=by
 intro a w hs hmem
 subst hN
 refine wp_region_any hm (f9 (es:=es) (ps:= []) (C:=fun w=>Mem w0 w S) (Q:=post n w0 Q .normal) (fun _ _ h=>h) _ _ _ _ ?_)
 have hcl:ClosedL l.toArray (Array.replicate l.length false):=fun i o _ hi=>by
  rw [PO,RF] at hi
  split at hi<;>cases hi
 have:=h a _ hs hmem.drew (hS.use hmem.drew) hcl
 simpa using this
theorem tT (hr:Region.ready .any l.toArray L= []) (h:Q .normal s H):WE P n w0 l S es Q f L s H:=by
 intro a w hs hm hS hcl
 cases f with
 |zero=>exact ⟨hS,hr,s,H,hs,hm,h⟩
 |succ f=>exact ⟨hS,fun _=>⟨s,H,hs,hm,h⟩,fun i hi=>by rw [hr] at hi;cases hi⟩
theorem ic {i:Nat} {op:Op} {d:Nat} {v:Value} (hi:l[i]? =some ⟨some d,op,ty,p,af,gu⟩) (hn:Nat.blt d n.sz=true) (hg:gok l s gu=some true) (hk:es.contains i=false) (hsel:Region.noSelect l.toArray=true)
  (hr:(Region.ready .any l.toArray L).contains i=true) (hf:Region.free .any l.toArray L i=true) (hv:VOp P w0 s S op ty v) (h:WE P n w0 l S es Q f (L.setIfInBounds i true) ((d,v)::s) H):WE P n w0 l S es Q (f+1) L s H:=by
 intro a w hs hm hS hcl
 have hi' :l.toArray[i]? =some ⟨some d,op,ty,p,af,gu⟩:=by simpa using hi
 have hr' :i∈Region.ready .any l.toArray L:=by simpa using hr
 have hk' :i∉es:=by simpa using hk
 refine tD hi' (Region.noSelect_spec hsel) (fun x hx y hy _ hxy=> ?_) f L a w hcl hS (Region.free_spec hi' hf) hr'
  (.quiet (dM rfl hg hs) hk' v (hv a.eval w (some d) p af gu hs.eval hS) (.inr fun w1 h1=>hv a.eval w1 (some d) p af gu hs.eval h1) (h _ _ (hs.put (PW ▸ hn) v) hm hS (hcl.set hr')))
 rcases hxy with rfl|rfl
 ·
  exact (hk' hx).elim
 ·
  rcases hy with hy|hy
  ·
   exact (hk' hy).elim
  ·
   cases hy
theorem zh {i:Nat} {op:Op} {dst:Option Tmp} (hi:l[i]? =some ⟨dst,op,ty,p,af,gu⟩) (hg:gok l s gu=some true) (hk:es.contains i=true) (hr:(Region.ready .any l.toArray L).contains i=true)
  (h:WL P n w0 #[] [⟨dst,op,ty,p,af,none⟩] (ceP S (WE P n w0 l S es Q f (L.setIfInBounds i true))) s H) (a:Act) (w:World) (hs:St n s a) (hm:Mem w0 w H) (hcl:ClosedL l.toArray L):
  EOp P l.toArray es [] (fun w=>Mem w0 w S) (AnyE P l.toArray es [] (fun w=>Mem w0 w S) (post n w0 Q .normal) f (L.setIfInBounds i true)) i ⟨dst,op,ty,p,af,gu⟩ a w:=by
 have hr' :i∈Region.ready .any l.toArray L:=by simpa using hr
 refine .eff (dM rfl hg hs) (by simpa using hk) ?_
 have h1:=h a w hs hm
 unfold wpList at h1
 simp only [Region.wanted,if_true] at h1
 replace h1:=h1.elim id fun ⟨_,a0,w1,s',H'',_,_,he,_⟩=>by cases he
 have hexec:execOp a.eval ⟨dst,op,ty,p,af,gu⟩=execOp a.eval ⟨dst,op,ty,p,af,none⟩:=rfl
 rw [hexec]
 have nxt: ∀ (a' :Act) (w' :World),wpList P #[] (post n w0 (ceP S (WE P n w0 l S es Q f (L.setIfInBounds i true)))) [] a' w' →AnyE P l.toArray es [] (fun w=>Mem w0 w S) (post n w0 Q .normal) f (L.setIfInBounds i true) a' w' :=by
  rintro a' w' ⟨s',H',hs',hm',_,hSub,hK⟩
  exact hK a' w' hs' hm' (hSub.use hm') (hcl.set hr')
 unfold Oper.wp at h1
 generalize (execOp a.eval ⟨dst,op,ty,p,af,none⟩).run P w=r at h1 ⊢
 cases r with
 |ok x w' =>
  cases x<;>simp only [Oper.upon] at h1<;>simp only [NormUp]
  case value u=>exact nxt _ _ h1
  case skip=>exact nxt _ _ h1
  case defer dd=>
   obtain ⟨s',H'',hs',_⟩:=h1
   have h2:=congrArg List.length (hs'.defers.trans hs.defers.symm)
   cases dst<;>simp [Act.put] at h2
  case enter f args=>
   refine h1.mono fun e w'' he=> ?_
   cases e with
   |returned v=>exact ⟨v,rfl,nxt _ _ he⟩
   |panicked c=>
    obtain ⟨s',H'',_,_,he',_⟩:=he
    cases he'
   |outgrown=>
    obtain ⟨a0,w1,s',H'',_,_,he',_⟩:=he
    cases he'
  case row f args=>exact Rows.mono h1 fun u w'' he=>nxt _ _ he
 |halt x w' =>
  cases x<;>simp only [Oper.upon] at h1
  all_goals
   obtain ⟨s',H'',_,_,he',_⟩:=h1
   cases he'
theorem fB {i:Nat} {op:Op} {dst:Option Tmp} (hi:l[i]? =some ⟨dst,op,ty,p,af,gu⟩) (hg:gok l s gu=some true) (hk:es.contains i=true) (hr:Region.ready .any l.toArray L= [i])
  (h:WL P n w0 #[] [⟨dst,op,ty,p,af,none⟩] (ceP S (WE P n w0 l S es Q f (L.setIfInBounds i true))) s H):WE P n w0 l S es Q (f+1) L s H:=by
 intro a w hs hm hS hcl
 refine ⟨hS,fun h0=>(by rw [hr] at h0;cases h0),fun j hj=> ?_⟩
 rw [hr] at hj
 have e:j=i:=by simpa using hj
 subst e
 exact ⟨_,by simpa using hi,zh hi hg hk (by rw [hr];simp) h a w hs hm hcl⟩
theorem pG {i j:Nat} {op op' :Op} {dst dst' :Option Tmp} {ty' :TypeId} {p' :String} {af' :Array Edge} {gu' :Option (Nat × Bool)} (hi:l[i]? =some ⟨dst,op,ty,p,af,gu⟩) (hj:l[j]? =some ⟨dst',op',ty',p',af',gu'⟩) (hg:gok l s gu=some true) (hg' :gok l s gu' =some true)
  (hk:es.contains i=true) (hk' :es.contains j=true) (hr:Region.ready .any l.toArray L= [i,j])
  (h:WL P n w0 #[] [⟨dst,op,ty,p,af,none⟩] (ceP S (WE P n w0 l S es Q f (L.setIfInBounds i true))) s H)
  (h' :WL P n w0 #[] [⟨dst',op',ty',p',af',none⟩] (ceP S (WE P n w0 l S es Q f (L.setIfInBounds j true))) s H):WE P n w0 l S es Q (f+1) L s H:=by
 intro a w hs hm hS hcl
 refine ⟨hS,fun h0=>(by rw [hr] at h0;cases h0),fun k hk0=> ?_⟩
 rw [hr] at hk0
 rcases PF.1 hk0 with e|hk0
 ·
  subst e
  exact ⟨_,by simpa using hi,zh hi hg hk (by rw [hr];simp) h a w hs hm hcl⟩
 ·
  have e:k=j:=by simpa using hk0
  subst e
  exact ⟨_,by simpa using hj,zh hj hg' hk' (by rw [hr];simp) h' a w hs hm hcl⟩
end
end Go.SL
namespace Go.SL
open Go Go.Proofs
attribute [local irreducible] W WL WQ WG WA WX WLI WR WT WC WE VOp RW thn blk bZ scp bA bV ck FnAt FnIn FnP ceP
theorem Hp (c r:Int) (w:World):aF Tryz.prog 86 [.int .i64 c,.int .i64 r] w (.agg (aw ⟨c,r⟩).toArray):=by
 refine aA Tryz.func86 rfl Tryz.ntmps86 rfl ?_
 repeat' (first|refine sT ?_|refine sS ?_|refine sM fun _=> ?_|(refine sC ?_ ?_<;>intro hb<;>try omega)|fail)
 all_goals ((refine eRC ?_);rfl)
theorem xA (L M:List Rct) (lv mv:Value) (w:World) (hl:Reads w lv L.length (L.flatMap aH)) (hm:Reads w mv M.length (M.flatMap aH)):
  aF Tryz.prog 18 [lv,mv] w (.bool (decide (L=M))):=by
 obtain ⟨Al,cl,rfl,hl1,hl2,hl3⟩:=hl
 obtain ⟨Am,cm,rfl,hm1,hm2,hm3⟩:=hm
 refine aA Tryz.func18 rfl Tryz.ntmps18 rfl ?_
 by_cases hlen:L.length=M.length
 ·
  repeat' (first|refine sT ?_|refine sS ?_|refine sM fun _=> ?_|(refine sC ?_ ?_<;>intro hb<;>try omega)|fail)
  refine eH (fun i:Nat=> [(0,.slice Al L.length cl),(1,.slice Am M.length cm),(5,.int .i64 (i:Int))]) (fun _=> []) (fun i=>i≤L.length∧decide (L=M)=decide (L.drop i=M.drop i)) (fun i=>L.length - i) 0 ⟨by omega,rfl⟩ ?_ ?_ ?_
  ·
   exact sB
  ·
   exact mS
  ·
   rintro i ⟨hi,hrec⟩
   by_cases hlt:i<L.length
   ·
    have hlt2:i<M.length:=by omega
    obtain ⟨gl,ol,rfl,hrl⟩:=hl3 (by omega)
    obtain ⟨gm,om,rfl,hrm⟩:=hm3 (by omega)
    have he1:=hrl.elem kO i hlt
    have he2:=hrm.elem kO i hlt2
    rw [qQ hlt hlt2,← z2] at hrec
    repeat' (first|(apply aP;exact rfl;apply ag;exact rfl;exact rfl;(first|exact hlt|exact hlt2))|(apply aP;exact rfl;apply aZ;exact rfl;(first|exact he1|exact he2);exact rfl)|(apply aP;exact rfl;apply I9;exact rfl;exact rfl)|(apply aj;exact rfl;apply gI;exact rfl;exact rfl;(simp only [maxLen] at*;omega))|refine sT ?_|refine sS ?_|refine sQ ?_|refine sD ?_|refine sM fun _=> ?_|(refine sC ?_ ?_<;>intro hb<;>try omega)|(refine sCQ ?_ ?_<;>intro hb<;>try omega)|fail)
    ·
     (refine rT1 ?_)
     rw [hrec]
     simp_all
    ·
     refine ⟨i+1,⟨by omega,?_⟩,by omega,?_,?_⟩
     ·
      rw [hrec]
      simp_all
     ·
      exact sB
     ·
      exact mS
   ·
    have e:i=L.length:=by omega
    subst e
    repeat' (first|refine sT ?_|refine sS ?_|refine sM fun _=> ?_|(refine sC ?_ ?_<;>intro hb<;>try omega)|fail)
    (refine rT1 ?_)
    rw [hrec,PT,hlen,PT]
    rfl
 ·
  repeat' (first|refine sT ?_|refine sS ?_|refine sM fun _=> ?_|(refine sC ?_ ?_<;>intro hb<;>try omega)|fail)
  (refine rT1 ?_)
  rw [decide_eq_false]
  intro e
  exact hlen (congrArg List.length e)
def aR (at_:List Rf) (l:List Rct):Int:=if at_.all (fun a=>a.valid) && l.all bh then 0 else 3
theorem vu (r:Rct):iL r=0↔bh r=true:=by
 have:=BV (r:=r)
 cases h:bh r
 ·
  rw [h] at this
  simp only [iff_true,PH,iff_false] at this ⊢
  exact this
 ·
  rw [h] at this
  simpa using this
set_option maxHeartbeats 1000000 in
theorem kQ (g:Nat) (A:List Rf) (L:List Rct) (av lv:Value) (w:World) (ha:Reads w av A.length (A.flatMap aw)) (hl:Reads w lv L.length (L.flatMap aH)) (hA:A.length≤1000000) (hL:L.length≤1000000):
  aF Tryz.prog 56 [.pointer (some ⟨g,0,none⟩),av,lv] w (.int .i64 (aR A L)):=by
 obtain ⟨Aa,ca,rfl,ha1,ha2,ha3⟩:=ha
 obtain ⟨Al,cl,rfl,hl1,hl2,hl3⟩:=hl
 refine aA Tryz.func56 rfl Tryz.ntmps56 rfl ?_
 repeat' (first|refine sT ?_|refine sS ?_|refine sM fun _=> ?_|(refine sC ?_ ?_<;>intro hb<;>try omega)|fail)
 refine ax [1,2] rfl (fun i:Nat=> [(7,.int .i64 (i:Int))]) (fun _=> []) (fun i=>i≤A.length∧A.all (fun a=>a.valid)=(A.drop i).all (fun a=>a.valid)) (fun i=>A.length - i) 0 ⟨Pb _,rfl⟩ sB (MSub.refl _) ?_
 rintro i ⟨hi,hrec⟩
 by_cases hlt:i<A.length
 ·
  obtain ⟨gl,ol,rfl,hrl⟩:=ha3 (by omega)
  have he:=hrl.elem dO i hlt
  rw [Pf hlt,QN] at hrec
  generalize A[i]=a at he hrec
  have hV: ∀ w',aF Tryz.prog 113 [.agg (aw a).toArray] w' (.bool a.valid):=fun w' =>jw a.col a.row w'
  generalize a.valid=b at hV hrec
  repeat' (first|(apply aj;exact rfl;apply ag (j:=i);exact rfl;exact rfl;exact hlt)|(apply aj;exact rfl;apply aZ;exact rfl;exact he;exact rfl)|(apply aa;exact rfl;exact rfl;(intro w hm;exact hV w))|refine sT ?_|refine sS ?_|refine sN ?_|refine sM fun _=> ?_|(refine sC ?_ ?_<;>intro hb<;>try omega)|fail)
  all_goals first
   |(exfalso;omega)
   |(refine bK eIO rfl rfl (.nil _) ?_;rw [aR,hrec];simp_all;done)
   |(refine ⟨i+1,⟨hlt,?_⟩,by omega,by exact sB,by exact sB,MSub.refl _⟩;simp_all;done)
 ·
  rw [RJ (show A.length≤i by omega)] at hrec
  repeat' (first|refine sT ?_|refine sS ?_|refine sN ?_|refine sM fun _=> ?_|(refine sC ?_ ?_<;>intro hb<;>try omega)|fail)
  all_goals try (exfalso;omega)
  refine ax [2] rfl (fun i:Nat=> [(8,.int .i64 (i:Int))]) (fun _=> []) (fun i=>i≤L.length∧L.all bh=(L.drop i).all bh) (fun i=>L.length - i) 0 ⟨Pb _,rfl⟩ sB (MSub.refl _) ?_
  rintro i ⟨hi,hrec2⟩
  by_cases hlt:i<L.length
  ·
   obtain ⟨gl,ol,rfl,hrl⟩:=hl3 (by omega)
   have he:=hrl.elem kO i hlt
   rw [Pf hlt,QN] at hrec2
   generalize L[i]=r at he hrec2
   have hV:=fun w' =>kB r w'
   have hz:=vu r
   generalize iL r=re at hV hz
   generalize bh r=b at hz hrec2
   repeat' (first|(apply aj;exact rfl;apply ag (j:=i);exact rfl;exact rfl;exact hlt)|(apply aj;exact rfl;apply aZ;exact rfl;exact he;exact rfl)|(apply aa;exact rfl;exact rfl;(intro w hm;exact hV w))|refine sT ?_|refine sS ?_|refine sN ?_|refine sM fun _=> ?_|(refine sC ?_ ?_<;>intro hb<;>try omega)|fail)
   all_goals first
    |(exfalso;omega)
    |(refine bK eIO rfl rfl (.nil _) ?_;rw [aR,hrec,hrec2];simp_all;done)
    |(refine ⟨i+1,⟨hlt,?_⟩,by omega,by exact sB,by exact sB,MSub.refl _⟩;simp_all;done)
  ·
   rw [RJ (show L.length≤i by omega)] at hrec2
   repeat' (first|refine sT ?_|refine sS ?_|refine sN ?_|refine sM fun _=> ?_|(refine sC ?_ ?_<;>intro hb<;>try omega)|fail)
   all_goals first
    |(exfalso;omega)
    |(refine bK eIO rfl rfl (.nil _) ?_;rw [aR,hrec,hrec2];rfl)
set_option maxHeartbeats 1000000 in
theorem mg (g:Nat) (A:List Rf) (L:List Rct) (av lv:Value) (w:World) (ha:Reads w av A.length (A.flatMap aw)) (hl:Reads w lv L.length (L.flatMap aH)) (hA:A.length≤1000000) (hL:L.length≤1000000):
  aF Tryz.prog 50 [.pointer (some ⟨g,0,none⟩),av,lv] w (.int .i64 (aR A L)):=by
 obtain ⟨Aa,ca,rfl,ha1,ha2,ha3⟩:=ha
 obtain ⟨Al,cl,rfl,hl1,hl2,hl3⟩:=hl
 refine aA Tryz.func50 rfl Tryz.ntmps50 rfl ?_
 repeat' (first|refine sT ?_|refine sS ?_|refine sM fun _=> ?_|(refine sC ?_ ?_<;>intro hb<;>try omega)|fail)
 refine ax [2,13,14] rfl (fun i:Nat=> [(15,.int .i64 (i:Int))]) (fun _=> []) (fun i=>i≤A.length∧A.all (fun a=>a.valid)=(A.drop i).all (fun a=>a.valid)) (fun i=>A.length - i) 0 ⟨Pb _,rfl⟩ sB (MSub.refl _) ?_
 rintro i ⟨hi,hrec⟩
 by_cases hlt:i<A.length
 ·
  obtain ⟨gl,ol,rfl,hrl⟩:=ha3 (by omega)
  have he:=hrl.elem dO i hlt
  rw [Pf hlt,QN] at hrec
  generalize A[i]=a at he hrec
  have hV: ∀ w',aF Tryz.prog 93 [.agg (aw a).toArray] w' (.bool a.valid):=fun w' =>lQ a.col a.row w'
  generalize a.valid=b at hV hrec
  repeat' (first|(apply aj;exact rfl;apply ag (j:=i);exact rfl;exact rfl;exact hlt)|(apply aj;exact rfl;apply aZ;exact rfl;exact he;exact rfl)|(apply aa;exact rfl;exact rfl;(intro w hm;exact hV w))|refine sT ?_|refine sS ?_|refine sN ?_|refine sM fun _=> ?_|(refine sC ?_ ?_<;>intro hb<;>try omega)|fail)
  all_goals first
   |(exfalso;omega)
   |(refine bK eIO rfl rfl (.nil _) ?_;rw [aR,hrec];simp_all;done)
   |(refine ⟨i+1,⟨hlt,?_⟩,by omega,by exact sB,by exact sB,MSub.nil _⟩;simp_all;done)
 ·
  rw [RJ (show A.length≤i by omega)] at hrec
  repeat' (first|refine sT ?_|refine sS ?_|refine sN ?_|refine sM fun _=> ?_|(refine sC ?_ ?_<;>intro hb<;>try omega)|fail)
  all_goals try (exfalso;omega)
  refine ax [23,24] rfl (fun i:Nat=> [(25,.int .i64 (i:Int))]) (fun _=> []) (fun i=>i≤L.length∧L.all bh=(L.drop i).all bh) (fun i=>L.length - i) 0 ⟨Pb _,rfl⟩ sB (MSub.nil _) ?_
  rintro i ⟨hi,hrec2⟩
  by_cases hlt:i<L.length
  ·
   obtain ⟨gl,ol,rfl,hrl⟩:=hl3 (by omega)
   have he:=hrl.elem kO i hlt
   rw [Pf hlt,QN] at hrec2
   generalize L[i]=r at he hrec2
   have hV:=fun w' =>tY r w'
   have hz:=vu r
   generalize iL r=re at hV hz
   generalize bh r=b at hz hrec2
   repeat' (first|(apply aj;exact rfl;apply ag (j:=i);exact rfl;exact rfl;exact hlt)|(apply aj;exact rfl;apply aZ;exact rfl;exact he;exact rfl)|(apply aa;exact rfl;exact rfl;(intro w hm;exact hV w))|refine sT ?_|refine sS ?_|refine sN ?_|refine sM fun _=> ?_|(refine sC ?_ ?_<;>intro hb<;>try omega)|fail)
   all_goals first
    |(exfalso;omega)
    |(refine bK eIO rfl rfl (.nil _) ?_;rw [aR,hrec,hrec2];simp_all;done)
    |(refine ⟨i+1,⟨hlt,?_⟩,by omega,by exact sB,by exact sB,MSub.nil _⟩;simp_all;done)
  ·
   rw [RJ (show L.length≤i by omega)] at hrec2
   repeat' (first|refine sT ?_|refine sS ?_|refine sN ?_|refine sM fun _=> ?_|(refine sC ?_ ?_<;>intro hb<;>try omega)|fail)
   all_goals first
    |(exfalso;omega)
    |(refine bK eIO rfl rfl (.nil _) ?_;rw [aR,hrec,hrec2];rfl)
end Go.SL
namespace Go.SL
open Go
inductive Rc (G:Gr):Rf→Rct→Prop
 |use {c:Rf} {r:Rct} (hc:c∈aq G) (h:aG (aD G c) r=true):Rc G c r
 |via {c d:Rf} {r:Rct} (hc:c∈aq G) (hd:d∈aq G) (h:aG (aD G c) (bB d.col d.row)=true) (k:Rc G d r):Rc G c r
theorem Rc.key {G:Gr} {c:Rf} {r:Rct} (h:Rc G c r):c∈aq G:=by cases h<;>assumption
theorem Rc.trans {G:Gr} {c d:Rf} {r:Rct} (h:Rc G c (bB d.col d.row)) (hd:d∈aq G) (k:Rc G d r):Rc G c r:=by
 generalize hq:bB d.col d.row=q at h
 induction h with
 |use hc h=>subst hq;exact .via hc hd h k
 |via hc he h _ ih=>exact .via hc he h (ih hq)
theorem Rc.last {G:Gr} {c:Rf} {r:Rct} (h:Rc G c r):aG (aD G c) r=true∨ ∃ d∈aq G,Rc G c (bB d.col d.row)∧aG (aD G d) r=true:=by
 induction h with
 |use hc h=>exact .inl h
 | @via c d r hc hd h k ih=>
  right
  rcases ih with h1|⟨e,he,h1,h2⟩
  ·
   exact ⟨d,hd,.use hc h,h1⟩
  ·
   exact ⟨e,he,.via hc hd h h1,h2⟩
open Classical in
noncomputable def fI (G:Gr) (l:List Rct):List Rf:=(aq G).filter fun c=>decide (∃ r∈l,Rc G c r)
open Classical in
noncomputable def cZ (G:Gr) (c:Rf):List Rf:=(aq G).filter fun d=>decide (Rc G c (bB d.col d.row))
open Classical in
noncomputable def jD (G:Gr) (a b:Rf):Bool:=decide (Rc G a (bB b.col b.row))
open Classical in
theorem yj {G:Gr} {l:List Rct} {c:Rf}:c∈fI G l↔ ∃ r∈l,Rc G c r:=by
 unfold fI
 rw [QL,decide_eq_true_eq]
 exact ⟨fun h=>h.2,fun h=>⟨h.choose_spec.2.key,h⟩⟩
open Classical in
theorem jZ {G:Gr} {c d:Rf}:d∈cZ G c↔d∈aq G∧Rc G c (bB d.col d.row):=by
 unfold cZ
 rw [QL,decide_eq_true_eq]
theorem ri {G:Gr} (h:SortG G) (l:List Rct):(fI G l).Pairwise fun x y=>bp x y=true:=(nW h).filter _
theorem qZ {G:Gr} (h:SortG G) (c:Rf):(cZ G c).Pairwise fun x y=>bp x y=true:=(nW h).filter _
structure UpI (G:Gr) (l:List Rct) (seen:List Rf) (todo:List Rct):Prop where
 nodup:seen.Nodup
 sound: ∀ c∈seen,∃ r∈l,Rc G c r
 from_: ∀ r∈todo,r∈l∨ ∃ d∈seen,r=bB d.col d.row
 full: ∀ c∈aq G,∀ r,(r∈l∨ ∃ d∈seen,r=bB d.col d.row)→aG (aD G c) r=true→c∈seen∨r∈todo
theorem UpI.start (G:Gr) (l:List Rct):UpI G l [] l:=⟨RV,(fun _ h=>by cases h),(fun r h=> .inl h),fun c _ r h _=>by
 rcases h with h|⟨d,hd,_⟩
 ·
  exact .inr h
 ·
  cases hd⟩
theorem UpI.done {G:Gr} {l:List Rct} {seen:List Rf} (h:UpI G l seen []) (c:Rf):c∈seen↔c∈fI G l:=by
 rw [yj]
 refine ⟨h.sound c,?_⟩
 rintro ⟨r,hr,hc⟩
 have hno: ∀ {c r},c∈aq G→(r∈l∨ ∃ d∈seen,r=bB d.col d.row)→aG (aD G c) r=true→c∈seen:=fun hk hr ht=>by
  rcases h.full _ hk _ hr ht with h1|h1
  ·
   exact h1
  ·
   cases h1
 induction hc with
 |use hc ht=>exact hno hc (.inl hr) ht
 | @via c d r hc hd ht _ ih=>exact hno hc (.inr ⟨d,ih hr,rfl⟩) ht
theorem UpI.add {G:Gr} {l:List Rct} {seen:List Rf} {todo:List Rct} {r:Rct} {c:Rf} (h:UpI G l seen (r::todo)) (hc:c∈aq G) (ht:aG (aD G c) r=true) (hn:c∉seen):
  UpI G l (c::seen) (r::(todo++ [bB c.col c.row])):=by
 refine ⟨Se.2 ⟨hn,h.nodup⟩,fun x hx=> ?_,fun q hq=> ?_,fun x hx q hq hxq=> ?_⟩
 ·
  rcases PF.1 hx with rfl|hx
  ·
   rcases h.from_ r O7 with h1|⟨d,hd,rfl⟩
   ·
    exact ⟨r,h1,.use hc ht⟩
   ·
    obtain ⟨q,hq,hdq⟩:=h.sound d hd
    exact ⟨q,hq,.via hc hdq.key ht hdq⟩
  ·
   exact h.sound x hx
 ·
  rcases PF.1 hq with rfl|hq
  ·
   rcases h.from_ q O7 with h1|⟨d,hd,h2⟩
   ·
    exact .inl h1
   ·
    exact .inr ⟨d,O9 _ hd,h2⟩
  ·
   rcases Pz.1 hq with hq|hq
   ·
    rcases h.from_ q (O9 _ hq) with h1|⟨d,hd,h2⟩
    ·
     exact .inl h1
    ·
     exact .inr ⟨d,O9 _ hd,h2⟩
   ·
    exact .inr ⟨c,O7,Pv.1 hq⟩
 ·
  have hold:(q∈l∨ ∃ d∈seen,q=bB d.col d.row)→x∈c::seen∨q∈r::(todo++ [bB c.col c.row]):=fun hq=>by
   rcases h.full x hx q hq hxq with h1|h1
   ·
    exact .inl (O9 _ h1)
   ·
    right
    rcases PF.1 h1 with rfl|h1
    ·
     exact O7
    ·
     exact O9 _ (PV _ h1)
  rcases hq with h1|⟨d,hd,rfl⟩
  ·
   exact hold (.inl h1)
  ·
   rcases PF.1 hd with rfl|hd
   ·
    exact .inr (O9 _ (P9 _ O7))
   ·
    exact hold (.inr ⟨d,hd,rfl⟩)
theorem UpI.pop {G:Gr} {l:List Rct} {seen:List Rf} {todo:List Rct} {r:Rct} (h:UpI G l seen (r::todo)) (hall: ∀ c∈aq G,aG (aD G c) r=true→c∈seen):UpI G l seen todo:=by
 refine ⟨h.nodup,h.sound,fun q hq=>h.from_ q (O9 _ hq),fun c hc q hq ht=> ?_⟩
 rcases h.full c hc q hq ht with h1|h1
 ·
  exact .inl h1
 ·
  rcases PF.1 h1 with rfl|h1
  ·
   exact .inl (hall c hc ht)
  ·
   exact .inr h1
theorem UpI.len {G:Gr} {l:List Rct} {seen:List Rf} {todo:List Rct} (hG:SortG G) (h:UpI G l seen todo):seen.length≤G.length:=by
 have hs:seen⊆aq G:=fun c hc=>(h.sound c hc).choose_spec.2.key
 have hn:(aq G).Nodup→((aq G).filter fun a=>decide (a∈seen)).Nodup:=fun h=>h.filter _
 have hp: ∀ hk:(aq G).Nodup,seen.Perm ((aq G).filter fun a=>decide (a∈seen)):=fun hk=>
  iX h.nodup (hn hk) fun a=>by
   rw [QL,decide_eq_true_eq]
   exact ⟨fun h=>⟨hs h,h⟩,fun h=>h.2⟩
 have h1:=(hp hG.nodup).length_eq
 have h2:=QE (fun a=>decide (a∈seen)) (aq G)
 have h3:(aq G).length=G.length:=by rw [aq,Ps]
 omega
end Go.SL
namespace Go.SL
open Go Go.RowKit
theorem u5 {P:Program} (w:World) (base:Nat) (t ty e:TypeId) (i:TypeInfo) (z:Value) (size bytes:Nat) (ht:P.underlying t=some (.slice e)) (hi:P.info? e=some i) (hz:i.zero=some z)
    (hsize:i.size=size) (hby:i.bytes=bytes) (hzs:z.cells.size=size) (hsz:0<size)
    (g n cap k off:Nat) (hk:k≤n) (hoff:k<cap→off=k*size) (xs:List Value) (hown:w.ownsRow base e size (.slice (some ⟨g,0,none⟩) n cap) n xs)
    (a:Addr) (m c:Nat) (news:List Value) (hl:news.length=m*size) (hnews: ∀ j u,news[j]? =some u→w.cell? (a.add j)=some u) (h1: ∀ u∈news,u.oneCell' =true) (hm0:0<m)
    (h63:n+m≤maxLen) (hbytes:(n+m)*bytes≤140737488355328) (hbase:base≤w.heap.size):
    ∃ v' w',(Builtin.append_ #[t,t] ty #[.slice (some ⟨g,off,none⟩) (n - k) (cap - k),.slice (some a) m c]).run P w= .ok v' w' ∧w.grownBy w' (some g)∧
      ((v' = .slice (some ⟨g, off, none⟩) (n - k + m) (cap - k) ∧ n + m ≤ cap ∧ w'.ownsRow base e size (.slice (some ⟨g, 0, none⟩) (n + m) cap) (n + m) (xs ++ news)) ∨
       (∃ cap',v' = .slice (some ⟨w.heap.size,0,none⟩) (n - k+m) cap' ∧w'.ownsRow base e size v' (n - k+m) (xs.drop (k*size)++news))):=by
  subst hsize
  subst hby
  obtain ⟨hxl,hown2⟩:=hown
  rcases hown2 with ⟨h0,_⟩|⟨g',cap',cur,hv,hbg,hg,hnc,hcm,hcs,htake⟩
  · cases h0
  injection hv with e1 e2 e3
  injection e1 with e1
  injection e1 with e1
  subst e1;subst e3
  have hsrc:Src P i.size t (.slice (some a) m c) m news w:=Src.ofSlice w ht a m c news hl hnews h1
  have hlen:(xs++news).length=(n+m)*i.size:=by rw [O2,hxl,hl,QH]
  by_cases hroom:n+m≤cap
  · have hoff' :=hoff (by omega)
    subst hoff'
    have hfit:n*i.size+news.length≤cur.size:=by rw [hl,hcs,← QH];exact RD _ hroom
    have hkn:k*i.size+(n - k)*i.size=n*i.size:=by
      rw [← QH]
      congr 1
      omega
    have hr0:=run_append_room (P:=P) w t ty e i ht hi g n cap cur hg a m c news hl hnews h1 hroom hfit
    have hcell: ∀ j,j<news.length→(w.cell? ⟨g,n*i.size+j,none⟩).isSome=true:=fun j hj=>by
      simp only [World.cell?,hg]
      rw [Array.getElem?_eq_getElem (by omega)]
      rfl
    have hfro: ∀ j,j<news.length→w.frozen? ⟨g,n*i.size+j,none⟩=false:=fun j hj=>by
      simp [World.frozen?,hg]
    have hr1:=run_append_room_src (P:=P) w t t ty e i ht hi g 0 n cap (.slice (some a) m c) m news hsrc hroom (by simpa using hcell) (by simpa using hfro)
    have hr2:=run_append_room_src (P:=P) w t t ty e i ht hi g (k*i.size) (n - k) (cap - k) (.slice (some a) m c) m news hsrc (by omega) (by rw [hkn];exact hcell) (by rw [hkn];exact hfro)
    rw [hkn] at hr2
    rw [Pn] at hr1
    have hw:=hr0.symm.trans hr1
    injection hw with hw1 hw2
    rw [← hw2] at hr2
    refine ⟨_,_,hr2,⟨rfl,rfl,rfl,by simp,fun j _ hj=>setRow_other w g j _ (fun e=>hj (by rw [e]))⟩,.inl ⟨rfl,hroom,hlen,.inr ⟨g,cap,_,rfl,hbg,setRow_heap w g cur _ e _ hg,hroom,hcm,?_,?_⟩⟩⟩
    · simp only [QR,O2,Pr,Pp,Array.length_toList]
      omega
    · rw [htake,← hlen]
      exact RT
  · have hol:(xs.drop (k*i.size)).length=(n - k)*i.size:=by rw [Pp,hxl,← Nat.sub_mul]
    have hold:(Builtin.firstCells i.size (n - k) (.slice (some ⟨g,off,none⟩) (n - k) (cap - k))).run P w.drew= .ok (xs.drop (k*i.size)).toArray w.drew:=by
      by_cases hkn:n=k
      · subst hkn
        have e0:xs.drop (n*i.size)= []:=Qk (by rw [hol];simp)
        rw [e0]
        exact run_firstCells_some w.drew i.size (n - n) ⟨g,off,none⟩ (n - n) (cap - n) [] (by simp) (fun j u hu=>by simp at hu)
      · have hoff' :=hoff (by omega)
        subst hoff'
        refine run_firstCells_some w.drew i.size (n - k) ⟨g,k*i.size,none⟩ (n - k) (cap - k) _ hol fun j u hu=> ?_
        have hcc:w.cell? ((⟨g,0,none⟩:Addr).add (k*i.size+j))=some u:=by
          have hu' :xs[k*i.size+j]? =some u:=by rw [← Qi];exact hu
          exact World.ownsRow.cells (w:=w) (base:=base) (e:=e) (size:=i.size) (v:= .slice (some ⟨g,0,none⟩) n cap) (n:=n) (xs:=xs) ⟨hxl,.inr ⟨g,cap,cur,rfl,hbg,hg,hnc,hcm,hcs,htake⟩⟩ (g:=g) rfl _ _ hu'
        rw [ee] at hcc ⊢
        simpa using hcc
    have hfits:Builtin.nextslicecap (n - k+m) (cap - k)*i.bytes≤281474976710656:=growslice_fits (by omega) (PK (RD _ (by omega)) hbytes)
    have hr:=run_append_grow_src (P:=P) w t t ty e i z ht hi hz (some ⟨g,off,none⟩) (n - k) (cap - k) (xs.drop (k*i.size)) hold (.slice (some a) m c) m news hsrc (by omega) (by simp only [maxLen] at h63;omega) hfits
    have hge:=grownCap_ge w (n - k+m) (cap - k) e
    have hcm2:grownCap w (n - k+m) (cap - k) e≤maxLen:=grownCap_le_maxLen w (n - k+m) (cap - k) e (by omega)
    have hlen2:(xs.drop (k*i.size)++news).length=(n - k+m)*i.size:=by rw [O2,hol,hl,QH]
    refine ⟨_,_,hr,⟨rfl,rfl,rfl,by simp,fun k hk _=>heap_alloc_old w.drew _ hk⟩,.inr ⟨_,rfl,hlen2,.inr ⟨w.heap.size,_,_,rfl,hbase,heap_alloc_new w.drew _,hge,hcm2,?_,?_⟩⟩⟩
    · simp only [Array.size_append,QR,size_zeroCells,hzs,hlen2,← QH]
      congr 1
      omega
    · simp only [Array.toList_append,Pg]
      rw [← Pg,← hlen2]
      exact RT
section
variable {P:Program} {n:Fr} {w0:World} {Q:cd} {s:aB} {H:List Blk} {rest:List Oper} {ty:TypeId} {p:String} {af:Array Edge}
theorem uz {d t e n' c k off g g2 sz by_:Nat} {x y:Operand} {xs news:List Value} {R:List Blk} {ops:Array Oper} [ht:Und P t (.slice e)] [he:Elem P e sz by_] (hn:Nat.blt d n.sz=true)
  (hx:ev s x=some (.slice (some ⟨g,off,none⟩) (n' - k) (c - k))) (hk:k≤n') (hoff:k<c→off=k*sz) (hy:ev s y=some (.slice (some ⟨g2,0,none⟩) 1 1)) (hsel:Sel (.own (some g) e sz n' c xs) H R)
  (hi:In (.own (some g2) e sz 1 1 news) H) (hl:news.length=sz) (h1: ∀ u∈news,u.oneCell' =true) (hby:(n' +1)*by_≤140737488355328) (h63:n' +1≤maxLen)
  (K: ∀ g' off' k' n2 c2 ys,k' ≤n2→(k' <c2→off' =k' *sz)→n2 - k' =n' - k+1→n2≤n' +1→ys.drop (k' *sz)=xs.drop (k*sz)++news→WL P n w0 ops rest Q ((d,.slice (some ⟨g',off',none⟩) (n2 - k') (c2 - k'))::s) (.own (some g') e sz n2 c2 ys::R)):
  WL P n w0 ops (⟨some d,.call { callee:= .builtin .append,args:= #[x,y],argTypes:= #[t,t] },ty,p,af,none⟩::rest) Q s H:=by
 intro a w hs hm
 have hm' :=hm.sel hsel
 obtain ⟨i,z,i1,i2,i3,i4,i5,i6⟩:=he.out
 have hb:=(hm'.on _ O7)
 have hown:w.ownsRow w0.heap.size e sz (.slice (some ⟨g,0,none⟩) n' c) n' xs:=by
  obtain ⟨⟨b1,b2,b3,b4⟩,b5⟩:=hb
  refine ⟨b1,?_⟩
  obtain ⟨junk,j1,j2⟩:=b4
  refine .inr ⟨g,c,_,rfl,b5 g rfl,j2,b2,b3,by simpa using j1,?_⟩
  simp only [R0]
  rw [← b1,RT]
 have hxl:=hown.1
 obtain ⟨v',w',hr,hgr,hcase⟩:=u5 (P:=P) w w0.heap.size t ty e i z sz by_ ht.out i1 i4 i2 i3 i5 i6 g n' c k off hk hoff xs hown ⟨g2,0,none⟩ 1 1 news (by omega)
  (fun j u hu=>by rw [ee];exact hm.cells_own hi j u hu) h1 (by omega) h63 hby hm.below.size
 have key: ∀ (G' N2 C2:Nat) (ys:List Value),w'.ownsRow w0.heap.size e sz (.slice (some ⟨G',0,none⟩) N2 C2) N2 ys→(Blk.own (some G') e sz N2 C2 ys).on w' :=by
  intro G' N2 C2 ys ho
  obtain ⟨q1,q2⟩:=ho
  rcases q2 with ⟨h0,_⟩|⟨g3,cap3,cur,hv,_,q4,q5,q6,q7,q8⟩
  ·
   cases h0
  ·
   injection hv with e1 e2 e3
   injection e1 with e1
   injection e1 with e1
   subst e1;subst e3
   refine ⟨q1,q5,q6,cur.toList.drop (N2*sz),?_,?_⟩
   ·
    rw [← q8,PP];simpa using q7
   ·
    rw [← q8,PP];simpa using q4
 refine wpList_plain rfl fun K' hK' => ?_
 unfold Oper.wp execOp
 simp only [resolve,invoke,builtin,Sem.run_bind,Sem.run_pure,Result.andThen_ok,QP,PB,P3,hs.eval x _ hx,hs.eval y _ hy,hr,Oper.upon]
 rcases hcase with ⟨rfl,hroom,ho⟩|⟨cap',rfl,ho⟩
 ·
  have e1:n' - k+1=n' +1 - k:=by omega
  rw [e1] at*
  refine hK' _ _ (K g off k (n' +1) c (xs++news) (by omega) hoff (by omega) (Ph _) ?_ _ _ (hs.put (PW ▸ hn) _) (hm'.upd hgr (key _ _ _ _ ho) fun j hj=> .inl hj))
  exact Sw (by rw [hxl];exact RD _ hk)
 ·
  refine hK' _ _ (K w.heap.size 0 0 (n' - k+1) cap' (xs.drop (k*sz)++news) (Pb _) (fun _=>by simp) (by omega) (by omega) (by simp) _ _ (hs.put (PW ▸ hn) _) (hm'.upd hgr (key _ _ _ _ (by simpa using ho)) fun j hj=> ?_))
  right
  simp only [Blk.key] at hj
  injection hj with hj
  omega
end
end Go.SL
namespace Go.SL
open Go Go.Proofs
def jl (S:List Rf) (j:Nat):List (Rf × Value × Nat):=(S.zipIdx j).map fun x=>(x.1,.bool true,x.2)
def ij (S:List Rf):List (Rf × Value × Nat):=jl S 0
theorem fN (a:Rf) (S:List Rf) (j:Nat):jl (a::S) j=(a,.bool true,j)::jl S (j+1):=by simp [jl,Ss]
theorem sK (a:Rf): ∀ (S:List Rf) (j:Nat),jl (S++ [a]) j=jl S j++ [(a,.bool true,j+S.length)]
 | [],j=>rfl
 |b::S,j=>by
  rw [O3,fN,fN,sK a S (j+1),O3,Pe,show j+1+S.length=j+(S.length+1) by omega]
theorem yn (a:Rf): ∀ (S:List Rf) (j i:Nat),(match cA a (jl S j) i with|some (_,v)=>v|none=>Value.bool false)= .bool (decide (a∈S))
 | [],_,_=>rfl
 |b::S,j,i=>by
  rw [fN,cA]
  by_cases h:a=b
  ·
   rw [if_pos h]
   simp [h]
  ·
   rw [if_neg h,yn a S (j+1) (i+1)]
   simp [h]
theorem vY (S:List Rf) (a:Rf):(match cA a (ij S) 0 with|some (_,v)=>v|none=>Value.bool false)= .bool (decide (a∈S)):=yn a S 0 0
theorem m7 (a:Rf): ∀ (S:List Rf) (j i:Nat),a∉S→cA a (jl S j) i=none
 | [],_,_,_=>rfl
 |b::S,j,i,h=>by
  rw [fN,cA,if_neg (fun e=>h (by rw [e];exact O7))]
  exact m7 a S _ _ (fun hs=>h (O9 _ hs))
theorem zE {S:List Rf} {a:Rf} (h:a∉S):kT a (.bool true) S.length (ij S)=(ij (S++ [a]),S.length+1):=by
 unfold kT ij
 rw [m7 a S 0 0 h,sK,Pn]
theorem qt (S:List Rf): ∀ j,(jl S j).map (fun e=>e.1)=S:=by
 induction S with
 |nil=>intro j;rfl
 |cons a S ih=>intro j;rw [fN,PB,ih]
theorem mG: ∀ (S:List Rf) (j:Nat),(jl S j).map (fun e=>e.2.2)=(List.range S.length).map (fun k=>j+k)
 | [],j=>rfl
 |a::S,j=>by
  rw [fN,PB,mG S (j+1),Pe,List.range_succ_eq_map,PB,QQ]
  congr 1
  exact Qw fun k _=>by simp only [Function.comp];omega
theorem Jr {S:List Rf} (h:S.Nodup):MapOk (ij S) S.length:=by
 refine ⟨?_,fun e he=> ?_,?_⟩
 ·
  unfold ij
  rw [mG,List.Nodup,SH]
  exact (List.nodup_range (n:=S.length)).imp fun h e=>h (by omega)
 ·
  have:e.2.2∈(ij S).map fun e=>e.2.2:=Py.2 ⟨e,he,rfl⟩
  unfold ij at this
  rw [mG] at this
  obtain ⟨k,hk,hke⟩:=Py.1 this
  have:=RX.1 hk
  omega
 ·
  unfold ij
  rw [qt];exact h
theorem UpI.perm {G:Gr} {l:List Rct} {S S' :List Rf} {todo:List Rct} (h:UpI G l S todo) (hp:S.Perm S'):UpI G l S' todo:=
 ⟨hp.nodup_iff.1 h.nodup,fun c hc=>h.sound c (hp.mem_iff.2 hc),fun r hr=>(h.from_ r hr).imp id fun ⟨d,hd,e⟩=>⟨d,hp.mem_iff.1 hd,e⟩,fun c hc r hr ht=>
  (h.full c hc r (hr.imp id fun ⟨d,hd,e⟩=>⟨d,hp.mem_iff.2 hd,e⟩) ht).imp (fun h=>hp.mem_iff.1 h) id⟩
structure Qu where
 g:Nat
 off:Nat
 k:Nat
 n:Nat
 c:Nat
 ys:List Value
def Qu.v (q:Qu):Value:= .slice (some ⟨q.g,q.off,none⟩) (q.n - q.k) (q.c - q.k)
structure Qu.ok {α:Type} (q:Qu) (enc:α→List Value) (sz:Nat) (L:List α):Prop where
 le:q.k≤q.n
 off:q.k<q.c→q.off=q.k*sz
 len:q.n - q.k=L.length
 cells:q.ys.drop (q.k*sz)=L.flatMap enc
def Qu.pop (q:Qu) (sz:Nat):Qu:={ q with off:=if q.c - q.k=1 then q.off else q.off+1*sz,k:=q.k+1 }
theorem Qu.ok.pop {α:Type} {q:Qu} {enc:α→List Value} {sz:Nat} {a:α} {L:List α} (h:q.ok enc sz (a::L)) (he:(enc a).length=sz) (hc:q.n≤q.c):(q.pop sz).ok enc sz L:=by
 have hl:=h.len
 rw [Pe] at hl
 have h0:=h.off (by omega)
 refine ⟨by simp only [Qu.pop];omega,fun hk=> ?_,by simp only [Qu.pop];omega,?_⟩
 ·
  simp only [Qu.pop] at hk ⊢
  rw [if_neg (by omega),h0,QH]
 ·
  have h1:=h.cells
  simp only [Qu.pop]
  rw [QH,RK,← Qy,h1,Pd,← he,List.drop_left]
end Go.SL
namespace Go.SL
open Go Go.Proofs
attribute [local irreducible] W WL WQ WG WA WX WLI WR WT WC WE VOp RW thn blk bZ scp bA bV ck FnAt FnIn FnP ceP
def rf (gb sb gm tb:Nat) (pa:Value) (S:List Rf) (q:Qu):List Blk:=
 [.box gb 26 [pa],.box sb 117 [.map (some gm)],.obj gm (cw aO (ij S) S.length),.box tb 25 [q.v],.own (some q.g) 53 4 q.n q.c q.ys]
set_option maxHeartbeats 4000000 in
theorem Av (gb sb gm tb:Nat) (pa:Value) (G:Gr) (hG:SortG G) (hGl:G.length≤900) (l:List Rct) (r:Rct) (S0:List Rf) (q0:Qu) (todo0:List Rct) (hI:UpI G l S0 (r::todo0)) (hq:q0.ok aH 4 todo0) (hqn:q0.n≤10000)
  (U:List Rf) (hUm: ∀ c,c∈U↔c∈aq G∧aG (aD G c) r=true) (hUl:U.length≤900) (B F:List Blk) (hB:MSub B F) (w0:World)
  (hU: ∀ H,MSub B H→FnIn Tryz.prog 53 [pa,.agg (aH r).toArray] w0 H fun v H' => ∃ A cap,v=sl A U.length cap∧H' = .own A 24 2 U.length cap (U.flatMap aw)::H):
  FnIn Tryz.prog 52 [.agg (aH r).toArray,.pointer (some ⟨gb,0,none⟩),.pointer (some ⟨sb,0,none⟩),.pointer (some ⟨tb,0,none⟩)] w0 (rf gb sb gm tb pa S0 q0++F) fun v H=>v= .tuple #[]∧ ∃ S q todo,H=rf gb sb gm tb pa S q++F∧q.ok aH 4 todo∧UpI G l S todo∧S.length+todo0.length=S0.length+todo.length∧q.n+S0.length≤q0.n+S.length:=by
 refine bM Tryz.func52 rfl Tryz.ntmps52 rfl ?_
 simp only [rf,O8,O3,O4]
 repeat' (first|(apply ak (f:=53);exact rfl;exact rfl;exact hU _ (MSub.trans hB mS);rintro _ _ ⟨A9,c9,rfl,rfl⟩)|refine sT ?_|refine sS ?_|refine sM fun _=> ?_|(refine sC ?_ ?_<;>intro hb<;>try omega)|fail)
 rename_i g4
 refine ax [1,2,3,9,10] rfl (fun y:Nat × List Rf × Qu × List Rct=> [(11,.int .i64 (y.1:Int))]) (fun y=> .own A9 24 2 U.length c9 (U.flatMap aw)::(rf gb sb gm tb pa y.2.1 y.2.2.1++F)) (fun y=>y.1≤U.length∧UpI G l y.2.1 (r::y.2.2.2)∧y.2.2.1.ok aH 4 y.2.2.2∧(∀ j (h:j<U.length),j<y.1→U[j]∈y.2.1)∧y.2.1.length+todo0.length=S0.length+y.2.2.2.length∧y.2.2.1.n+S0.length≤q0.n+y.2.1.length) (fun y=>U.length - y.1) (0,S0,q0,todo0) ⟨Pb _,hI,hq,(fun j _ h=>absurd h (Sz _)),rfl,Ph _⟩ sB (by simp only [rf,O8,O3,O4];exact mS) ?_
 clear hI hq
 rintro ⟨i,S,q,todo⟩ ⟨hi,hI,hq,hin,hsum,hqs⟩
 dsimp only at hi hI hq hin hsum hqs ⊢
 have hSl:=hI.len hG
 by_cases hlt:i<U.length
 ·
  refine bW (A:=A9) .hd (by omega) fun gk hA=> ?_
  subst hA
  have hread:=Hq hlt
  have hmem:U[i]∈U:=PG hlt
  have hstep: ∀ (S' :List Rf),(∀ x∈S,x∈S')→U[i]∈S' → ∀ j (h:j<U.length),j<i+1→U[j]∈S' :=fun S' h1 h2 j h3 h4=>by
   by_cases e:j=i
   ·
    subst e;exact h2
   ·
    exact h1 _ (hin j h3 (by omega))
  generalize U[i]=a at hread hmem hstep
  obtain ⟨hak,hat⟩:=(hUm a).1 hmem
  have hlook:=vY S a
  simp only [rf,O8,O3,O4]
  by_cases haS:a∈S
  ·
   rw [decide_eq_true haS] at hlook
   repeat' (first|(apply aj;exact rfl;apply ag (j:=i);exact rfl;exact rfl;exact hlt)|(apply aj;exact rfl;apply az;exact rfl;exact pK;exact hread;exact rfl)|(apply aj;exact rfl;apply cH (enc:=aO) (k:=a);exact rfl;exact rfl;exact pK;exact hlook)|refine sT ?_|refine sS ?_|refine sN ?_|refine sM fun _=> ?_|(refine sC ?_ ?_<;>intro hb<;>try omega)|fail)
   all_goals first
    |(exfalso;omega)
    |(refine ⟨(i+1,S,q,todo),⟨hlt,hI,hq,hstep S (fun _ h=>h) haS,hsum,hqs⟩,(by dsimp only;omega),sB,sB,(by simp only [rf,List.append_eq,List.cons_append,List.nil_append];exact mS)⟩)
    |trace_state
  ·
   rw [decide_eq_false haS] at hlook
   have hput:=zE haS
   have hI2:=(hI.add hak hat haS).perm (PI (l₁:= [a]) (l₂:=S))
   repeat' (first|(apply aj;exact rfl;apply ag (j:=i);exact rfl;exact rfl;exact hlt)|(apply aj;exact rfl;apply az;exact rfl;exact pK;exact hread;exact rfl)|(apply aj;exact rfl;apply cH (enc:=aO) (k:=a);exact rfl;exact rfl;exact pK;exact hlook)|(apply lM (enc:=aO) (k:=a);(iterate 3 exact rfl);exact pK;rw [hput])|refine sT ?_|refine sS ?_|refine sN ?_|refine sM fun _=> ?_|(refine sC ?_ ?_<;>intro hb<;>try omega)|fail)
   all_goals try (exfalso;omega)
   rename_i g6
   obtain ⟨qg,qoff,qk,qn,qc,qys⟩:=q
   obtain ⟨hq1,hq2,hq3,hq4⟩:=hq
   dsimp only at hq1 hq2 hq3 hq4 hqs ⊢
   simp only [Qu.v]
   refine tV (id:=6) [0,2,3,4,5] [.box g6 24 (aw a)] 6 rfl rfl mS ?_
   repeat' (first|(apply ic (i:=1);(iterate 4 exact rfl);decide+kernel;decide+kernel;decide+kernel;(apply sw;exact rfl;exact .hd;exact rfl;exact rfl))|(apply pG (i:=0) (j:=2);(iterate 6 exact rfl);decide+kernel)|(apply pG (i:=0) (j:=3);(iterate 6 exact rfl);decide+kernel)|(apply fB (i:=0);(iterate 3 exact rfl);decide+kernel)|(apply fB (i:=2);(iterate 3 exact rfl);decide+kernel)|(apply fB (i:=3);(iterate 3 exact rfl);decide+kernel)|(apply fB (i:=4);(iterate 3 exact rfl);decide+kernel)|(apply fB (i:=5);(iterate 3 exact rfl);decide+kernel)|(apply tT;decide+kernel)|(apply Ks;(focus (exact mS;done)))|(apply aa;exact rfl;exact rfl;(intro w hm;exact Aw _ w))|(apply uz;exact rfl;exact rfl;exact hq1;exact hq2;exact rfl;exact pK;exact pK;exact rfl;(simp [Value.oneCell',aH]);omega;(simp only [maxLen];omega);intro g' off' k' n2 c2 ys hk2 hoff2 hlen2 hn2 hys2)|refine sT ?_|refine sS ?_|refine sM fun _=> ?_|(refine sC ?_ ?_<;>intro hb<;>try omega)|fail)
   repeat' (first|refine sT ?_|refine sS ?_|refine sN ?_|refine sM fun _=> ?_|(refine sC ?_ ?_<;>intro hb<;>try omega)|fail)
   all_goals first
    |(exfalso;omega)
    |(refine ⟨(i+1,S++ [a],⟨g',off',k',n2,c2,ys⟩,todo++ [bB a.col a.row]),⟨hlt,hI2,⟨hk2,hoff2,(by rw [List.length_append];exact hlen2.trans (by rw [hq3];rfl)),(by rw [hys2,hq4,List.flatMap_append];rfl)⟩,hstep (S++ [a]) (fun _ h=>List.mem_append_left _ h) (List.mem_append_right _ List.mem_cons_self),(by rw [List.length_append,List.length_append];simp only [List.length_cons,List.length_nil];omega),(by rw [List.length_append];simp only [List.length_cons,List.length_nil];omega)⟩,(by dsimp only;omega),sB,sB,(by simp only [rf,Qu.v,List.append_eq,List.cons_append,List.nil_append,List.length_append,List.length_cons,List.length_nil,Nat.zero_add];exact mS)⟩)
    |trace_state
 ·
  have hi2:i=U.length:=by omega
  subst hi2
  have hI2:=hI.pop fun c hc ht=>by
   obtain ⟨j,hj,rfl⟩:=P1 ((hUm c).2 ⟨hc,ht⟩)
   exact hin j hj hj
  simp only [rf,O8,O3,O4]
  repeat' (first|refine sT ?_|refine sS ?_|refine sN ?_|refine sM fun _=> ?_|(refine sC ?_ ?_<;>intro hb<;>try omega)|fail)
  all_goals first
   |(exfalso;omega)
   |(exact jv eIO rfl mS ⟨rfl,S,q,todo,rfl,hq,hI2,hsum,hqs⟩)
   |trace_state
end Go.SL
