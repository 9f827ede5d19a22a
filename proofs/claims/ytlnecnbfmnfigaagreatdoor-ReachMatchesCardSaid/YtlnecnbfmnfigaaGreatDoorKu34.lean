/-
  Lemmas and walks, put together: Pl7 Rl Rm Rn Ro Rq.
-/
import Derived.Test.YtlnecnbfmnfigaaGreatDoorKu33
set_option linter.unusedSimpArgs false
set_option linter.unusedVariables false
set_option maxRecDepth 20000
namespace Go.SL
open Go
def dL (D:List (Rf × Nat)) (a:Rf):Nat:=match D.find? fun p=>decide (p.1=a) with|some p=>p.2|none=>0
def lp (D:List (Rf × Nat)) (j:Nat):List (Rf × Value × Nat):=(D.zipIdx j).map fun x=>(x.1.1,.int .i64 (x.1.2:Int),x.2)
def tN (D:List (Rf × Nat)):List (Rf × Value × Nat):=lp D 0
theorem jT (p:Rf × Nat) (D:List (Rf × Nat)) (j:Nat):lp (p::D) j=(p.1,.int .i64 (p.2:Int),j)::lp D (j+1):=by simp [lp,Ss]
theorem tq (p:Rf × Nat): ∀ (D:List (Rf × Nat)) (j:Nat),lp (D++ [p]) j=lp D j++ [(p.1,.int .i64 (p.2:Int),j+D.length)]
 | [],j=>rfl
 |q::D,j=>by
  rw [O3,jT,jT,tq p D (j+1),O3,Pe,show j+1+D.length=j+(D.length+1) by omega]
theorem qI (a:Rf): ∀ (D:List (Rf × Nat)) (j i:Nat),(match cA a (lp D j) i with|some (_,v)=>v|none=>Value.int .i64 0)= .int .i64 (dL D a:Int)
 | [],_,_=>rfl
 |p::D,j,i=>by
  rw [jT,cA]
  by_cases h:a=p.1
  ·
   rw [if_pos h]
   simp [dL,h]
  ·
   rw [if_neg h,qI a D (j+1) (i+1)]
   have h2: ¬ p.1=a:=fun e=>h e.symm
   simp [dL,h2]
theorem Cv (D:List (Rf × Nat)) (a:Rf):(match cA a (tN D) 0 with|some (_,v)=>v|none=>Value.int .i64 0)= .int .i64 (dL D a:Int):=qI a D 0 0
theorem pd (a:Rf): ∀ (D:List (Rf × Nat)) (j i:Nat),(∀ p∈D,p.1≠a)→cA a (lp D j) i=none
 | [],_,_,_=>rfl
 |p::D,j,i,h=>by
  rw [jT,cA,if_neg (fun e=>h p O7 e.symm)]
  exact pd a D _ _ (fun q hq=>h q (O9 _ hq))
theorem JI {D:List (Rf × Nat)} {a:Rf} {k:Nat} (h: ∀ p∈D,p.1≠a):kT a (.int .i64 (k:Int)) D.length (tN D)=(tN (D++ [(a,k)]),D.length+1):=by
 unfold kT tN
 rw [pd a D 0 0 h,tq,Pn]
theorem Cy {D:List (Rf × Nat)} (hp: ∀ p∈D,p.2≠0) {a:Rf} (h:dL D a=0): ∀ p∈D,p.1≠a:=fun p hm e=>by
 unfold dL at h
 cases hf:D.find? fun p=>decide (p.1=a) with
 |none=>
  have:=QV.1 hf p hm
  simp [e] at this
 |some q=>
  rw [hf] at h
  exact hp q (QJ hf) h
theorem yo {D:List (Rf × Nat)} {a c:Rf} {k:Nat} (h: ∀ p∈D,p.1≠a):dL (D++ [(a,k)]) c=if c=a then k else dL D c:=by
 unfold dL
 rw [List.find?_append]
 by_cases e:c=a
 ·
  subst e
  rw [QV.2 (fun p hp=>by simp [h p hp])]
  simp
 ·
  rw [if_neg e]
  cases hf:D.find? fun p=>decide (p.1=c) with
  |some q=>simp
  |none=>
   have h2: ¬ a=c:=fun e2=>e e2.symm
   simp [h2]
structure BfI (G:Gr) (b:Rf) (m:Nat) (todo:List Rf) (D:List (Rf × Nat)):Prop where
 look: ∀ c,dL D c=bY G b m c
 todo_: ∀ c,c∈todo↔(m=0∧c=b)∨(m≠0∧bY G b m c=m)
 nodup:(D.map fun p=>p.1).Nodup
 keys: ∀ p∈D,p.1∈aq G
 pos: ∀ p∈D,p.2≠0
structure BfJ (G:Gr) (b:Rf) (m:Nat) (D:List (Rf × Nat)) (next:List Rf) (D' :List (Rf × Nat)):Prop where
 look: ∀ c,dL D' c=if bY G b m c≠0 then bY G b m c else if c∈next then m+1 else 0
 sound: ∀ c∈next,c∈aq G∧bY G b m c=0∧wj G b (bY G b m) m c=true
 nodup:(D'.map fun p=>p.1).Nodup
 keys: ∀ p∈D',p.1∈aq G
 pos: ∀ p∈D',p.2≠0
 len:D'.length=D.length+next.length
section
variable {G:Gr} {b:Rf} {m:Nat} {todo next:List Rf} {D D' :List (Rf × Nat)}
theorem BfI.start (G:Gr) (b:Rf):BfI G b 0 [b] []:=⟨fun _=>rfl,fun c=>by simp,RV,(fun _ h=>by cases h),(fun _ h=>by cases h)⟩
theorem BfI.valid (hG:GrOk G) (hb:b.valid=true) (h:BfI G b m todo D) {x:Rf} (hx:x∈todo):x.valid=true:=by
 rcases (h.todo_ x).1 hx with ⟨_,rfl⟩|⟨h0,h1⟩
 ·
  exact hb
 ·
  exact yp hG (oq h1 h0).key
theorem BfI.hit (h:BfI G b m todo D) {c:Rf}:wj G b (bY G b m) m c=true↔ ∃ x∈todo,aG (aD G c) (bB x.col x.row)=true:=by
 rw [rU]
 constructor
 ·
  rintro (⟨h0,h1⟩|⟨h0,d,hd,h1,h2⟩)
  ·
   exact ⟨b,(h.todo_ b).2 (.inl ⟨h0,rfl⟩),h1⟩
  ·
   exact ⟨d,(h.todo_ d).2 (.inr ⟨h0,h1⟩),h2⟩
 ·
  rintro ⟨x,hx,h1⟩
  rcases (h.todo_ x).1 hx with ⟨h0,rfl⟩|⟨h0,h2⟩
  ·
   exact .inl ⟨h0,h1⟩
  ·
   exact .inr ⟨h0,x,(oq h2 h0).key,h2,h1⟩
theorem BfI.enter (h:BfI G b m todo D):BfJ G b m D [] D:=⟨fun c=>by
 rw [h.look]
 by_cases h0:bY G b m c=0<;>simp [h0],(fun _ h=>by cases h),h.nodup,h.keys,h.pos,rfl⟩
theorem BfJ.add (hI:BfI G b m todo D) (h:BfJ G b m D next D') {x c:Rf} (hx:x∈todo) (hc:c∈aq G) (ht:aG (aD G c) (bB x.col x.row)=true) (h0:dL D' c=0):
  BfJ G b m D (next++ [c]) (D' ++ [(c,m+1)]):=by
 have hn:=Cy h.pos h0
 have hl:=h.look c
 rw [h0] at hl
 have hf0:bY G b m c=0:=by
  by_cases h1:bY G b m c=0
  ·
   exact h1
  ·
   rw [if_pos h1] at hl;omega
 refine ⟨fun d=> ?_,fun d hd=> ?_,?_,fun p hp=> ?_,fun p hp=> ?_,?_⟩
 ·
  rw [yo hn,h.look]
  by_cases e:d=c
  ·
   subst e
   simp [hf0]
  ·
   simp [e]
 ·
  rcases Pz.1 hd with hd|hd
  ·
   exact h.sound d hd
  ·
   rw [Pv.1 hd]
   exact ⟨hc,hf0,hI.hit.2 ⟨x,hx,ht⟩⟩
 ·
  rw [P4,RM]
  refine ⟨h.nodup,by simp,fun a ha d hd e=> ?_⟩
  obtain ⟨p,hp,rfl⟩:=Py.1 ha
  simp only [PB,P3,Pv] at hd
  exact hn p hp (e.trans hd)
 ·
  rcases Pz.1 hp with hp|hp
  ·
   exact h.keys p hp
  ·
   rw [Pv.1 hp];exact hc
 ·
  rcases Pz.1 hp with hp|hp
  ·
   exact h.pos p hp
  ·
   rw [Pv.1 hp];simp
 ·
  rw [O2,O2,h.len];simp;omega
theorem BfJ.leave (hI:BfI G b m todo D) (h:BfJ G b m D next D') (hall: ∀ x∈todo,∀ c∈aq G,aG (aD G c) (bB x.col x.row)=true→dL D' c≠0):BfI G b (m+1) next D' :=by
 have hnext: ∀ c,c∈next↔bY G b m c=0∧c∈aq G∧wj G b (bY G b m) m c=true:=fun c=>by
  constructor
  ·
   intro hc;obtain ⟨h1,h2,h3⟩:=h.sound c hc;exact ⟨h2,h1,h3⟩
  ·
   rintro ⟨h1,h2,h3⟩
   obtain ⟨x,hx,ht⟩:=hI.hit.1 h3
   have h4:=hall x hx c h2 ht
   rw [h.look,if_neg (show ¬ bY G b m c≠0 by simp [h1])] at h4
   by_cases h5:c∈next
   ·
    exact h5
   ·
    rw [if_neg h5] at h4;exact absurd rfl h4
 refine ⟨fun c=> ?_,fun c=> ?_,h.nodup,h.keys,h.pos⟩
 ·
  rw [h.look,bY]
  by_cases h1:bY G b m c=0
  ·
   rw [if_neg (show ¬ bY G b m c≠0 by simp [h1]),if_neg (show ¬ bY G b m c≠0 by simp [h1])]
   by_cases h2:c∈next
   ·
    rw [if_pos h2,if_pos ((hnext c).1 h2).2]
   ·
    rw [if_neg h2,if_neg fun h3=>h2 ((hnext c).2 ⟨h1,h3⟩)]
  ·
   rw [if_pos h1,if_pos h1]
 ·
  rw [hnext]
  constructor
  ·
   rintro ⟨h1,h2,h3⟩
   refine .inr ⟨by omega,?_⟩
   rw [bY,if_neg (show ¬ bY G b m c≠0 by simp [h1]),if_pos ⟨h2,h3⟩]
  ·
   rintro (⟨h0,_⟩|⟨_,h1⟩)
   ·
    omega
   ·
    exact ⟨(kL h1 (by omega)).2 m (by omega),wB h1⟩
theorem BfI.done (h:BfI G b m [] D) (c:Rf):dL D c=dw G b c:=by
 have hm:m≠0:=fun e=>by
  have:=(h.todo_ b).2 (.inl ⟨e,rfl⟩)
  cases this
 have hs:=CX (G:=G) (b:=b) hm (fun d _ e=>by
  have:=(h.todo_ d).2 (.inr ⟨hm,e⟩)
  cases this) (m+(G.length+1)) (by omega) c
 rw [h.look,← hs,CY _ (by omega)]
theorem Fb (hG:GrOk G) (hn:(D.map fun p=>p.1).Nodup) (hk: ∀ p∈D,p.1∈aq G):D.length≤G.length:=by
 have:=Kb hG hn fun c hc=>by
  obtain ⟨p,hp,rfl⟩:=Py.1 hc
  exact hk p hp
 rwa [Ps] at this
end
end Go.SL
namespace Go.SL
open Go Go.Proofs
attribute [local irreducible] W WL WQ WG WA WX WLI WR WT WC WE VOp RW thn blk bZ scp bA bV ck FnAt FnIn FnP ceP
set_option maxHeartbeats 4000000 in
theorem ET (gg:Nat) (G:Gr) (hG:GrOk G) (hGl:G.length≤900) (b:Rf) (hbv:b.valid=true) (B F:List Blk) (hB:MSub B F) (w0:World)
    (hU: ∀ r H,MSub B H→FnIn Tryz.prog 53 [.pointer (some ⟨gg,0,none⟩),.agg (aH r).toArray] w0 H fun v H' => ∃ A cap,v=sl A (cj G r).length cap∧H' = .own A 24 2 (cj G r).length cap ((cj G r).flatMap aw)::H):
    FnIn Tryz.prog 72 [.pointer (some ⟨gg,0,none⟩),aO b] w0 F fun v H' => ∃ gm D,v= .map (some gm)∧H' = .obj gm (cw aO (tN D) D.length)::F∧ ∀ c,dL D c=dw G b c:=by
  refine bM Tryz.func72 rfl Tryz.ntmps72 rfl ?_
  repeat' (first|(apply j9 (enc:=aO);exact rfl;intro gm)|refine sT ?_|refine sS ?_|refine sM fun _=> ?_|(refine sC ?_ ?_<;>intro hb<;>try omega)|fail)
  rename_i g3 qg
  refine ax [0,5] rfl (fun y:Nat × List Rf × List (Rf × Nat) × Option Nat × Nat=> [(6,sl y.2.2.2.1 y.2.1.length y.2.2.2.2),(7,.int .i64 ((y.1+1:Nat):Int))]) (fun y=> .own y.2.2.2.1 24 2 y.2.1.length y.2.2.2.2 (y.2.1.flatMap aw):: .obj gm (cw aO (tN y.2.2.1) y.2.2.1.length)::F) (fun y=>BfI G b y.1 y.2.1 y.2.2.1∧y.1≤y.2.2.1.length+1∧(y.2.1≠ []→y.1≤y.2.2.1.length)∧y.2.1.length≤1000) (fun y=>2*(G.length - y.2.2.1.length)+y.2.1.length.min 1) (0,[b],[],some qg,1) ⟨BfI.start G b,Pb _,fun _=>Pb _,by simp⟩ sB mS ?_
  rintro ⟨m,todo,D,At,ct⟩ ⟨hI,hmD,hmD2,htl⟩
  dsimp only at hI hmD hmD2 htl ⊢
  have hDl:=Fb hG hI.nodup hI.keys
  by_cases ht0:todo.length=0
  · have htn:todo= []:=QM.1 ht0
    subst htn
    have hdone:=hI.done
    repeat' (first|refine sT ?_|refine sS ?_|refine sN ?_|refine sM fun _=> ?_|(refine sC ?_ ?_<;>intro hb<;>try omega)|fail)
    all_goals first
      |(exfalso;omega)
      |(exact bK eIO rfl rfl (H' := .obj gm (cw aO (tN D) D.length)::F) mS ⟨gm,D,rfl,rfl,hdone⟩)
      |trace_state
  · refine bW (A:=At) .hd (by omega) fun gt hA=> ?_
    subst hA
    have hmD3:=hmD2 fun e=>ht0 (by rw [e];rfl)
    refine aK 24 2 ?_
    repeat' (first|refine sT ?_|refine sS ?_|refine sN ?_|refine sM fun _=> ?_|(refine sC ?_ ?_<;>intro hb<;>try omega)|fail)
    all_goals try (exfalso;omega)
    have hmem: ∀ i (h:i<todo.length),todo[i]∈todo:=fun i h=>PG h
    have hget: ∀ x∈todo,∃ i,∃ h:i<todo.length,todo[i]=x:=fun x hx=>P1 hx
    refine ax [0,5,7,21,22] rfl (fun y:Nat × List Rf × List (Rf × Nat) × Option Nat × Nat=> [(8,sl y.2.2.2.1 y.2.1.length y.2.2.2.2),(23,.int .i64 (y.1:Int))]) (fun y=> .own y.2.2.2.1 24 2 y.2.1.length y.2.2.2.2 (y.2.1.flatMap aw):: .own (some gt) 24 2 todo.length ct (todo.flatMap aw):: .obj gm (cw aO (tN y.2.2.1) y.2.2.1.length)::F) (fun y=>y.1≤todo.length∧BfJ G b m D y.2.1 y.2.2.1∧ ∀ j (h:j<todo.length),j<y.1→ ∀ c∈aq G,aG (aD G c) (bB todo[j].col todo[j].row)=true→dL y.2.2.1 c≠0) (fun y=>todo.length - y.1) (0,[],D,none,0) ⟨Pb _,hI.enter,fun j _ h=>absurd h (Sz _)⟩ sB mS ?_
    rintro ⟨i,next,D',An,cn⟩ ⟨hi,hJ,hin⟩
    dsimp only at hi hJ hin ⊢
    have hDl' :=Fb hG hJ.nodup hJ.keys
    have hJl:=hJ.len
    by_cases hlt:i<todo.length
    · have hread:=Hq hlt
      have hxm:=hmem i hlt
      have hstep: ∀ (D2:List (Rf × Nat)),(∀ c,dL D' c≠0→dL D2 c≠0)→(∀ c∈aq G,aG (aD G c) (bB todo[i].col todo[i].row)=true→dL D2 c≠0)→ ∀ j (h:j<todo.length),j<i+1→ ∀ c∈aq G,aG (aD G c) (bB todo[j].col todo[j].row)=true→dL D2 c≠0:=fun D2 h1 h2 j h3 h4 c h5 h6=>by
        by_cases e:j=i
        · subst e;exact h2 c h5 h6
        · exact h1 c (hin j h3 (by omega) c h5 h6)
      generalize todo[i]=x at hread hxm hstep
      have hxv:=hI.valid hG hbv hxm
      have hUx:=hU (bB x.col x.row)
      have huI:=fun c=>GU (a:=c) hG hxv
      have hUl:(cj G (bB x.col x.row)).length≤900:=PK xQ hGl
      generalize cj G (bB x.col x.row)=U at hUx huI hUl
      repeat' (first|(apply aj;exact rfl;apply ag (j:=i);exact rfl;exact rfl;exact hlt)|(apply aj;exact rfl;apply az;exact rfl;exact pK;exact hread;exact rfl)|(apply aa;exact rfl;exact rfl;(intro w hm;exact Aw _ w))|(apply ak (f:=53);exact rfl;exact rfl;exact hUx _ (MSub.trans hB mS);rintro _ _ ⟨Au,cu,rfl,rfl⟩)|refine sT ?_|refine sS ?_|refine sN ?_|refine sM fun _=> ?_|(refine sC ?_ ?_<;>intro hb<;>try omega)|fail)
      all_goals try (exfalso;omega)
      refine ax [0,5,7,21,22,23,30,31] rfl (fun y:Nat × List Rf × List (Rf × Nat) × Option Nat × Nat=> [(8,sl y.2.2.2.1 y.2.1.length y.2.2.2.2),(32,.int .i64 (y.1:Int))]) (fun y=> .own y.2.2.2.1 24 2 y.2.1.length y.2.2.2.2 (y.2.1.flatMap aw):: .own Au 24 2 U.length cu (U.flatMap aw):: .own (some gt) 24 2 todo.length ct (todo.flatMap aw):: .obj gm (cw aO (tN y.2.2.1) y.2.2.1.length)::F) (fun y=>y.1≤U.length∧BfJ G b m D y.2.1 y.2.2.1∧(∀ c,dL D' c≠0→dL y.2.2.1 c≠0)∧ ∀ j (h:j<U.length),j<y.1→dL y.2.2.1 U[j]≠0) (fun y=>U.length - y.1) (0,next,D',An,cn) ⟨Pb _,hJ,fun _ h=>h,fun j _ h=>absurd h (Sz _)⟩ sB mS ?_
      rintro ⟨k,next2,D2,A2,c2⟩ ⟨hk,hJ2,hmo,hin2⟩
      dsimp only at hk hJ2 hmo hin2 ⊢
      have hDl2:=Fb hG hJ2.nodup hJ2.keys
      have hJl2:=hJ2.len
      by_cases hlk:k<U.length
      · refine bW (A:=Au) pK (by omega) fun gk hA=> ?_
        subst hA
        have hread2:=Hq hlk
        have hcm:U[k]∈U:=PG hlk
        have hstep2: ∀ (D3:List (Rf × Nat)),(∀ c,dL D2 c≠0→dL D3 c≠0)→dL D3 U[k]≠0→ ∀ j (h:j<U.length),j<k+1→dL D3 U[j]≠0:=fun D3 h1 h2 j h3 h4=>by
          by_cases e:j=k
          · subst e;exact h2
          · exact h1 _ (hin2 j h3 (by omega))
        generalize U[k]=c at hread2 hcm hstep2
        obtain ⟨hck,hct⟩:=(huI c).1 hcm
        have hlook:=Cv D2 c
        by_cases hz:dL D2 c=0
        · have hadd:=hJ2.add hI hxm hck hct hz
          have hno:=Cy hJ2.pos hz
          have hput:=JI (k:=m+1) hno
          have hlap:=fun d=>yo (c:=d) (k:=m+1) hno
          rw [hz] at hlook
          repeat' (first|(apply aj;exact rfl;apply ag (j:=k);exact rfl;exact rfl;exact hlk)|(apply aj;exact rfl;apply az;exact rfl;exact pK;exact hread2;exact rfl)|(apply aj;exact rfl;apply cH (enc:=aO) (k:=c);exact rfl;exact rfl;exact pK;exact hlook)|(apply lM (enc:=aO) (k:=c);(iterate 3 exact rfl);exact pK;rw [hput])|(apply bU;(iterate 3 exact rfl);(repeat first|exact .hd|apply Sel.tl|apply In.tl);(intro w hm;exact hm.cells_own (by (repeat first|exact .hd|apply Sel.tl|apply In.tl)));exact rfl;(simp [Value.oneCell',sl]);omega;(simp only [maxLen];omega);(intro A5 cap5 hA5))|refine sT ?_|refine sS ?_|refine sN ?_|refine sM fun _=> ?_|(refine sC ?_ ?_<;>intro hb<;>try omega)|fail)
          all_goals first
            |(exfalso;omega)
            | (refine ⟨(k + 1, next2 ++ [c], D2 ++ [(c, m + 1)], A5, cap5), ⟨hlk, hadd, ?_, ?_⟩, by dsimp only; omega, ?_, by exact sB, ?_⟩
               · intro d hd
                 have h1:=hmo d hd
                 dsimp only
                 rw [hlap]
                 split
                 · omega
                 · exact h1
               · refine hstep2 _ (fun d hd=> ?_) ?_
                 · rw [hlap]
                   split
                   · omega
                   · exact hd
                 · rw [hlap,if_pos rfl];omega
               · dsimp only;rw [List.length_append];exact sB
               · dsimp only;rw [List.length_append,List.length_append,List.flatMap_append,List.flatMap_cons,List.flatMap_nil,List.append_nil];exact mS)
            |trace_state
        · have hnz: ¬ ((dL D2 c:Nat):Int)=0:=by omega
          have hs3:=hstep2 D2 (fun _ h=>h) hz
          generalize dL D2 c=v at hlook hnz
          repeat' (first|(apply aj;exact rfl;apply ag (j:=k);exact rfl;exact rfl;exact hlk)|(apply aj;exact rfl;apply az;exact rfl;exact pK;exact hread2;exact rfl)|(apply aj;exact rfl;apply cH (enc:=aO) (k:=c);exact rfl;exact rfl;exact pK;exact hlook)|refine sT ?_|refine sS ?_|refine sN ?_|refine sM fun _=> ?_|(refine sC ?_ ?_<;>intro hb<;>try omega)|fail)
          all_goals first
            |(exfalso;omega)
            |(exact absurd hb hnz)
            |(refine ⟨(k+1,next2,D2,A2,c2),⟨hlk,hJ2,hmo,hs3⟩,by dsimp only;omega,by exact sB,by exact sB,by exact mS⟩;done)
            |trace_state
      · have hk2:k=U.length:=by omega
        subst hk2
        have hs4:=hstep D2 hmo fun c hc ht=>by
          obtain ⟨j,hj,rfl⟩:=P1 ((huI c).2 ⟨hc,ht⟩)
          exact hin2 j hj hj
        repeat' (first|refine sT ?_|refine sS ?_|refine sN ?_|refine sM fun _=> ?_|(refine sC ?_ ?_<;>intro hb<;>try omega)|fail)
        all_goals first
          |(exfalso;omega)
          |(refine ⟨(i+1,next2,D2,A2,c2),⟨hlt,hJ2,hs4⟩,by dsimp only;omega,by exact sB,by exact sB,by exact mS⟩;done)
          |trace_state
    · have hi2:i=todo.length:=by omega
      subst hi2
      have hI2:=hJ.leave hI fun x hx c hc ht=>by
        obtain ⟨j,hj,rfl⟩:=hget x hx
        exact hin j hj hj c hc ht
      repeat' (first|refine sT ?_|refine sS ?_|refine sN ?_|refine sM fun _=> ?_|(refine sC ?_ ?_<;>intro hb<;>try omega)|fail)
      all_goals first
        |(exfalso;omega)
        | (refine ⟨(m + 1, next, D', An, cn), ⟨hI2, by dsimp only; omega, fun hne => ?_, by dsimp only; omega⟩, ?_, by exact sB, by exact sB, by exact mS⟩
           · dsimp only at hne ⊢
             have:=RG.2 hne
             omega
           · dsimp only
             have h1:next.length.min 1≤1:=Nat.min_le_right _ _
             have h2:todo.length.min 1=1:=Nat.min_eq_right (by omega)
             have h3:next.length.min 1≤next.length:=Nat.min_le_left _ _
             omega)
        |trace_state
def FX (G:Gr) (a b:Rf):List Rf:=if dw G b a=0 then [] else w9 G b (dw G b a) a
def iw (G:Gr) (a b:Rf):List Rf:=if aR [a,b] []=0 then FX G a b else []
def o7 (G:Gr) (a b:Rf):Bool:=decide (aR [a,b] []=0) && decide (dw G b a≠0)
theorem AX {G:Gr} {b:Rf}: ∀ n c,(w9 G b n c).length≤n+2:=fun n=>by
 induction n with
 |zero=>intro c;simp [w9,kv]
 |succ n ih=>
  intro c
  by_cases hn:n=0
  ·
   subst hn;rw [I1];simp
  ·
   rw [w9,kv,if_neg hn]
   cases hs:zJ G b n c with
   |none=>simp
   |some d=>
    have:=ih d
    simp only [w9,Pe,O2,Qh] at this ⊢
    omega
theorem uh (G:Gr) (b c:Rf):dw G b c≤G.length+1:=oN _ _
def vQ (G:Gr) (b:Rf) (n:Nat) (c d:Rf):Bool:=decide (dw G b d=n) && (aD G c).any fun u=>gQ u.rect d
theorem DY {G:Gr} (hG:GrOk G) {b:Rf} {n:Nat} {c:Rf}:zJ G b n c=(aq G).find? (vQ G b n c):=by
 unfold zJ
 have: ∀ l:List Rf,(∀ d∈l,d∈aq G)→l.find? (fun d=>decide (dw G b d=n) && aG (aD G c) (bB d.col d.row))=l.find? (vQ G b n c):=fun l=>by
  induction l with
  |nil=>intro _;rfl
  |cons d l ih=>
   intro h
   have hd:=h d O7
   have he:(decide (dw G b d=n) && aG (aD G c) (bB d.col d.row))=vQ G b n c d:=by
    unfold vQ
    congr 1
    unfold aG
    exact sq fun u hu=>uT hG hu hd
   rw [List.find?_cons,List.find?_cons,he,ih fun x hx=>h x (O9 _ hx)]
 exact this _ fun _ h=>h
set_option maxHeartbeats 4000000 in
theorem My (gg:Nat) (G:Gr) (hG:GrOk G) (hGl:G.length≤900) (a b:Rf) (B F:List Blk) (hB:MSub B F) (w0:World)
    (hU: ∀ r H,MSub B H→FnIn Tryz.prog 53 [.pointer (some ⟨gg,0,none⟩),.agg (aH r).toArray] w0 H fun v H' => ∃ A cap,v=sl A (cj G r).length cap∧H' = .own A 24 2 (cj G r).length cap ((cj G r).flatMap aw)::H)
    (hFm: ∀ H,MSub B H→FnIn Tryz.prog 28 [.pointer (some ⟨gg,0,none⟩)] w0 H fun v H' => ∃ A cap,v=sl A (aq G).length cap∧H' = .own A 24 2 (aq G).length cap ((aq G).flatMap aw)::H)
    (hUs: ∀ d H,MSub B H→FnIn Tryz.prog 38 [.pointer (some ⟨gg,0,none⟩),aO d] w0 H fun v H' => ∃ A cap,v=sl A (aD G d).length cap∧H' = .own A 89 6 (aD G d).length cap ((aD G d).flatMap bQ)::H)
    (hUl: ∀ d,(aD G d).length≤1000):
    FnIn Tryz.prog 21 [.pointer (some ⟨gg,0,none⟩),aO a,aO b] w0 F fun v H' => ∃ A cap,v= .tuple #[sl A (iw G a b).length cap,.bool (o7 G a b),.int .i64 (aR [a,b] [])]∧H' = .own A 24 2 (iw G a b).length cap ((iw G a b).flatMap aw)::F:=by
  refine bM Tryz.func21 rfl Tryz.ntmps21 rfl ?_
  refine aK 24 2 ?_
  have hck:=fun w (v:Value) (hr:Reads w v 2 (aw a++aw b))=>mg gg [a,b] [] v (.slice none 0 0) w (by simpa using hr) (eV w) (by simp) (by simp)
  unfold iw o7
  by_cases hc0:aR [a,b] []=0
  · obtain ⟨hca,hva,hvb⟩:=yQ hc0
    have hle:=fun F hB=>ET gg G hG hGl b hvb B F hB w0 hU
    rw [if_pos hc0]
    rw [hc0] at hck ⊢
    rw [decide_eq_true rfl,PZ]
    unfold FX
    obtain ⟨N,hN⟩: ∃ N,dw G b a=N:=⟨_,rfl⟩
    have hw:=AX (G:=G) (b:=b) N a
    have hfl:=uh G b a
    rw [hN] at hfl
    have hla: ∀ D,(∀ c,dL D c=dw G b c)→ ∀ c,(match cA c (tN D) 0 with|some (_,v)=>v|none=>Value.int .i64 0)= .int .i64 (dw G b c:Int):=fun D h c=>(Cv D c).trans (by rw [h])
    by_cases hN0:N=0
    · have hN1:=hN.trans hN0
      rw [if_pos hN1,decide_eq_false (fun h=>h hN1)]
      repeat' (first|(apply aa (f:=50);exact rfl;exact rfl;(intro w' hm;exact hck w' _ (Reads.of_own (A:=some _) hm pK)))|(apply ak (f:=72);exact rfl;exact rfl;exact hle _ (MSub.trans hB mS);rintro _ _ ⟨gm,D,rfl,rfl,hD⟩)|(apply aj;exact rfl;apply cH (enc:=aO) (k:=a);exact rfl;exact rfl;exact pK;exact (hla D hD a).trans (by rw [hN1]))|refine sT ?_|refine sS ?_|refine sM fun _=> ?_|(refine sC ?_ ?_<;>intro hb<;>try omega)|fail)
      all_goals first
        |(exfalso;omega)
        |(exact kS eIO rfl rfl rfl rfl (H' := .own none 24 2 0 0 []::F) mS ⟨none,0,rfl,rfl⟩)
        |trace_state
    have hN1:dw G b a≠0:=fun e=>hN0 (hN.symm.trans e)
    rw [if_neg hN1,decide_eq_true hN1,hN]
    have hKl:(aq G).length=G.length:=by rw [aq,Ps]
    have hstp: ∀ n c,dw G b c=n+2→ ∃ i,∃ h:i<(aq G).length,zJ G b (n+1) c=some (aq G)[i]∧dw G b (aq G)[i]=n+1∧vQ G b (n+1) c (aq G)[i]=true∧ ∀ j (hj:j<(aq G).length),j<i→vQ G b (n+1) c (aq G)[j]=false:=fun n c hc=>by
      obtain ⟨d,h1,h2,h3,h4⟩:=uW hc (by omega)
      have h5:=(DY hG (b:=b) (n:=n+1) (c:=c)).symm.trans h1
      obtain ⟨h6,i,h7,rfl,h8⟩:=Sn.1 h5
      exact ⟨i,h7,h1,h3,h6,fun j hj hji=>by simpa using h8 j hji⟩
    generalize aq G=K at hKl hstp hFm
    repeat' (first|(apply aa (f:=50);exact rfl;exact rfl;(intro w' hm;exact hck w' _ (Reads.of_own (A:=some _) hm pK)))|(apply ak (f:=72);exact rfl;exact rfl;exact hle _ (MSub.trans hB mS);rintro _ _ ⟨gm,D,rfl,rfl,hD⟩)|(apply aj;exact rfl;apply cH (enc:=aO) (k:=a);exact rfl;exact rfl;exact pK;exact (hla D hD a).trans (by rw [hN]))|(apply ak (f:=28);exact rfl;exact rfl;exact hFm _ (MSub.trans hB mS);rintro _ _ ⟨Ac,cc,rfl,rfl⟩)|refine sT ?_|refine sS ?_|refine sM fun _=> ?_|(refine sC ?_ ?_<;>intro hb<;>try omega)|fail)
    all_goals try (exfalso;omega)
    rename_i g4 g5 g6 go ga
    have hlk:=hla D hD
    refine ax [0,5,10,11] rfl (fun y:Rf × List Rf × Option Nat × Nat × Nat=> [(12,sl y.2.2.1 y.2.1.length y.2.2.2.1),(13,.pointer (some ⟨y.2.2.2.2,0,none⟩))]) (fun y=> .own y.2.2.1 24 2 y.2.1.length y.2.2.2.1 (y.2.1.flatMap aw):: .box y.2.2.2.2 24 (aw y.1):: .own Ac 24 2 K.length cc (K.flatMap aw):: .obj gm (cw aO (tN D) D.length):: .box g5 24 (aw b)::F) (fun y=>dw G b y.1≠0∧w9 G b N a=y.2.1++(kv G b (dw G b y.1) y.1++ [b])) (fun y=>dw G b y.1) (a,[a],some go,1,ga) ⟨hN1,by dsimp only;rw [hN];rfl⟩ sB mS ?_
    rintro ⟨c,out,A,cap,g13⟩ ⟨hc0',hway⟩
    dsimp only at hc0' hway ⊢
    have hol:out.length≤1000:=by
      have:=congrArg List.length hway
      rw [O2] at this
      omega
    obtain ⟨n,hn⟩: ∃ n,dw G b c=n:=⟨_,rfl⟩
    have hlc:=hlk c
    have hnl:=uh G b c
    rw [hn] at hc0' hway hlc hnl
    by_cases hn1:n=1
    · subst hn1
      rw [xS,O4] at hway
      have hwl:(out++ [b]).length=out.length+1:=by simp
      rw [hway]
      repeat' (first|(apply aj;exact rfl;apply cH (enc:=aO) (k:=c);exact rfl;exact rfl;exact pK;exact hlc)|(apply bU;(iterate 3 exact rfl);(repeat first|exact .hd|apply Sel.tl|apply In.tl);(intro w hm;exact hm.cells_own (by (repeat first|exact .hd|apply Sel.tl|apply In.tl)));exact rfl;(simp [Value.oneCell',sl]);omega;(simp only [maxLen];omega);(intro A2 cap2 hA2))|refine sT ?_|refine sS ?_|refine sN ?_|refine sM fun _=> ?_|(refine sC ?_ ?_<;>intro hb<;>try omega)|fail)
      all_goals first
        |(exfalso;omega)
        | (refine kS eIO rfl rfl rfl rfl (H' := .own A2 24 2 (out.length + 1) cap2 (out.flatMap aw ++ aw b) :: F) mS ⟨A2, cap2, by rw [hwl], ?_⟩
           rw [hwl,Pj,Pd,Pq,Pa])
        |trace_state
    · obtain ⟨n,rfl⟩: ∃ m,n=m+2:=⟨n - 2,by omega⟩
      obtain ⟨i,hi,hs1,hs2,hs3,hs4⟩:=hstp n c hn
      have hway2:w9 G b N a=(out++ [K[i]])++(kv G b (n+1) K[i]++ [b]):=by
        rw [hway,show kv G b (n+2) c=K[i]::kv G b (n+1) K[i] by rw [kv,if_neg (by omega),hs1]]
        simp
      refine bW (A:=Ac) pK (by omega) fun gk hA=> ?_
      subst hA
      have hUc:=hUs c
      have hUlc:=hUl c
      repeat' (first|(apply aj;exact rfl;apply cH (enc:=aO) (k:=c);exact rfl;exact rfl;exact pK;exact hlc)|(apply ak (f:=38);exact rfl;exact rfl;exact hUc _ (MSub.trans hB mS);rintro _ _ ⟨Au,cu,rfl,rfl⟩)|refine sT ?_|refine sS ?_|refine sN ?_|refine sM fun _=> ?_|(refine sC ?_ ?_<;>intro hb<;>try omega)|fail)
      all_goals try (exfalso;omega)
      have hnx: ∀ d,vQ G b (n+1) c d=(decide (dw G b d=n+1) && (aD G c).any fun u=>gQ u.rect d):=fun _=>rfl
      generalize aD G c=U at hUlc hnx
      refine ax [0,5,10,11,12,13,14,50,51] rfl (fun k:Nat=> [(52,.int .i64 (k:Int))]) (fun _=> .own Au 89 6 U.length cu (U.flatMap bQ):: .own A 24 2 out.length cap (out.flatMap aw):: .box g13 24 (aw c):: .own (some gk) 24 2 K.length cc (K.flatMap aw):: .obj gm (cw aO (tN D) D.length):: .box g5 24 (aw b)::F) (fun k=>k≤i) (fun k=>K.length - k) 0 (Pb _) sB mS ?_
      rintro k hki
      have hkl:k<K.length:=by omega
      have hread:=Hq hkl
      have hlx:=hlk K[k]
      have hnk:=hnx K[k]
      have hct:=fun g16 w' (hm:Mem w0 w' (.own Au 89 6 U.length cu (U.flatMap bQ):: .box g16 24 (aw K[k]):: []))=>rk 74 [.pointer (some ⟨g16,0,none⟩)] (fun u=>gQ u.rect K[k]) U (by omega) (sl Au U.length cu) w' (Reads.of_own hm .hd) (fun u w2 H2 hm2=>JK u K[k] g16 w2 (Ro.next (Ro.of_box hm (.tl .hd)) hm2))
      generalize hyU:(U.any fun u=>gQ u.rect K[k])=yes at hnk hct
      by_cases hke:k=i
      · subst hke
        have hpx:=hs3.symm.trans hnk
        rw [hs2] at hlx
        have hyes:yes=true:=by simpa [hs2] using hpx.symm
        rw [hyes] at hct
        have hgo:=hway2
        have hfx:=hs2
        have hlast:(((out++ [K[k]]).flatMap aw).drop (0+(out.length+1 - 1)*2)).take 2=aw K[k]:=by
          have h1:=Hq (L:=out++ [K[k]]) (k:=out.length) (by simp)
          rw [List.getElem_append_right (Ph _)] at h1
          simpa using h1
        rw [Pj,Pd,Pq,Pa] at hlast
        generalize K[k]=x at hread hlx hct hgo hfx hlast
        repeat' (first|(apply aj;exact rfl;apply ag (j:=k);exact rfl;exact rfl;exact hkl)|(apply aj;exact rfl;apply az;exact rfl;exact pK;(first|exact hread|exact hlast);exact rfl)|(apply aj;exact rfl;apply ag (j:=out.length+1 - 1);exact rfl;exact rfl;omega)|(apply dF (id:=16);kernel_rfl;kernel_rfl)|(apply aP;exact rfl;apply cH (enc:=aO) (k:=x);exact rfl;exact rfl;exact pK;exact hlx)|(apply aP;exact rfl;apply cH (enc:=aO) (k:=c);exact rfl;exact rfl;exact pK;exact hlc)|(apply aP;exact rfl;apply dX;exact rfl;exact rfl;omega;(simp only [maxLen];omega))|(apply bz (f:=73);exact rfl;exact rfl;(intro w' hm;exact hct _ w' (MSub.use mS hm)))|(apply bU;(iterate 3 exact rfl);(repeat first|exact .hd|apply Sel.tl|apply In.tl);(intro w hm;exact hm.cells_own (by (repeat first|exact .hd|apply Sel.tl|apply In.tl)));exact rfl;(simp [Value.oneCell',sl]);omega;(simp only [maxLen];omega);(intro A2 cap2 hA2))|refine sT ?_|refine sS ?_|refine sQ ?_|refine sN ?_|refine sNQ ?_|refine sD ?_|refine sM fun _=> ?_|(refine sC ?_ ?_<;>intro hb<;>try omega)|(refine sCQ ?_ ?_<;>intro hb<;>try omega)|fail)
        all_goals try (exfalso;omega)
        refine FB (A:=A2) pK (by omega) fun g2 hg2=> ?_
        subst hg2
        repeat' (first|(apply aj;exact rfl;apply ag (j:=out.length+1 - 1);exact rfl;exact rfl;omega)|(apply aj;exact rfl;apply az;exact rfl;exact pK;exact hlast;exact rfl)|refine sT ?_|refine sS ?_|refine sN ?_|refine sM fun _=> ?_|(refine sC ?_ ?_<;>intro hb<;>try omega)|fail)
        rename_i g13'
        all_goals first
          |(exfalso;omega)
          | (refine ⟨(x, out ++ [x], some g2, cap2, g13'), ⟨by dsimp only; omega, by dsimp only; rw [hfx]; exact hgo⟩, by dsimp only; omega, ?_, by exact sB, ?_⟩
             · dsimp only;rw [List.length_append];exact sB
             · dsimp only;rw [List.length_append,List.flatMap_append,List.flatMap_cons,List.flatMap_nil,List.append_nil];exact mS)
          |trace_state
      · have hnf:=hs4 k hkl (by omega)
        rw [hnf] at hnk
        generalize K[k]=x at hread hlx hct hnk
        by_cases hfx:dw G b x=n+1
        · have hno:yes=false:=by simpa [hfx] using hnk.symm
          rw [hno] at hct
          rw [hfx] at hlx
          repeat' (first|(apply aj;exact rfl;apply ag (j:=k);exact rfl;exact rfl;exact hkl)|(apply aj;exact rfl;apply az;exact rfl;exact pK;exact hread;exact rfl)|(apply dF (id:=16);kernel_rfl;kernel_rfl)|(apply aP;exact rfl;apply cH (enc:=aO) (k:=x);exact rfl;exact rfl;exact pK;exact hlx)|(apply aP;exact rfl;apply cH (enc:=aO) (k:=c);exact rfl;exact rfl;exact pK;exact hlc)|(apply aP;exact rfl;apply dX;exact rfl;exact rfl;omega;(simp only [maxLen];omega))|(apply bz (f:=73);exact rfl;exact rfl;(intro w' hm;exact hct _ w' (MSub.use mS hm)))|refine sT ?_|refine sS ?_|refine sQ ?_|refine sN ?_|refine sNQ ?_|refine sD ?_|refine sM fun _=> ?_|(refine sC ?_ ?_<;>intro hb<;>try omega)|(refine sCQ ?_ ?_<;>intro hb<;>try omega)|fail)
          all_goals first
            |(exfalso;omega)
            |(refine ⟨k+1,by omega,by omega,by exact sB,by exact sB,by exact mS⟩;done)
            |trace_state
        · have hne: ¬ ((dw G b x:Nat):Int)=((n+2 - 1:Nat):Int):=by omega
          generalize dw G b x=fx at hlx hne
          repeat' (first|(apply aj;exact rfl;apply ag (j:=k);exact rfl;exact rfl;exact hkl)|(apply aj;exact rfl;apply az;exact rfl;exact pK;exact hread;exact rfl)|(apply dF (id:=16);kernel_rfl;kernel_rfl)|(apply aP;exact rfl;apply cH (enc:=aO) (k:=x);exact rfl;exact rfl;exact pK;exact hlx)|(apply aP;exact rfl;apply cH (enc:=aO) (k:=c);exact rfl;exact rfl;exact pK;exact hlc)|(apply aP;exact rfl;apply dX;exact rfl;exact rfl;omega;(simp only [maxLen];omega))|(apply bz (f:=73);exact rfl;exact rfl;(intro w' hm;exact hct _ w' (MSub.use mS hm)))|refine sT ?_|refine sS ?_|refine sQ ?_|refine sN ?_|refine sNQ ?_|refine sD ?_|refine sM fun _=> ?_|(refine sC ?_ ?_<;>intro hb<;>try omega)|(refine sCQ ?_ ?_<;>intro hb<;>try omega)|fail)
          all_goals first
            |(exfalso;omega)
            |(refine ⟨k+1,by omega,by omega,by exact sB,by exact sB,by exact mS⟩;done)
            |trace_state
  · rw [if_neg hc0,decide_eq_false hc0,Qa]
    repeat' (first|(apply aa (f:=50);exact rfl;exact rfl;(intro w' hm;exact hck w' _ (Reads.of_own (A:=some _) hm pK)))|refine sT ?_|refine sS ?_|refine sM fun _=> ?_|(refine sC ?_ ?_<;>intro hb<;>try omega)|fail)
    all_goals first
      |(exfalso;omega)
      |(exact kS eIO rfl rfl rfl rfl (H' := .own none 24 2 0 0 []::F) mS ⟨none,0,rfl,rfl⟩)
      |trace_state
end Go.SL
namespace Go.SL
open Go Go.Proofs Go.Sort Go.Shelf
attribute [local irreducible] W WL WQ WG WA WX WLI WR WT WC WE VOp RW thn blk bZ scp bA bV ck FnAt FnIn FnP ceP
def uO (G:Gr) (c:Rf):List Rct:=(c::Ff G c).flatMap fun x=>(aD G x).map fun u=>u.rect
def F4 (L M:List Rct):Bool:=decide (L.Pairwise fun x y=>ltOf cg x y=true) && (L.all fun r=>decide (r∈M)) && M.all fun r=>decide (r∈L)
theorem HV {G:Gr} {c:Rf} {L:List Rct} (h:F4 L (uO G c)=true):dP G c=L:=by
 unfold F4 at h
 simp only [Pm,decide_eq_true_eq,Qo] at h
 refine wF (kJ G c) h.1.1 fun r=> ?_
 have hm:r∈dP G c↔r∈uO G c:=by
  unfold dP uO
  rw [lZ,(ju _).mem_iff,wQ]
 rw [hm]
 exact ⟨h.2 r,h.1.2 r⟩
theorem Ou:fI exG [bB 2 2]= [⟨1,3⟩,⟨1,4⟩]:=by rw [Fm];decide+kernel
theorem Ot:cZ exG ⟨1,4⟩= [⟨1,3⟩]:=by rw [wQ];decide+kernel
theorem Oo:dP exG ⟨1,4⟩= [⟨2,1,2,3⟩,⟨1,3,1,3⟩]:=HV (by decide+kernel)
theorem Om:FX exG ⟨1,4⟩ ⟨2,2⟩= [⟨1,4⟩,⟨1,3⟩,⟨2,2⟩]:=by decide+kernel
theorem Ol:jD exG ⟨1,4⟩ ⟨2,3⟩=true:=by rw [vv];decide+kernel
theorem Ok:jD exG ⟨1,4⟩ ⟨1,4⟩=false:=by rw [vv];decide+kernel
end Go.SL
namespace Go.SL
open Go Go.Proofs
attribute [local irreducible] W WL WQ WG WA WX WLI WR WT WC WE VOp RW thn blk bZ scp bA bV ck FnAt FnIn FnP ceP
theorem kr {G:Gr} (hG:GrOk G) (d:Rf):(aD G d).length≤1000:=PK (xO hG d) (by decide)
structure Rdr (gg:Nat) (G:Gr) (B:List Blk) (w0:World):Prop where
 g:GrOk G
 l:G.length≤900
 ur: ∀ r H,MSub B H→FnIn Tryz.prog 53 [.pointer (some ⟨gg,0,none⟩),.agg (aH r).toArray] w0 H fun v H' => ∃ A cap,v=sl A (cj G r).length cap∧H' = .own A 24 2 (cj G r).length cap ((cj G r).flatMap aw)::H
 fm: ∀ H,MSub B H→FnIn Tryz.prog 28 [.pointer (some ⟨gg,0,none⟩)] w0 H fun v H' => ∃ A cap,v=sl A (aq G).length cap∧H' = .own A 24 2 (aq G).length cap ((aq G).flatMap aw)::H
 us: ∀ d H,MSub B H→FnIn Tryz.prog 38 [.pointer (some ⟨gg,0,none⟩),aO d] w0 H fun v H' => ∃ A cap,v=sl A (aD G d).length cap∧H' = .own A 89 6 (aD G d).length cap ((aD G d).flatMap bQ)::H
section
variable {gg:Nat} {G:Gr} {B F:List Blk} {w0:World} (h:Rdr gg G B w0) (hB:MSub B F)
include h hB
theorem Rdr.above (L:List Rct) (hL:L.length≤1000) (lv:Value) (hrd: ∀ w,Mem w0 w F→Reads w lv L.length (L.flatMap aH)):
  FnIn Tryz.prog 10 [.pointer (some ⟨gg,0,none⟩),lv] w0 F fun v H' => ∃ A cap,v= .tuple #[sl A (eP G L).length cap,.int .i64 (aR [] L)]∧H' = .own A 24 2 (eP G L).length cap ((eP G L).flatMap aw)::F:=KR gg G h.g h.l L hL lv B F hB w0 h.ur hrd
theorem Rdr.below (c:Rf):FnIn Tryz.prog 14 [.pointer (some ⟨gg,0,none⟩),aO c] w0 F fun v H' => ∃ A cap,v= .tuple #[sl A (eO G c).length cap,.int .i64 (aR [c] [])]∧H' = .own A 24 2 (eO G c).length cap ((eO G c).flatMap aw)::F:=KN gg G h.g h.l c B F hB w0 h.fm h.us (kr h.g)
theorem Rdr.leaves (c:Rf):FnIn Tryz.prog 16 [.pointer (some ⟨gg,0,none⟩),aO c] w0 F fun v H' => ∃ A cap,v= .tuple #[sl A (di G c).length cap,.int .i64 (aR [c] [])]∧H' = .own A 53 4 (di G c).length cap ((di G c).flatMap aH)::F:=yZ gg G h.g h.l c B F hB w0 h.fm h.us (kr h.g)
theorem Rdr.reaches (a b:Rf):FnIn Tryz.prog 19 [.pointer (some ⟨gg,0,none⟩),aO a,aO b] w0 F fun v H' =>v= .tuple #[.bool (eR G a b),.int .i64 (aR [a,b] [])]∧H' =F:=Ft gg G h.g h.l a b B F hB w0 h.fm h.us (kr h.g)
theorem Rdr.path (a b:Rf):FnIn Tryz.prog 21 [.pointer (some ⟨gg,0,none⟩),aO a,aO b] w0 F fun v H' => ∃ A cap,v= .tuple #[sl A (iw G a b).length cap,.bool (o7 G a b),.int .i64 (aR [a,b] [])]∧H' = .own A 24 2 (iw G a b).length cap ((iw G a b).flatMap aw)::F:=My gg G h.g h.l a b B F hB w0 h.ur h.fm h.us (kr h.g)
theorem Rdr.above_to {L:List Rct} {M:List Rf} {e:Int} (hM:eP G L=M) (he:aR [] L=e) (hL:L.length≤1000) (lv:Value) (hrd: ∀ w,Mem w0 w F→Reads w lv L.length (L.flatMap aH)):
  FnIn Tryz.prog 10 [.pointer (some ⟨gg,0,none⟩),lv] w0 F fun v H' => ∃ A cap,v= .tuple #[sl A M.length cap,.int .i64 e]∧H' = .own A 24 2 M.length cap (M.flatMap aw)::F:=by
 subst hM he;exact h.above hB L hL lv hrd
theorem Rdr.below_to {c:Rf} {M:List Rf} {e:Int} (hM:eO G c=M) (he:aR [c] []=e):FnIn Tryz.prog 14 [.pointer (some ⟨gg,0,none⟩),aO c] w0 F fun v H' => ∃ A cap,v= .tuple #[sl A M.length cap,.int .i64 e]∧H' = .own A 24 2 M.length cap (M.flatMap aw)::F:=by
 subst hM he;exact h.below hB c
theorem Rdr.leaves_to {c:Rf} {M:List Rct} {e:Int} (hM:di G c=M) (he:aR [c] []=e):FnIn Tryz.prog 16 [.pointer (some ⟨gg,0,none⟩),aO c] w0 F fun v H' => ∃ A cap,v= .tuple #[sl A M.length cap,.int .i64 e]∧H' = .own A 53 4 M.length cap (M.flatMap aH)::F:=by
 subst hM he;exact h.leaves hB c
theorem Rdr.reaches_to {a b:Rf} {y:Bool} {e:Int} (hy:eR G a b=y) (he:aR [a,b] []=e):FnIn Tryz.prog 19 [.pointer (some ⟨gg,0,none⟩),aO a,aO b] w0 F fun v H' =>v= .tuple #[.bool y,.int .i64 e]∧H' =F:=by
 subst hy he;exact h.reaches hB a b
theorem Rdr.path_to {a b:Rf} {M:List Rf} {y:Bool} {e:Int} (hM:iw G a b=M) (hy:o7 G a b=y) (he:aR [a,b] []=e):FnIn Tryz.prog 21 [.pointer (some ⟨gg,0,none⟩),aO a,aO b] w0 F fun v H' => ∃ A cap,v= .tuple #[sl A M.length cap,.bool y,.int .i64 e]∧H' = .own A 24 2 M.length cap (M.flatMap aw)::F:=by
 subst hM hy he;exact h.path hB a b
end
theorem GOk.rdr {R:List Blk} {E:List En} {clock:Nat} {G:Gr} (h:GOk R E clock G) (hG:GrOk G) (hl:G.length≤900) (gg gm:Nat) (w0:World):Rdr gg G (gB gg gm (E.map En.m) clock++R) w0:=
 ⟨hG,hl,fun r _ hs=>h.users_any gg gm hs w0 hl hG r,fun _ hs=>h.formulas_any gg gm hs w0 hl,fun d _ hs=>h.uses_any gg gm hs w0 d⟩
theorem Gp.rdr (x:Gp) {G:Gr} (h:x.ok G) (hl:G.length≤900) (w0:World):Rdr x.gg G x.H w0:=
 ⟨h.g,hl,fun r _ hs=>x.users G h hs w0 hl r,fun _ hs=>x.formulas G h hs w0 hl,fun d _ hs=>x.usesA G h hs w0 d⟩
theorem OY:eP exG [bB 2 2]= [⟨1,3⟩,⟨1,4⟩]:=by rw [eP,if_pos (by decide+kernel)];exact Ou
theorem OX:eO exG ⟨1,4⟩= [⟨1,3⟩]:=by rw [eO,if_pos (by decide+kernel)];exact Ot
theorem OW:di exG ⟨1,4⟩= [⟨2,1,2,3⟩,⟨1,3,1,3⟩]:=by rw [di,if_pos (by decide+kernel)];exact Oo
theorem OV:iw exG ⟨1,4⟩ ⟨2,2⟩= [⟨1,4⟩,⟨1,3⟩,⟨2,2⟩]:=by rw [iw,if_pos (by decide+kernel)];exact Om
theorem Ow:o7 exG ⟨1,4⟩ ⟨2,2⟩=true:=by decide+kernel
theorem OU:eR exG ⟨1,4⟩ ⟨2,3⟩=true:=by rw [eR,Ol];decide+kernel
theorem Ov:eR exG ⟨1,4⟩ ⟨1,4⟩=false:=by rw [eR,Ok,Qv]
theorem pz {L M:List Rct} (h:L=M) {lv mv:Value} {w:World} (hl:Reads w lv L.length (L.flatMap aH)) (hm:Reads w mv M.length (M.flatMap aH)):aF Tryz.prog 18 [lv,mv] w (.bool true):=by
 have:=xA L M lv mv w hl hm
 rwa [decide_eq_true h] at this
set_option maxHeartbeats 4000000 in
theorem Fg (w:World) (hW:Words w):aF Tryz.prog 25 [] w (.bool true):=by
 have hN: ∀ (w' :World) (H:List Blk) (tv:Value),Mem w w' H→Reads w' tv exL.length (exL.flatMap pu)→FnAt Tryz.prog 34 [tv] w' fun v H=> ∃ gg gm E clock R,v= .tuple #[.pointer (some ⟨gg,0,none⟩),.int .i64 0]∧H=gB gg gm (E.map En.m) clock++R∧GOk R E clock exG:=by
  intro w' H tv hm ht
  have h1:=KI exL tv w' ht (by decide) (hW.next hm)
  rw [Kg] at h1
  exact h1
 refine aA Tryz.func25 rfl Tryz.ntmps25 rfl ?_
 repeat' (first|(apply aS (f:=85);exact rfl;exact rfl;(intro w' hm;exact Fx w');rintro _ _ ⟨ge,rfl,rfl⟩)|(apply aS (f:=34);exact rfl;exact rfl;(intro w' hm;exact hN w' _ _ hm (Reads.of_own (A:=some _) hm pK));rintro _ _ ⟨gg,gm,E,clock,R,rfl,rfl,hG⟩;refine y8 (gB gg gm (E.map En.m) clock++R) (MSub.appL _ _) ?_)|(apply aa;exact rfl;exact rfl;(intro w hm;exact Hp _ _ w))|(apply aa;exact rfl;exact rfl;(intro w hm;exact Aw _ w))|(apply ak (f:=10);exact rfl;exact rfl;exact (hG.rdr rY (by decide) gg gm w).above_to mS OY (by decide+kernel:_=(0:Int)) (by decide) _ (fun w' hm=>Reads.of_own (A:=some _) hm pK);rintro _ _ ⟨A1,c1,rfl,rfl⟩)|(apply ak (f:=14);exact rfl;exact rfl;exact (hG.rdr rY (by decide) gg gm w).below_to mS OX (by decide+kernel:_=(0:Int));rintro _ _ ⟨A2,c2,rfl,rfl⟩)|(apply ak (f:=16);exact rfl;exact rfl;exact (hG.rdr rY (by decide) gg gm w).leaves_to mS OW (by decide+kernel:_=(0:Int));rintro _ _ ⟨A3,c3,rfl,rfl⟩)|(apply ak (f:=21);exact rfl;exact rfl;exact (hG.rdr rY (by decide) gg gm w).path_to mS OV Ow (by decide+kernel:_=(0:Int));rintro _ _ ⟨A4,c4,rfl,rfl⟩)|(apply ak (f:=19);exact rfl;exact rfl;exact (hG.rdr rY (by decide) gg gm w).reaches_to (a:=⟨1,4⟩) (b:=⟨2,3⟩) mS OU (by decide+kernel:_=(0:Int));rintro _ _ ⟨rfl,rfl⟩)|(apply ak (f:=19);exact rfl;exact rfl;exact (hG.rdr rY (by decide) gg gm w).reaches_to (a:=⟨1,4⟩) (b:=⟨1,4⟩) mS Ov (by decide+kernel:_=(0:Int));rintro _ _ ⟨rfl,rfl⟩)|(apply aa (f:=13);exact rfl;exact rfl;(intro w' hm;exact iD rfl (Reads.of_own hm pK) (Reads.of_own (A:=some _) hm pK)))|(apply aa (f:=18);exact rfl;exact rfl;(intro w' hm;exact pz rfl (Reads.of_own hm pK) (Reads.of_own (A:=some _) hm pK)))|refine sT ?_|refine sS ?_|refine sM fun _=> ?_|(refine sC ?_ ?_<;>intro hb<;>try omega)|fail)
 all_goals first
  |(exfalso;omega)
  |((refine rT1 ?_);rfl)
  |trace_state
theorem In.of_mem {b:Blk}: ∀ {H:List Blk},b∈H→In b H
 | [],h=>by cases h
 |a::H,h=>by
  by_cases e:b=a
  ·
   subst e;exact .hd
  ·
   exact .tl (In.of_mem (by rcases PF.1 h with h|h;exact absurd h e;exact h))
end Go.SL
