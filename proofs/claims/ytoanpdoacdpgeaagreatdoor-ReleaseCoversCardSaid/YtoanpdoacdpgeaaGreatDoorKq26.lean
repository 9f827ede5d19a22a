/-
  Lemmas and walks, put together: Ij Oa.
-/
import Derived.Test.YtoanpdoacdpgeaaGreatDoorKq24
set_option linter.unusedSimpArgs false
set_option linter.unusedVariables false
set_option maxRecDepth 20000
namespace Go.SL
open Go Go.Proofs
attribute [local irreducible] W WL WQ WG WA WX WLI WR WT WC WE VOp RW thn blk bE scp aV bo bI aK FnIn FnP ceP
theorem CG (o:Ox) (e:Et) (go:Nat) (w:World) (ho:Ro w go 0 (bO o)):ay Tryz.prog 44 [.agg (aJ e).toArray,.pointer (some ⟨go,0,none⟩)] w (.bool (fj o.rect e.at_)):=by
 refine aq Tryz.func44 rfl Tryz.ntmps44 rfl ?_
 have h1:=fun w=>Mb o.rect e.at_ w
 generalize fj o.rect e.at_=c at h1 ⊢
 have ho2:=(Ox.ro ho).1
 repeat' (first|(apply aa;exact rfl;exact rfl;(intro w hm;exact h1 w))|refine sT ?_|refine sO ?_|refine sM fun _=> ?_|(refine sC ?_ ?_<;>intro hb<;>try omega)|fail)
 all_goals first|(exfalso;omega)|((refine rT1 ?_);rfl)
theorem M4 {L:List Et} {k:Nat} (h:k<L.length):((L.flatMap aJ).drop (0+k*3)).take 3=aJ L[k]:=by
 rw [RB];exact dG bJ L k h
section
variable (L:List Et) (o:Ox) (go:Nat) (cap:Nat) (R:List Blk) (w0:World)
def iH (o:Ox) (e:Et):Bool:= !fj o.rect e.at_
def K1 (o:Ox) (L:List Et):Int:=match L.findIdx? (fun e=>fj o.rect e.at_) with|some i=>(i:Int)|none=> -1
theorem xN {o:Ox} {L:List Et} {i:Nat} (h:i<L.length) (hq:fj o.rect L[i].at_=true) (hno: ∀ j (h:j<L.length),j<i→fj o.rect L[j].at_=false):K1 o L=(i:Int)∧L.filter (iH o)=L.take i++(L.drop (i+1)).filter (iH o):=by
 constructor
 ·
  have:L.findIdx? (fun e=>fj o.rect e.at_)=some i:=by
   rw [SP]
   exact ⟨h,hq,fun j hj=>by simpa using hno j (by omega) hj⟩
  unfold K1;rw [this]
 ·
  have h1:(L.take i).filter (iH o)=L.take i:=List.filter_eq_self.2 fun e he=>by
   obtain ⟨j,hj,rfl⟩:=TD.1 he
   rw [Rq] at hj
   rw [Ug]
   simp [iH,hno j (by omega) (by omega)]
  conv=>lhs;rw [← Si i L]
  rw [Ud,h1,QY h,TH,if_neg (by simp [iH,hq])]
theorem xO {o:Ox} {L:List Et} (hno: ∀ j (h:j<L.length),fj o.rect L[j].at_=false):K1 o L= -1∧L.filter (iH o)=L:=by
 constructor
 ·
  have:L.findIdx? (fun e=>fj o.rect e.at_)=none:=by
   rw [SG]
   intro e he
   obtain ⟨j,hj,rfl⟩:=TD.1 he
   exact hno j hj
  unfold K1;rw [this]
 ·
  refine List.filter_eq_self.2 fun e he=> ?_
  obtain ⟨j,hj,rfl⟩:=TD.1 he
  simp [iH,hno j hj]
theorem K0 (B:Option Addr) (cap:Nat) (fv:Value) (F:List Blk) (w0:World):
  FnIn Tryz.prog 104 [.slice B 0 cap,fv] w0 F fun v H=>v= .int .i64 (-1)∧H=F:=by
 refine dD Tryz.func104 rfl Tryz.ntmps104 rfl ?_
 repeat' (first|refine sT ?_|refine sS ?_|refine sM fun _=> ?_|(refine sC ?_ ?_<;>intro hb<;>try omega)|fail)
 refine ax [7] rfl (fun _:Unit=> [(8,.int .i64 0)]) (fun _=>F) (fun _=>True) (fun _=>0) () trivial sB mS ?_
 rintro _ _
 repeat' (first|refine sT ?_|refine sS ?_|refine sM fun _=> ?_|(refine sC ?_ ?_<;>intro hb<;>try omega)|fail)
 all_goals first
  |(exfalso;omega)
  |(refine cH eIO rfl rfl (.refl _) ?_;exact ⟨rfl,rfl⟩)
set_option maxHeartbeats 4000000 in
theorem Nt (g:Nat) (hL:L.length≤1000000) (hgo:In (.box go 37 (bO o)) R):
    FnIn Tryz.prog 104 [.slice (some ⟨g,0,none⟩) L.length cap,.func (.func 44) #[] #[.pointer (some ⟨go,0,none⟩)]] w0 (.own (some g) 52 3 L.length cap (L.flatMap aJ)::R) fun v H=>v= .int .i64 (K1 o L)∧H= .own (some g) 52 3 L.length cap (L.flatMap aJ)::R:=by
  refine dD Tryz.func104 rfl Tryz.ntmps104 rfl ?_
  have hP:=fun (e:Et) (w' :World) (H:List Blk) (hi:In (.box go 37 (bO o)) H) (hm:Mem w0 w' H)=>CG o e go w' (Ro.of_box hm hi)
  repeat' (first|refine sT ?_|refine sS ?_|refine sM fun _=> ?_|(refine sC ?_ ?_<;>intro hb<;>try omega)|fail)
  refine ax [0,1,7] rfl (fun i:Nat=> [(8,.int .i64 (i:Int))]) (fun _=> .own (some g) 52 3 L.length cap (L.flatMap aJ)::R) (fun i=>i≤L.length∧ ∀ j (h:j<L.length),j<i→fj o.rect L[j].at_=false) (fun i=>L.length - i) 0 ⟨by omega,fun j _ h=>by omega⟩ sB mS ?_
  rintro i ⟨hi,hno⟩
  by_cases hlt:i<L.length
  · have hr1:=M4 hlt
    have hP1:=hP L[i]
    obtain ⟨c,hc⟩: ∃ c,fj o.rect L[i].at_=c:=⟨_,rfl⟩
    rw [hc] at hP1
    cases c
    · repeat' (first|(apply ak;exact rfl;apply aj (j:=i);exact rfl;exact rfl;omega)|(apply ak;exact rfl;apply aM;exact rfl;exact pK;exact hr1;exact rfl)|(apply bM (f:=44);exact rfl;exact rfl;infer_instance;exact rfl;(intro w' hm;exact hP1 w' _ (.tl hgo) hm))|refine sT ?_|refine sS ?_|refine sN ?_|refine sM fun _=> ?_|(refine sC ?_ ?_<;>intro hb<;>try omega)|fail)
      all_goals first
        |(exfalso;omega)
        | (refine ⟨i + 1, ⟨hlt, fun j hj hji => ?_⟩, by omega, by exact sB, by exact sB, by exact mS⟩
           rcases (by omega:j<i∨j=i) with h|rfl
           · exact hno j hj h
           · exact hc)
    · repeat' (first|(apply ak;exact rfl;apply aj (j:=i);exact rfl;exact rfl;omega)|(apply ak;exact rfl;apply aM;exact rfl;exact pK;exact hr1;exact rfl)|(apply bM (f:=44);exact rfl;exact rfl;infer_instance;exact rfl;(intro w' hm;exact hP1 w' _ (.tl hgo) hm))|refine sT ?_|refine sS ?_|refine sN ?_|refine sM fun _=> ?_|(refine sC ?_ ?_<;>intro hb<;>try omega)|fail)
      all_goals first
        |(exfalso;omega)
        |(refine cH eIO rfl rfl (.refl _) ?_;rw [(xN hlt hc hno).1];exact ⟨rfl,rfl⟩)
  · have e:=(xO (o:=o) (L:=L) fun j hj=>hno j hj (by omega)).1
    repeat' (first|refine sT ?_|refine sS ?_|refine sM fun _=> ?_|(refine sC ?_ ?_<;>intro hb<;>try omega)|fail)
    all_goals first
      |(exfalso;omega)
      |(refine cH eIO rfl rfl (.refl _) ?_;rw [e];exact ⟨rfl,rfl⟩)
set_option maxHeartbeats 8000000 in
theorem NK (A:Option Nat) (hL:L.length≤1000000) (hgo:In (.box go 37 (bO o)) R):
    FnIn Tryz.prog 43 [sl A L.length cap,.func (.func 44) #[] #[.pointer (some ⟨go,0,none⟩)]] w0 (.own A 52 3 L.length cap (L.flatMap aJ)::R) fun v H=>v=sl A (L.filter (iH o)).length cap∧H= .own A 52 3 (L.filter (iH o)).length cap ((L.filter (iH o)).flatMap aJ)::R:=by
  refine dD Tryz.func43 rfl Tryz.ntmps43 rfl ?_
  refine OI (A:=A) .hd fun hle=> ?_
  rcases Sf L.length with h0|hpos
  · have e:L= []:=RK h0
    subst e
    have hI:=K0 (A.map fun g=>⟨g,0,none⟩) cap (.func (.func 44) #[] #[.pointer (some ⟨go,0,none⟩)]) (.own A 52 3 0 cap []::R) w0
    repeat' (first|(apply aw (f:=104);exact rfl;exact rfl;exact hI;rintro _ _ ⟨rfl,rfl⟩)|refine sT ?_|refine sS ?_|refine sN ?_|refine sM fun _=> ?_|(refine sC ?_ ?_<;>intro hb<;>try omega)|fail)
    all_goals first
      |(exfalso;omega)
      |(refine cH eIO rfl rfl (.refl _) ?_;exact ⟨rfl,rfl⟩)
  · refine eH (A:=A) .hd hpos fun g hA=> ?_
    subst hA
    have hP:=fun (e:Et) (w' :World) (H:List Blk) (hi:In (.box go 37 (bO o)) H) (hm:Mem w0 w' H)=>CG o e go w' (Ro.of_box hm hi)
    have hI:=Nt L o go cap R w0 g hL hgo
    rcases hfi:L.findIdx? (fun e=>fj o.rect e.at_) with _|k
    · have hno: ∀ j (h:j<L.length),fj o.rect L[j].at_=false:=fun j hj=>by
        simpa using SG.1 hfi L[j] (RQ hj)
      obtain ⟨e1,e2⟩:=xO (o:=o) (L:=L) hno
      rw [e1] at hI
      rw [e2]
      repeat' (first|(apply aw (f:=104);exact rfl;exact rfl;exact hI;rintro _ _ ⟨rfl,rfl⟩)|refine sT ?_|refine sS ?_|refine sN ?_|refine sM fun _=> ?_|(refine sC ?_ ?_<;>intro hb<;>try omega)|fail)
      all_goals first
        |(exfalso;omega)
        |(refine cH eIO rfl rfl (.refl _) ?_;exact ⟨rfl,rfl⟩)
    · obtain ⟨hkl,hq,hno⟩:=SP.1 hfi
      obtain ⟨e1,e2⟩:=xN (o:=o) (L:=L) hkl hq fun j hj hjk=>by simpa using hno j hjk
      rw [e1] at hI
      rw [e2]
      repeat' (first|(apply aw (f:=104);exact rfl;exact rfl;exact hI;rintro _ _ ⟨rfl,rfl⟩)|refine sT ?_|refine sS ?_|refine sN ?_|refine sM fun _=> ?_|(refine sC ?_ ?_<;>intro hb<;>try omega)|fail)
      all_goals try (exfalso;omega)
      refine ax [0,1] rfl (fun y:Nat × Nat × List Et=> [(6,.int .i64 (y.1:Int)),(5,.int .i64 (y.2.1:Int))]) (fun y=> .own (some g) 52 3 L.length cap (y.2.2.flatMap aJ)::R) (fun y=>k+1≤y.1∧y.1≤L.length∧y.2.1<y.1∧y.2.2.length=L.length∧y.2.2.take y.2.1=L.take k++((L.drop (k+1)).take (y.1 - (k+1))).filter (iH o)∧ ∀ j,y.1≤j→y.2.2[j]? =L[j]?) (fun y=>L.length - y.1) (k+1,k,L) ⟨QV _,by omega,Tv k,rfl,by simp,fun _ _=>rfl⟩ sB mS ?_
      rintro ⟨j,i,ys⟩ ⟨hj1,hj2,hij,hyl,hyt,hyj⟩
      dsimp only at hj1 hj2 hij hyl hyt hyj ⊢
      by_cases hlt:j<L.length
      · have hjy:j<ys.length:=by omega
        have hr1:=M4 (L:=ys) hjy
        have he1:ys[j]=L[j]:=by
          have:=hyj j (by omega)
          rw [QQ hjy,QQ hlt] at this
          exact Option.some.inj this
        rw [he1] at hr1
        have hst:((L.drop (k+1)).take (j+1 - (k+1))).filter (iH o)=((L.drop (k+1)).take (j - (k+1))).filter (iH o)++(if iH o L[j] then [L[j]] else []):=by
          rw [show j+1 - (k+1)=j - (k+1)+1 by omega,Rg (by rw [Rk];omega),Ud,List.getElem_drop]
          congr 1
          rw [show L[k+1+(j - (k+1))]'(by omega)=L[j] by congr 1;omega,TH,List.filter_nil]
        have hP1:=hP L[j]
        obtain ⟨c,hc⟩: ∃ c,fj o.rect L[j].at_=c:=⟨_,rfl⟩
        rw [hc] at hP1
        cases c with
        |true=>
          rw [if_neg (by simp [iH,hc]),QW] at hst
          repeat' (first|(apply ak;exact rfl;apply aj (j:=j);exact rfl;exact rfl;omega)|(apply ak;exact rfl;apply aM;exact rfl;exact pK;exact hr1;exact rfl)|(apply bM (f:=44);exact rfl;exact rfl;infer_instance;exact rfl;(intro w' hm;exact hP1 w' _ (.tl (.tl hgo)) hm))|refine sT ?_|refine sS ?_|refine sN ?_|refine sM fun _=> ?_|(refine sC ?_ ?_<;>intro hb<;>try omega)|fail)
          all_goals first
            |(exfalso;omega)
            |(refine ⟨(j+1,i,ys),⟨by dsimp only;omega,by dsimp only;omega,by dsimp only;omega,hyl,by dsimp only;rw [hyt,hst],fun t ht=>hyj t (by dsimp only at ht;omega)⟩,by dsimp only;omega,by exact sB,by exact sB,by exact mS⟩;done)
        |false=>
          rw [if_pos (by simp [iH,hc])] at hst
          have hput:=Cd bJ ys i (by omega) L[j]
          repeat' (first|(apply ak;exact rfl;apply aj (j:=j);exact rfl;exact rfl;omega)|(apply ak;exact rfl;apply aj (j:=i);exact rfl;exact rfl;omega)|(apply ak;exact rfl;apply aM;exact rfl;exact pK;exact hr1;exact rfl)|(apply bM (f:=44);exact rfl;exact rfl;infer_instance;exact rfl;(intro w' hm;exact hP1 w' _ (.tl (.tl hgo)) hm))|(apply ug (vs:=aJ L[j]) (off:=0+i*3);exact rfl;exact rfl;exact pK;exact rfl;exact rfl;(intro u hu;simp [aJ] at hu;rcases hu with rfl|rfl|rfl<;>rfl);(rw [aP bJ,hyl];omega);rw [RB,hput])|refine sT ?_|refine sS ?_|refine sN ?_|refine sM fun _=> ?_|(refine sC ?_ ?_<;>intro hb<;>try omega)|fail)
          all_goals first
            |(exfalso;omega)
            | (refine ⟨(j + 1, i + 1, ys.set i L[j]), ⟨by dsimp only; omega, by dsimp only; omega, by dsimp only; omega, by dsimp only; rw [List.length_set, hyl], ?_, fun t ht => ?_⟩, by dsimp only; omega, by exact sB, by exact sB, by exact mS⟩
               · dsimp only
                 rw [Rg (by rw [Tn];omega),List.take_set_of_le (QV _),hyt,List.getElem_set_self,hst,Rx]
               · dsimp only at ht ⊢
                 rw [List.getElem?_set_ne (by omega)]
                 exact hyj t (by omega))
      · have hjl:j=L.length:=by omega
        have htk:(L.drop (k+1)).take (L.length - (k+1))=L.drop (k+1):=RS (by rw [Rk];exact QV _)
        rw [hjl,htk] at hyt
        have hcl:(L.take k++(L.drop (k+1)).filter (iH o)).length=i:=by rw [← hyt,Rq,hyl];omega
        have hiL:i<L.length:=by omega
        repeat' (first|(apply ak;exact rfl;apply qZ (lo:=i);exact rfl;exact rfl;omega;exact hle)|(apply zT (sz:=3) (k:=i) (n' :=L.length);exact rfl;omega;exact pK;(intro u hu;simp [Value.cells] at hu;rcases hu with rfl|rfl<;>rfl);exact rfl)|(apply ak;exact rfl;apply xe (hi:=i);exact rfl;exact rfl;omega)|refine sT ?_|refine sS ?_|refine sN ?_|refine sM fun _=> ?_|(refine sC ?_ ?_<;>intro hb<;>try omega)|fail)
        all_goals first
          |(exfalso;omega)
          | (refine cH eIO rfl rfl (H' := .own (some g) 52 3 i cap ((ys.flatMap aJ).take (i * 3)) :: R) mS ?_
             rw [jC bJ,hyt,hcl]
             exact ⟨rfl,rfl⟩)
end
theorem NV (x:BitVec 64) (m:Nat) (h:m<64):(x &&& 1#64<<<m=0#64)↔x.getLsbD m=false:=by
 have hb: ∀ m:Fin 64,∀ i:Fin 64,(1#64<<<m.val).getLsbD i.val=decide (i.val=m.val):=by decide+kernel
 constructor
 ·
  intro e
  have h1:(x &&& 1#64<<<m).getLsbD m=false:=by rw [e];simp
  rw [Tg,hb ⟨m,h⟩ ⟨m,h⟩] at h1
  simpa using h1
 ·
  intro e
  apply TM
  intro i hi
  rw [Tg,hb ⟨m,h⟩ ⟨i,hi⟩]
  by_cases e2:i=m
  ·
   subst e2;rw [e];simp
  ·
   simp [e2]
theorem y6 (u:Int) (w:World):ay Tryz.prog 110 [.int .i64 u] w (.bool (decide (0≤u) && decide (u<64))):=by
 refine aq Tryz.func110 rfl Tryz.ntmps110 rfl ?_
 repeat' (first|refine sT ?_|refine sM fun _=> ?_|(refine sC ?_ ?_<;>intro hb<;>try omega)|fail)
 all_goals first|(exfalso;omega)|((refine rT1 ?_);simp;omega)|((refine rT1 ?_);simp_all;done)
theorem Bl (x:BitVec 64) (u:Int) (w:World):ay Tryz.prog 145 [vS x,.int .i64 u] w (.bool (fZ x u)):=by
 refine aq Tryz.func145 rfl Tryz.ntmps145 rfl ?_
 have hU:=fun w=>y6 u w
 by_cases h:0≤u∧u<64
 ·
  obtain ⟨m,rfl⟩: ∃ m:Nat,u=(m:Int):=⟨u.toNat,by omega⟩
  have hm:m<64:=by omega
  have hB:=fun w=>xF m (by omega) w
  have hs:=NV x m hm
  have he:fZ x (m:Int)=x.getLsbD m:=by simp [fZ];omega
  rw [he]
  rw [decide_eq_true h.1,decide_eq_true h.2] at hU
  cases hx:x.getLsbD m
  ·
   have hz:=hs.2 hx
   repeat' (first|(apply aa;exact rfl;exact rfl;(intro w hm;exact hU w))|(apply aa;exact rfl;exact rfl;(intro w hm;exact hB w))|(apply ak;exact rfl;apply tQ (b:=1#64<<<m);exact rfl;exact rfl)|(apply ak;exact rfl;apply gI (b:=0#64);exact rfl;exact rfl)|refine sT ?_|refine sM fun _=> ?_|(refine sC ?_ ?_<;>intro hb<;>try omega)|fail)
   all_goals first|(exfalso;omega)|((refine rT1 ?_);simp [hz];done)
  ·
   have hz: ¬ (x &&& 1#64<<<m=0#64):=fun e=>by rw [hs.1 e] at hx;cases hx
   repeat' (first|(apply aa;exact rfl;exact rfl;(intro w hm;exact hU w))|(apply aa;exact rfl;exact rfl;(intro w hm;exact hB w))|(apply ak;exact rfl;apply tQ (b:=1#64<<<m);exact rfl;exact rfl)|(apply ak;exact rfl;apply gI (b:=0#64);exact rfl;exact rfl)|refine sT ?_|refine sM fun _=> ?_|(refine sC ?_ ?_<;>intro hb<;>try omega)|fail)
   all_goals first|(exfalso;omega)|((refine rT1 ?_);simp [hz];done)
 ·
  have he:fZ x u=false:=by
   unfold fZ
   by_cases h1:0≤u
   ·
    have h2: ¬ u<64:=fun h2=>h ⟨h1,h2⟩
    simp [h2]
   ·
    simp [h1]
  have hf:(decide (0≤u) && decide (u<64))=false:=by
   rw [← TW,QZ,decide_eq_true_eq,decide_eq_true_eq];exact h
  rw [hf] at hU
  rw [he]
  repeat' (first|(apply aa;exact rfl;exact rfl;(intro w hm;exact hU w))|refine sT ?_|refine sM fun _=> ?_|(refine sC ?_ ?_<;>intro hb<;>try omega)|fail)
  all_goals first|(exfalso;omega)|((refine rT1 ?_);rfl)
theorem Bi (x:Ox) (w:World):ay Tryz.prog 49 [.agg (bO x).toArray] w (.bool (kH x.kind)):=by
 refine aq Tryz.func49 rfl Tryz.ntmps49 rfl ?_
 repeat' (first|refine sT ?_|refine sS ?_|refine sM fun _=> ?_|(refine sC ?_ ?_<;>intro hb<;>try omega)|fail)
 all_goals first
  |(exfalso;omega)
  |((refine rT1 ?_);simp_all [kH];done)
theorem y4 (k:Int) (w:World):ay Tryz.prog 49 [.agg (bO (qO k)).toArray] w (.bool (kH k)):=Bi (qO k) w
theorem y5 (a:Rf) (w:World):ay Tryz.prog 72 [.agg (bh a).toArray] w (.bool a.valid):=by
 refine aq Tryz.func72 rfl Tryz.ntmps72 rfl ?_
 have h:a.valid=true↔(1≤a.col∧a.col≤1024∧1≤a.row∧a.row≤1024):=by
  show valid a.col a.row=true↔_
  rw [xa]
 by_cases hk:a.valid=true
 ·
  have hk2:=h.1 hk
  rw [hk]
  repeat' (first|refine sT ?_|refine sM fun _=> ?_|(refine sC ?_ ?_<;>intro hb<;>try omega)|fail)
  all_goals first|(exfalso;omega)|((refine rT1 ?_);simp;omega)|((refine rT1 ?_);rfl)
 ·
  have hk2:=fun x=>hk (h.2 x)
  rw [show a.valid=false by simpa using hk]
  repeat' (first|refine sT ?_|refine sM fun _=> ?_|(refine sC ?_ ?_<;>intro hb<;>try omega)|fail)
  all_goals first|(exfalso;omega)|((refine rT1 ?_);rfl)|((refine rT1 ?_);exact congrArg Value.bool (decide_eq_false fun hz=>hk2 ⟨by omega,by omega,by omega,by omega⟩))
theorem Bj (fn:Int) (w:World):ay Tryz.prog 152 [.int .u8 fn] w (.bool (decide (46≤fn) && decide (fn≤50))):=by
 refine aq Tryz.func152 rfl Tryz.ntmps152 rfl ?_
 repeat' (first|refine sT ?_|refine sM fun _=> ?_|(refine sC ?_ ?_<;>intro hb<;>try omega)|fail)
 all_goals first|(exfalso;omega)|((refine rT1 ?_);simp;omega)|((refine rT1 ?_);simp_all;done)
def kM (all:BitVec 64) (last:Int) (x:Ev):Int:=
 if x.step≤last then 12 else if (kH x.kind && fZ all x.user)=false then 2 else if aD x.rect=false then 3 else if (decide (x.to &&& ~~~all=0#64) && fZ x.to x.user)=false then 2 else 0
theorem iG (all:BitVec 64) (last:Int) (x:Ev) (l:List Ev):ep all last (x::l)=if kM all last x≠0 then kM all last x else ep all x.step l:=by
 rw [ep,kM]
 split
 ·
  rfl
 split
 ·
  rfl
 split
 ·
  rfl
 split<;>rfl
def jb (all:BitVec 64) (last:Int) (x:Rv):Int:=
 if x.step<last then 12 else if (x.call.at_.valid && aD x.rect)=false then 3 else if DJ all x=false then 2 else 0
theorem ik (all:BitVec 64) (last:Int) (x:Rv) (l:List Rv):dR all last (x::l)=if jb all last x≠0 then jb all last x else dR all x.step l:=by
 rw [dR,jb]
 split
 ·
  rfl
 split
 ·
  rfl
 split<;>rfl
set_option maxHeartbeats 4000000 in
theorem EI (u:Int) (hu: ¬ (u<0∨64<u∨u=0)) (last:Int) (x:Ev) (w:World):ay Tryz.prog 120 [.int .i64 u,.int .i64 last,.agg (bf x).toArray] w (.int .i64 (kM (cM u).1 last x)):=by
 refine aq Tryz.func120 rfl Tryz.ntmps120 rfl ?_
 have hM:=fun w=>y4 x.kind w
 have hR:=fun w=>j9 x.rect w
 have hW:=fun w=>js x.to u w
 have hH:=fun w=>Bl x.to x.user w
 unfold kM
 rw [qy hu]
 generalize kH x.kind=mk at hM ⊢
 generalize aD x.rect=ro at hR ⊢
 generalize fZ x.to x.user=hs at hH ⊢
 generalize (cM u).1=sa at hW ⊢
 generalize decide (x.to &&& ~~~sa=0#64)=wi at hW ⊢
 repeat' (first|(apply aa;exact rfl;exact rfl;(intro w hm;exact hM w))|(apply aa;exact rfl;exact rfl;(intro w hm;exact hR w))|(apply aa;exact rfl;exact rfl;(intro w hm;exact hW w))|(apply aa;exact rfl;exact rfl;(intro w hm;exact hH w))|refine sT ?_|refine sS ?_|refine sM fun _=> ?_|(refine sC ?_ ?_<;>intro hb<;>try omega)|fail)
 all_goals first
  |(exfalso;omega)
  |((refine rT1 ?_);simp_all;done)
  |((refine rT1 ?_);simp_all;omega)
set_option maxHeartbeats 4000000 in
theorem yU (u:Int) (last:Int) (x:Rv) (w:World):ay Tryz.prog 121 [.int .i64 u,.int .i64 last,.agg (aO x).toArray] w (.int .i64 (jb (cM u).1 last x)):=by
 refine aq Tryz.func121 rfl Tryz.ntmps121 rfl ?_
 have hA:=fun w=>y5 x.call.at_ w
 have hR:=fun w=>j9 x.rect w
 have hL:=fun w=>Bj x.fn w
 have hW:=fun w=>js x.to u w
 unfold jb DJ
 generalize x.call.at_.valid=va at hA ⊢
 generalize aD x.rect=ro at hR ⊢
 generalize (cM u).1=sa at hW ⊢
 generalize decide (x.to &&& ~~~sa=0#64)=wi at hW ⊢
 repeat' (first|(apply aa;exact rfl;exact rfl;(intro w hm;exact hA w))|(apply aa;exact rfl;exact rfl;(intro w hm;exact hR w))|(apply aa;exact rfl;exact rfl;(intro w hm;exact hL w))|(apply aa;exact rfl;exact rfl;(intro w hm;exact hW w))|refine sT ?_|refine sS ?_|refine sM fun _=> ?_|(refine sC ?_ ?_<;>intro hb<;>try omega)|fail)
 all_goals first
  |(exfalso;omega)
  |((refine rT1 ?_);simp_all;done)
  |((refine rT1 ?_);simp_all;omega)
set_option maxHeartbeats 8000000 in
theorem wV (u:Int) (L:List Ev) (M:List Rv) (lv mv:Value) (w:World) (hl:Reads w lv L.length (L.flatMap bf)) (hm:Reads w mv M.length (M.flatMap aO)):ay Tryz.prog 65 [.int .i64 u,lv,mv] w (.int .i64 (rV u L M)):=by
 obtain ⟨Al,cl,rfl,hl1,hl2,hl3⟩:=hl
 obtain ⟨Am,cm,rfl,hm1,hm2,hm3⟩:=hm
 refine aq Tryz.func65 rfl Tryz.ntmps65 rfl ?_
 unfold rV
 by_cases h1:u<0∨64<u∨u=0
 ·
  rw [if_pos h1]
  repeat' (first|refine sT ?_|refine sM fun _=> ?_|(refine sC ?_ ?_<;>intro hb<;>try omega)|fail)
  all_goals first|(exfalso;omega)|((refine rT1 ?_);rfl)
 rw [if_neg h1]
 have hE:=fun last (x:Ev) w=>EI u h1 last x w
 have hR:=fun last (x:Rv) w=>yU u last x w
 generalize (cM u).1=sa at hE hR ⊢
 obtain ⟨ef,hef⟩: ∃ ef,ep sa (-1) L=ef:=⟨_,rfl⟩
 rw [hef]
 repeat' (first|refine sT ?_|refine sS ?_|refine sM fun _=> ?_|(refine sC ?_ ?_<;>intro hb<;>try omega)|fail)
 all_goals try (exfalso;omega)
 refine ax [0,1,2] rfl (fun i:Nat=> [(7,.int .i64 (kJ L i)),(8,.int .i64 (i:Int))]) (fun _=> []) (fun i=>i≤L.length∧ef=ep sa (kJ L i) (L.drop i)) (fun i=>L.length - i) 0 ⟨QX _,hef.symm⟩ sB mS ?_
 rintro i ⟨hi,hrec⟩
 by_cases hlt:i<L.length
 ·
  obtain ⟨gl,ol,rfl,hrl⟩:=hl3 (by omega)
  have he1:=hrl.elem gC i hlt
  have hnext:kJ L (i+1)=L[i].step:=by unfold kJ;rw [if_neg (by omega),SF,QQ hlt];rfl
  rw [QY hlt,iG] at hrec
  generalize kJ L i=last at hrec
  generalize L[i]=r at hnext he1 hrec
  have hE1:=fun w=>hE last r w
  have hs:=(Ev.ro he1).1
  generalize kM sa last r=e1 at hE1 hrec
  repeat' (first|(apply ak;exact rfl;apply aj (j:=i);exact rfl;exact rfl;omega)|(apply ak;exact rfl;apply aB;exact rfl;exact he1;exact rfl)|(apply aa;exact rfl;exact rfl;(intro w hm;exact hE1 w))|refine sT ?_|refine sS ?_|refine sN ?_|refine sO ?_|refine sM fun _=> ?_|(refine sC ?_ ?_<;>intro hb<;>try omega)|fail)
  all_goals first
   |(exfalso;omega)
   |(rw [if_pos hb] at hrec;(refine rT1 ?_);rw [hrec,if_pos hb];done)
   |(rw [if_neg (by omega)] at hrec;refine ⟨i+1,⟨hlt,?_⟩,by omega,by (try simp only [hnext]);exact sB,by (try simp only [hnext]);exact sB,by exact mS⟩;rw [hnext];exact hrec)
 ·
  have e:i=L.length:=by omega
  subst e
  rw [RE,ep] at hrec
  subst hrec
  rw [if_neg (by decide)]
  obtain ⟨rf,hrf⟩: ∃ rf,dR sa (-1) M=rf:=⟨_,rfl⟩
  rw [hrf]
  repeat' (first|refine sT ?_|refine sS ?_|refine sM fun _=> ?_|(refine sC ?_ ?_<;>intro hb<;>try omega)|fail)
  refine ax [0,2] rfl (fun i:Nat=> [(7,.int .i64 (kI M i)),(10,.int .i64 (i:Int))]) (fun _=> []) (fun i=>i≤M.length∧rf=dR sa (kI M i) (M.drop i)) (fun i=>M.length - i) 0 ⟨QX _,hrf.symm⟩ sB mS ?_
  rintro i ⟨hi,hrec⟩
  by_cases hlt:i<M.length
  ·
   obtain ⟨gm,om,rfl,hrm⟩:=hm3 (by omega)
   have he1:=hrm.elem cB i hlt
   have hnext:kI M (i+1)=M[i].step:=by unfold kI;rw [if_neg (by omega),SF,QQ hlt];rfl
   rw [QY hlt,ik] at hrec
   generalize kI M i=last at hrec
   generalize M[i]=r at hnext he1 hrec
   have hE1:=fun w=>hR last r w
   have hs:=Rv.ro1 he1
   generalize jb sa last r=e1 at hE1 hrec
   repeat' (first|(apply ak;exact rfl;apply aj (j:=i);exact rfl;exact rfl;omega)|(apply ak;exact rfl;apply aB;exact rfl;exact he1;exact rfl)|(apply aa;exact rfl;exact rfl;(intro w hm;exact hE1 w))|refine sT ?_|refine sS ?_|refine sN ?_|refine sO ?_|refine sM fun _=> ?_|(refine sC ?_ ?_<;>intro hb<;>try omega)|fail)
   all_goals first
    |(exfalso;omega)
    |(rw [if_pos hb] at hrec;(refine rT1 ?_);rw [hrec];done)
    |(rw [if_neg (by omega)] at hrec;refine ⟨i+1,⟨hlt,?_⟩,by omega,by (try simp only [hnext]);exact sB,by (try simp only [hnext]);exact sB,by exact mS⟩;rw [hnext];exact hrec)
  ·
   have e:i=M.length:=by omega
   subst e
   rw [RE,dR] at hrec
   subst hrec
   repeat' (first|refine sT ?_|refine sS ?_|refine sM fun _=> ?_|(refine sC ?_ ?_<;>intro hb<;>try omega)|fail)
   all_goals first|(exfalso;omega)|((refine rT1 ?_);rfl)
end Go.SL
