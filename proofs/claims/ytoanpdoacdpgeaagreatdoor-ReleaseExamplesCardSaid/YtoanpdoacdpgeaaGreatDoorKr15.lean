/-
  Lemmas and walks, put together: Vc Ha Hd Hl Ng Hb Id Hh Hi.
-/
import Derived.Test.YtoanpdoacdpgeaaGreatDoorKr13
set_option linter.unusedSimpArgs false
set_option linter.unusedVariables false
set_option maxRecDepth 20000
namespace Go.SL
open Go Go.Proofs
attribute [local irreducible] W WL WQ WG WA WX WLI WR WT WC WE VOp RW thn blk bo scp aN bf bi aF FnIn FnP ceP
theorem vT (x:Rv) (w:World):ay Tryz.prog 130 [.agg (aH x).toArray] w (u4 (abt x)):=by
 refine aq Tryz.func130 rfl Tryz.ntmps130 rfl ?_
 repeat' (first|refine sT ?_|refine sM fun _=> ?_|(refine sC ?_ ?_<;>intro hb<;>try omega)|fail)
 all_goals first|(exfalso;omega)|((refine eRC ?_);rfl)
theorem w6 {L M:List Rv} {i:Nat} (h:i<L.length):dO (L.take (i+1)) M=if abt L[i]∈M.map abt then dO (L.take i) M else dO (L.take i) M++ [L[i]]:=by
 unfold dO
 rw [H7 h,List.filter_append]
 by_cases hh:abt L[i]∈M.map abt
 ·
  rw [if_pos hh,List.filter_cons,if_neg (by rw [decide_eq_true hh];decide),List.filter_nil,Ig]
 ·
  rw [if_neg hh,List.filter_cons,if_pos (by rw [decide_eq_false hh];decide),List.filter_nil]
theorem qZ (L M:List Rv):(dO L M).length≤L.length:=J5 _ _
set_option maxHeartbeats 8000000 in
theorem kr (L M:List Rv) (lv mv:Value) (w:World) (hl:Reads w lv L.length (L.flatMap aH)) (hm:Reads w mv M.length (M.flatMap aH)) (hL:L.length≤100000000):
    aF Tryz.prog 81 [lv,mv] w fun v H=> ∃ A cap,v=sl A (dO L M).length cap∧H= [.own A 62 11 (dO L M).length cap ((dO L M).flatMap aH)]:=by
  obtain ⟨Al,cl,rfl,hl1,hl2,hl3⟩:=hl
  obtain ⟨Am,cm,rfl,hm1,hm2,hm3⟩:=hm
  refine aq Tryz.func81 rfl Tryz.ntmps81 rfl ?_
  refine aw 62 11 ?_
  repeat' (first|(apply kq (enc:=u4);exact rfl;intro gm)|refine sT ?_|refine sS ?_|refine sM fun _=> ?_|(refine sC ?_ ?_<;>intro hb<;>try omega)|fail)
  refine ax [0,5,12,13] rfl (fun y:Nat × List (Ky × Value × Nat) × Nat=> [(14,.int .i64 (y.1:Int))]) (fun y=> [.obj gm (cU u4 y.2.1 y.2.2),.own none 62 11 0 0 []]) (fun y=>y.1≤M.length∧SetK y.2.1 ((M.take y.1).map abt)) (fun y=>M.length - y.1) (0,[],0) ⟨H5 _,SetK.nil⟩ sB mS ?_
  rintro ⟨i,es,clock⟩ ⟨hi,hS⟩
  dsimp only at hi hS ⊢
  by_cases hlt:i<M.length
  · obtain ⟨gl,ol,rfl,hrl⟩:=hm3 (by omega)
    have he:=hrl.elem cf i hlt
    have hS2:=hS.put (abt M[i]) clock
    rw [show (M.take i).map abt++ [abt M[i]]=(M.take (i+1)).map abt by rw [H7 hlt,IQ];rfl] at hS2
    generalize M[i]=x at he hS2
    have hA:=fun w=>vT x w
    repeat' (first|(apply aj;exact rfl;apply ai (j:=i);exact rfl;exact rfl;exact hlt)|(apply aj;exact rfl;apply aA;exact rfl;exact he;exact rfl)|(apply ah;exact rfl;exact rfl;(intro w hm;exact hA w))|(apply qw (enc:=u4) (k:=abt x);(iterate 3 exact rfl);exact pK)|refine sT ?_|refine sS ?_|refine sN ?_|refine sM fun _=> ?_|(refine sC ?_ ?_<;>intro hb<;>try omega)|fail)
    all_goals first
      |(exfalso;omega)
      |(refine ⟨(i+1,_,_),⟨hlt,hS2⟩,by dsimp only;omega,by exact sB,by exact sB,by dsimp only;exact mS⟩;done)
  · have e:i=M.length:=by omega
    subst e
    rw [IX] at hS
    have hlook:=fun k=>hS.look k
    repeat' (first|refine sT ?_|refine sS ?_|refine sM fun _=> ?_|(refine sC ?_ ?_<;>intro hb<;>try omega)|fail)
    all_goals try (exfalso;omega)
    refine ax [5,22,23] rfl (fun y:Nat × Option Nat × Nat=> [(8,sl y.2.1 (dO (L.take y.1) M).length y.2.2),(24,.int .i64 (y.1:Int))]) (fun y=> [.own y.2.1 62 11 (dO (L.take y.1) M).length y.2.2 ((dO (L.take y.1) M).flatMap aH),.obj gm (cU u4 es clock)]) (fun y=>y.1≤L.length) (fun y=>L.length - y.1) (0,none,0) (H5 _) sB mS ?_
    rintro ⟨i,A,c⟩ hi
    dsimp only at hi ⊢
    by_cases hlt:i<L.length
    · obtain ⟨gl,ol,rfl,hrl⟩:=hl3 (by omega)
      have he:=hrl.elem cf i hlt
      have hn:=w6 (M:=M) hlt
      have hml:=qZ (L.take i) M
      rw [IU] at hml
      generalize dO (L.take i) M=N at hn hml
      generalize L[i]=x at he hn
      have hA:=fun w=>vT x w
      have hlk:=hlook (abt x)
      by_cases hx:abt x∈M.map abt
      · rw [if_pos hx] at hn
        rw [decide_eq_true hx] at hlk
        repeat' (first|(apply aj;exact rfl;apply ai (j:=i);exact rfl;exact rfl;exact hlt)|(apply aj;exact rfl;apply aA;exact rfl;exact he;exact rfl)|(apply ah;exact rfl;exact rfl;(intro w hm;exact hA w))|(apply aj;exact rfl;apply oD (enc:=u4) (k:=abt x);exact rfl;exact rfl;exact pK;exact hlk)|refine sT ?_|refine sS ?_|refine sN ?_|refine sM fun _=> ?_|(refine sC ?_ ?_<;>intro hb<;>try omega)|fail)
        all_goals first
          |(exfalso;omega)
          |(refine ⟨(i+1,A,c),hlt,by dsimp only;omega,by dsimp only;rw [hn];exact sB,by exact sB,by dsimp only;rw [hn];exact mS⟩;done)
      · rw [if_neg hx] at hn
        rw [decide_eq_false hx] at hlk
        repeat' (first|(apply aj;exact rfl;apply ai (j:=i);exact rfl;exact rfl;exact hlt)|(apply aj;exact rfl;apply aA;exact rfl;exact he;exact rfl)|(apply ah;exact rfl;exact rfl;(intro w hm;exact hA w))|(apply aj;exact rfl;apply oD (enc:=u4) (k:=abt x);exact rfl;exact rfl;exact pK;exact hlk)|(apply aV (A:=A) (m:=1);(iterate 3 exact rfl);exact pK;(intro w hm;exact hm.cells_own pK);exact rfl;(intro u hu;simp [aH] at hu;rcases hu with rfl|rfl|rfl|rfl|rfl|rfl|rfl|rfl|rfl|rfl|rfl<;>rfl);omega;(simp only [maxLen];omega);(intro A' cap' hA'))|refine sT ?_|refine sS ?_|refine sN ?_|refine sM fun _=> ?_|(refine sC ?_ ?_<;>intro hb<;>try omega)|fail)
        all_goals first
          |(exfalso;omega)
          | (refine ⟨(i + 1, A', cap'), hlt, by dsimp only; omega, ?_, ?_, ?_⟩
             · dsimp only;rw [hn,List.length_append];exact sB
             · exact sB
             · dsimp only;rw [hn,List.length_append,List.flatMap_append,List.flatMap_cons,List.flatMap_nil,List.append_nil];exact mS)
    · have e:i=L.length:=by omega
      subst e
      rw [IX]
      repeat' (first|refine sT ?_|refine sS ?_|refine sM fun _=> ?_|(refine sC ?_ ?_<;>intro hb<;>try omega)|fail)
      all_goals first
        |(exfalso;omega)
        |(refine bI eIO rfl rfl mS ⟨A,c,rfl,rfl⟩;done)
def fX (n:Int):BitVec 64 × Int:=if n<0∨64<n then (0#64,3) else (HP n.toNat,0)
theorem xN (n:Int) (w:World):ay Tryz.prog 87 [.int .i64 n] w (.tuple #[vS (fX n).1,.int .i64 (fX n).2]):=by
 refine aq Tryz.func87 rfl Tryz.ntmps87 rfl ?_
 by_cases h:n<0∨64<n
 ·
  rw [fX,if_pos h]
  repeat' (first|refine sT ?_|refine sM fun _=> ?_|(refine sC ?_ ?_<;>intro hb<;>try omega)|fail)
  all_goals first|(exfalso;omega)|((refine rT2 ?_);rfl)
 ·
  rw [fX,if_neg h]
  obtain ⟨m,rfl⟩: ∃ m:Nat,n=(m:Int):=⟨n.toNat,by omega⟩
  repeat' (first|(apply aj;exact rfl;apply Du (a:=1#64) (m:=m);exact rfl;exact rfl;omega)|(apply aj;exact rfl;apply Dq (b:=1#64);exact rfl;exact rfl)|refine sT ?_|refine sM fun _=> ?_|(refine sC ?_ ?_<;>intro hb<;>try omega)|fail)
  all_goals first|(exfalso;omega)|((refine rT2 ?_);rfl)
theorem lT (x:BitVec 64) (u:Int) (w:World):ay Tryz.prog 118 [vS x,.int .i64 u] w (.bool (lC x u)):=by
 refine aq Tryz.func118 rfl Tryz.ntmps118 rfl ?_
 by_cases h:0≤u∧u<64
 ·
  obtain ⟨m,rfl⟩: ∃ m:Nat,u=(m:Int):=⟨u.toNat,by omega⟩
  have hs:=DM x m
  have he:lC x (m:Int)=x.getLsbD m:=by simp [lC];omega
  rw [he]
  repeat' (first|(apply aj;exact rfl;apply Dt (a:=x) (m:=m);exact rfl;exact rfl;omega)|(apply aj;exact rfl;apply x5 (b:=1#64);exact rfl;exact rfl)|(apply aj;exact rfl;apply DA (b:=1#64);exact rfl;exact rfl)|refine sT ?_|refine sM fun _=> ?_|(refine sC ?_ ?_<;>intro hb<;>try omega)|fail)
  all_goals first|(exfalso;omega)|((refine rT1 ?_);exact congrArg Value.bool hs)
 ·
  have he:lC x u=false:=by
   unfold lC
   by_cases h1:0≤u
   ·
    have h2: ¬ u<64:=fun h2=>h ⟨h1,h2⟩
    simp [h2]
   ·
    simp [h1]
  rw [he]
  repeat' (first|refine sT ?_|refine sM fun _=> ?_|(refine sC ?_ ?_<;>intro hb<;>try omega)|fail)
  all_goals first|(exfalso;omega)|((refine rT1 ?_);rfl)
theorem Ah (L:List (BitVec 64)) (lv:Value) (w:World) (hl:Reads w lv L.length (L.map vS)):ay Tryz.prog 142 [lv] w (vS (qp L)):=by
 obtain ⟨Al,cl,rfl,hl1,hl2,hl3⟩:=hl
 refine aq Tryz.func142 rfl Tryz.ntmps142 rfl ?_
 repeat' (first|refine sT ?_|refine sM fun _=> ?_|(refine sC ?_ ?_<;>intro hb<;>try omega)|fail)
 refine ax [6,7] rfl (fun i:Nat=> [(3,vS (qp (L.take i))),(8,.int .i64 (i:Int))]) (fun _=> []) (fun i=>i≤L.length) (fun i=>L.length - i) 0 (H5 _) sB mS ?_
 rintro i hi
 by_cases hlt:i<L.length
 ·
  obtain ⟨gl,ol,rfl,hrl⟩:=hl3 (by omega)
  have he1:=hrl.cellV i (v:=vS L[i]) (by rw [II,HY hlt];rfl)
  have hs:qp (L.take (i+1))=qp (L.take i) &&& L[i]:=by rw [H7 hlt,z8]
  repeat' (first|(apply aj;exact rfl;apply x5;exact rfl;exact rfl)|refine sT ?_|refine sN ?_|refine sO ?_|refine sM fun _=> ?_|(refine sC ?_ ?_<;>intro hb<;>try omega)|fail)
  all_goals first
   |(exfalso;omega)
   |(refine ⟨i+1,hlt,by omega,?_,by exact sB,by exact mS⟩;rw [hs];exact sB)
 ·
  have e:i=L.length:=by omega
  subst e
  repeat' (first|refine sT ?_|refine sM fun _=> ?_|(refine sC ?_ ?_<;>intro hb<;>try omega)|fail)
  all_goals first
   |(exfalso;omega)
   |((refine rT1 ?_);rw [IX])
theorem jK {r:Rct} (h:eZ r≠0):bq r=false:=by
 cases hq:bq r
 ·
  rfl
 ·
  exact absurd (by rw [eZ,hq];rfl) h
theorem fL {r:Rct} (h: ¬ eZ r≠0): ¬ bq r=false:=fun hq=>h (by rw [eZ,hq];decide)
def oM:Rct:=⟨1,1,1024,1024⟩
def gC (u:Int):List Rl→Int→Int × Int
 | [],_=>(0,0)
 |r::L,i=>if bq r.rect=false then (i,3) else if (r.read|||r.write|||r.own) &&& ~~~(fX u).1≠0#64 then (i,2) else gC u L (i+1)
def eX (u:Int) (L:List Rl):Int × Int:=
 if u<0∨64<u∨u=0∨L= [] then (0,2) else if 64<L.length then (64,5) else if (L.head?.map (·.rect))≠some oM then (0,2) else gC u L 0
theorem Bw (w:World):ay Tryz.prog 117 [] w (.agg (bu oM).toArray):=by
 refine aq Tryz.func117 rfl Tryz.ntmps117 rfl ?_
 repeat' (first|refine sT ?_|refine sM fun _=> ?_|(refine sC ?_ ?_<;>intro hb<;>try omega)|fail)
 (refine eRC ?_)
 rfl
theorem Rl.ro {w:World} {g o:Nat} {r:Rl} (h:Ro w g o (bH r)):Ro w g o (bu r.rect)∧Ro w g (o+4) [vS r.read]∧Ro w g (o+5) [vS r.write]∧Ro w g (o+6) [vS r.own]∧Ro w g (o+4) [vS r.read,vS r.write,vS r.own]:=
 ⟨h.take (k:=4),(h.drop (k:=4)).take (k:=1),(h.drop (k:=5)).take (k:=1),h.drop (k:=6),h.drop (k:=4)⟩
set_option maxHeartbeats 4000000 in
theorem gD (u:Int) (L:List Rl) (lv:Value) (w:World) (hl:Reads w lv L.length (L.flatMap bH)):ay Tryz.prog 60 [.int .i64 u,lv] w (.tuple #[.int .i64 (eX u L).1,.int .i64 (eX u L).2]):=by
 obtain ⟨Al,cl,rfl,hl1,hl2,hl3⟩:=hl
 refine aq Tryz.func60 rfl Tryz.ntmps60 rfl ?_
 have hA:=fun w=>xN u w
 unfold eX
 have hE:(fX u).2=if u<0∨64<u then 3 else 0:=by unfold fX;split<;>rfl
 by_cases h1:u<0∨64<u∨u=0∨L= []
 ·
  rw [if_pos h1]
  generalize fX u=ae at hA hE
  obtain ⟨sa,ee⟩:=ae
  dsimp only at hA hE
  subst hE
  have h1' : ¬ (u<0∨64<u)→u≠0→L.length=0:=fun h2 h3=>by
   rcases h1 with h|h|h|h
   ·
    exact absurd (.inl h) h2
   ·
    exact absurd (.inr h) h2
   ·
    exact absurd h h3
   ·
    rw [h];rfl
  clear h1
  by_cases h2:u<0∨64<u
  ·
   rw [if_pos h2] at hA
   repeat' (first|(apply ah;exact rfl;exact rfl;(intro w hm;exact hA w))|refine sT ?_|refine sM fun _=> ?_|(refine sC ?_ ?_<;>intro hb<;>try omega)|fail)
   all_goals first|(exfalso;omega)|((refine rT2 ?_);rfl)
  ·
   rw [if_neg h2] at hA
   have h3:=h1' h2
   repeat' (first|(apply ah;exact rfl;exact rfl;(intro w hm;exact hA w))|refine sT ?_|refine sM fun _=> ?_|(refine sC ?_ ?_<;>intro hb<;>try omega)|fail)
   all_goals first|(exfalso;omega)|((refine rT2 ?_);rfl)
 rw [if_neg h1]
 have hu: ¬ (u<0∨64<u)∧u≠0:=⟨fun h=>h1 (h.elim .inl fun h=> .inr (.inl h)),fun h=>h1 (.inr (.inr (.inl h)))⟩
 have hpos:0<L.length:=Jc.2 fun h=>h1 (.inr (.inr (.inr h)))
 rw [if_neg hu.1] at hE
 rw [hE] at hA
 obtain ⟨sa,has⟩: ∃ sa,sa=(fX u).1:=⟨_,rfl⟩
 rw [← has] at hA
 obtain ⟨gl,ol,rfl,hrl⟩:=hl3 hpos
 by_cases h64:64<L.length
 ·
  rw [if_pos h64]
  repeat' (first|(apply ah;exact rfl;exact rfl;(intro w hm;exact hA w))|refine sT ?_|refine sM fun _=> ?_|(refine sC ?_ ?_<;>intro hb<;>try omega)|fail)
  all_goals first|(exfalso;omega)|((refine rT2 ?_);rfl)
 rw [if_neg h64]
 obtain ⟨h0a,_⟩:=Rl.ro (hrl.elem di 0 hpos)
 have hsh:=fun w=>Bw w
 have hhd:L.head?.map (·.rect)=some L[0].rect:=by rw [List.head?_eq_getElem?,HY hpos];rfl
 rw [hhd]
 obtain ⟨c,hc⟩: ∃ c,decide (L[0].rect=oM)=c:=⟨_,rfl⟩
 have hcs:(some L[0].rect≠some oM)↔c=false:=by rw [← hc];simp
 generalize L[0].rect=r0 at h0a hc hcs ⊢
 simp only [hcs]
 clear hhd hcs
 cases c with
 |false=>
  repeat' (first|(apply ah;exact rfl;exact rfl;(intro w hm;exact hA w))|(apply dQ (f:=117);exact rfl;exact rfl;(intro w' _;exact hsh w'))|(apply aK;exact rfl;apply ai (j:=0);exact rfl;exact rfl;exact hpos)|(apply aK;exact rfl;apply aA (xs:=bu r0);exact rfl;exact h0a;exact rfl)|(apply aK;exact rfl;apply qE hc;exact rfl;exact rfl)|refine sT ?_|refine sQ ?_|refine sN ?_|refine sNQ ?_|refine sO ?_|refine sOQ ?_|refine sD ?_|refine sM fun _=> ?_|(refine sC ?_ ?_<;>intro hb<;>try omega)|(refine sCQ ?_ ?_<;>intro hb<;>try omega)|fail)
  all_goals first|(exfalso;omega)|((refine rT2 ?_);rfl)
 |true=>
  repeat' (first|(apply ah;exact rfl;exact rfl;(intro w hm;exact hA w))|(apply dQ (f:=117);exact rfl;exact rfl;(intro w' _;exact hsh w'))|(apply aK;exact rfl;apply ai (j:=0);exact rfl;exact rfl;exact hpos)|(apply aK;exact rfl;apply aA (xs:=bu r0);exact rfl;exact h0a;exact rfl)|(apply aK;exact rfl;apply qE hc;exact rfl;exact rfl)|refine sT ?_|refine sQ ?_|refine sN ?_|refine sNQ ?_|refine sO ?_|refine sOQ ?_|refine sD ?_|refine sM fun _=> ?_|(refine sC ?_ ?_<;>intro hb<;>try omega)|(refine sCQ ?_ ?_<;>intro hb<;>try omega)|fail)
  all_goals try (exfalso;omega)
  refine ax [1,6,37,38] rfl (fun i:Nat=> [(39,.int .i64 (i:Int))]) (fun _=> []) (fun i=>i≤L.length∧gC u L 0=gC u (L.drop i) (i:Int)) (fun i=>L.length - i) 0 ⟨H5 _,rfl⟩ sB mS ?_
  rintro i ⟨hi,hrec⟩
  by_cases hlt:i<L.length
  ·
   have he1:=hrl.elem di i hlt
   rw [H6 hlt,gC,← has] at hrec
   generalize L[i]=r at hrec he1
   have hck:=fun w=>f9 r.rect w
   repeat' (first|(apply ah;exact rfl;exact rfl;(intro w hm;exact hck w))|(apply aj;exact rfl;apply Bf;exact rfl;exact rfl)|(apply aj;exact rfl;apply dL (b:=sa);exact rfl;exact rfl)|(apply aj;exact rfl;apply fZ (b:=0#64);exact rfl;exact rfl)|refine sT ?_|refine sN ?_|refine sO ?_|refine sM fun _=> ?_|(refine sC ?_ ?_<;>intro hb<;>try omega)|fail)
   all_goals first
    |(exfalso;omega)
    |((refine rT2 ?_);rw [if_neg (by decide),hrec,if_pos (jK hb)];done)
    |((refine rT2 ?_);rw [if_neg (by decide),hrec,if_neg (fL ‹_›),if_pos hb];done)
    |(refine ⟨i+1,⟨hlt,by rw [hrec,if_neg (fL ‹_›),if_neg (fun h=>h hb)];rfl⟩,by omega,by exact sB,by exact sB,by exact mS⟩;done)
  ·
   have e:i=L.length:=by omega
   subst e
   rw [I3,gC] at hrec
   rw [if_neg (by decide),hrec]
   repeat' (first|refine sT ?_|refine sM fun _=> ?_|(refine sC ?_ ?_<;>intro hb<;>try omega)|fail)
   all_goals first|(exfalso;omega)|((refine rT2 ?_);rfl)
theorem FU {L:List Int} {k:Nat} (h:k<L.length):(L.map du)[0+k*1]? =some (du L[k]):=by
 rw [H8,Jt,II,HY h];rfl
theorem E7 {L:List Int} {a k:Nat} (h:a+k<L.length):(L.map du)[a*1+k*1]? =some (du L[a+k]):=by
 rw [Jt,Jt,II,HY h];rfl
set_option maxHeartbeats 4000000 in
theorem v6 (L:List Int) (A:Option Nat) (cap:Nat) (hL:L.length≤1000000) (R:List Blk) (w0:World):
    FnIn Tryz.prog 231 [sl A L.length cap] w0 (.own A 3 1 L.length cap (L.map du)::R) fun v H=>v=sl A (dE L).length cap∧H= .own A 3 1 (dE L).length cap ((dE L).map du)::R:=by
  refine fc Tryz.func231 rfl Tryz.ntmps231 rfl ?_
  refine HF (A:=A) .hd fun hle=> ?_
  by_cases h2:L.length<2
  · have hc:=vE (L:=L) (by omega)
    repeat' (first|refine sT ?_|refine sS ?_|refine sN ?_|refine sM fun _=> ?_|(refine sC ?_ ?_<;>intro hb<;>try omega)|fail)
    all_goals first
      |(exfalso;omega)
      |(refine bI eIO rfl rfl (.refl _) ?_;rw [hc];exact ⟨rfl,rfl⟩)
  · refine ez (A:=A) .hd (by omega) fun g hA=> ?_
    subst hA
    repeat' (first|refine sT ?_|refine sS ?_|refine sN ?_|refine sM fun _=> ?_|(refine sC ?_ ?_<;>intro hb<;>try omega)|fail)
    all_goals try (exfalso;omega)
    refine ax [0] rfl (fun k:Nat=> [(3,.int .i64 (k:Int))]) (fun _=> .own (some g) 3 1 L.length cap (L.map du)::R) (fun k=>1≤k∧k≤L.length∧dE (L.take k)=L.take k) (fun k=>L.length - k) 1 ⟨Ih _,by omega,vE (by rw [IU];omega)⟩ sB mS ?_
    rintro k ⟨hk1,hk,hck⟩
    by_cases hlt:k<L.length
    · have hr1:=FU hlt
      have hr2:=FU (L:=L) (k:=k - 1) (by omega)
      have hst:=ry hlt hk1
      have htk:L.take (k+1)=L.take k++ [L[k]]:=by rw [H7 hlt]
      obtain ⟨c,hc⟩: ∃ c,decide (L[k]=L[k - 1])=c:=⟨_,rfl⟩
      cases c with
      |false=>
        have hne: ¬ L[k]=L[k - 1]:=by simpa using hc
        rw [if_neg hne,hck,← htk] at hst
        repeat' (first|(apply aK;exact rfl;apply da;exact rfl;exact rfl;omega;(simp only [maxLen];omega))|(apply aK;exact rfl;apply ai (j:=k);exact rfl;exact rfl;omega)|(apply aK;exact rfl;apply ai (j:=k - 1);exact rfl;exact rfl;omega)|(apply aK;exact rfl;apply aP;exact rfl;exact pK;(first|exact hr1|exact hr2))|(apply aK;exact rfl;apply qH hc;exact rfl;exact rfl)|refine sT ?_|refine sS ?_|refine sQ ?_|refine sN ?_|refine sNQ ?_|refine sD ?_|refine sM fun _=> ?_|(refine sC ?_ ?_<;>intro hb<;>try omega)|(refine sCQ ?_ ?_<;>intro hb<;>try omega)|fail)
        all_goals first
          |(exfalso;omega)
          |(refine ⟨k+1,⟨by omega,hlt,hst⟩,by omega,by exact sB,by exact sB,by exact mS⟩;done)
      |true=>
        have hne:L[k]=L[k - 1]:=by simpa using hc
        rw [if_pos hne,hck] at hst
        repeat' (first|(apply aK;exact rfl;apply da;exact rfl;exact rfl;omega;(simp only [maxLen];omega))|(apply aK;exact rfl;apply ai (j:=k);exact rfl;exact rfl;omega)|(apply aK;exact rfl;apply ai (j:=k - 1);exact rfl;exact rfl;omega)|(apply aK;exact rfl;apply aP;exact rfl;exact pK;(first|exact hr1|exact hr2))|(apply aK;exact rfl;apply qH hc;exact rfl;exact rfl)|(apply aj;exact rfl;apply qC (lo:=k);exact rfl;exact rfl;omega;exact hle)|refine sT ?_|refine sS ?_|refine sQ ?_|refine sN ?_|refine sNQ ?_|refine sD ?_|refine sM fun _=> ?_|(refine sC ?_ ?_<;>intro hb<;>try omega)|(refine sCQ ?_ ?_<;>intro hb<;>try omega)|fail)
        all_goals try (exfalso;omega)
        refine ax [0,4] rfl (fun y:Nat × Nat × List Int=> [(5,.int .i64 (y.1:Int)),(3,.int .i64 (y.2.1:Int))]) (fun y=> .own (some g) 3 1 L.length cap (y.2.2.map du)::R) (fun y=>1≤y.1∧k+y.1≤L.length∧y.2.1+1≤k+y.1∧y.2.2.length=L.length∧y.2.2.take y.2.1=dE (L.take (k+y.1))∧ ∀ j,k+y.1≤j+1→y.2.2[j]? =L[j]?) (fun y=>L.length - y.1) (1,k,L) ⟨Ih _,by omega,Ih _,rfl,hst.symm,fun _ _=>rfl⟩ sB mS ?_
        rintro ⟨i,k',ys⟩ ⟨hi1,hi2,hi3,hi4,hi5,hi6⟩
        dsimp only at hi1 hi2 hi3 hi4 hi5 hi6 ⊢
        by_cases hli:k+i<L.length
        · have hy1:k+i<ys.length:=by omega
          have hr3:=E7 (L:=ys) (a:=k) (k:=i) hy1
          have hr4:=E7 (L:=ys) (a:=k) (k:=i - 1) (by omega)
          have he1:ys[k+i]=L[k+i]:=by
            have:=hi6 (k+i) (by omega)
            rw [HY hy1,HY hli] at this
            exact Option.some.inj this
          have he2:ys[k+(i - 1)]=L[k+i - 1]:=by
            have:=hi6 (k+(i - 1)) (by omega)
            rw [HY (by omega),HY (by omega)] at this
            rw [Option.some.inj this]
            congr 1
            omega
          rw [he1] at hr3
          rw [he2] at hr4
          have hst2:=ry hli (by omega)
          obtain ⟨c,hc2⟩: ∃ c,decide (L[k+i]=L[k+i - 1])=c:=⟨_,rfl⟩
          cases c with
          |true=>
            rw [if_pos (by simpa using hc2)] at hst2
            repeat' (first|(apply aK;exact rfl;apply da;exact rfl;exact rfl;omega;(simp only [maxLen];omega))|(apply aK;exact rfl;apply ai (j:=i);exact rfl;exact rfl;omega)|(apply aK;exact rfl;apply ai (j:=i - 1);exact rfl;exact rfl;omega)|(apply aK;exact rfl;apply aP;exact rfl;exact pK;(first|exact hr3|exact hr4))|(apply aK;exact rfl;apply qF hc2;exact rfl;exact rfl)|refine sT ?_|refine sS ?_|refine sQ ?_|refine sN ?_|refine sNQ ?_|refine sD ?_|refine sM fun _=> ?_|(refine sC ?_ ?_<;>intro hb<;>try omega)|(refine sCQ ?_ ?_<;>intro hb<;>try omega)|fail)
            all_goals first
              |(exfalso;omega)
              |(refine ⟨(i+1,k',ys),⟨by dsimp only;omega,by dsimp only;omega,by dsimp only;omega,hi4,by dsimp only;rw [hi5,← Nat.add_assoc,hst2],fun j hj=>hi6 j (by omega)⟩,by dsimp only;omega,by exact sB,by exact sB,by exact mS⟩;done)
          |false=>
            rw [if_neg (by simpa using hc2)] at hst2
            have hput:(ys.map du).set (0+k' *1) (du L[k+i])=(ys.set k' L[k+i]).map du:=by rw [H8,Jt,List.map_set]
            repeat' (first|(apply aK;exact rfl;apply da;exact rfl;exact rfl;omega;(simp only [maxLen];omega))|(apply aK;exact rfl;apply ai (j:=i);exact rfl;exact rfl;omega)|(apply aK;exact rfl;apply ai (j:=i - 1);exact rfl;exact rfl;omega)|(apply aK;exact rfl;apply aP;exact rfl;exact pK;(first|exact hr3|exact hr4))|(apply aK;exact rfl;apply qF hc2;exact rfl;exact rfl)|(apply aj (d:=49);exact rfl;apply ai (j:=i);exact rfl;exact rfl;omega)|(apply aj (d:=51);exact rfl;apply ai (j:=k');exact rfl;exact rfl;omega)|(apply aj;exact rfl;apply aP;exact rfl;exact pK;exact hr3)|(apply iz (v:=du L[k+i]) (off:=0+k' *1);exact rfl;exact rfl;exact pK;exact rfl;(rw [IJ,hi4];omega);rw [hput])|refine sT ?_|refine sS ?_|refine sQ ?_|refine sN ?_|refine sNQ ?_|refine sD ?_|refine sM fun _=> ?_|(refine sC ?_ ?_<;>intro hb<;>try omega)|(refine sCQ ?_ ?_<;>intro hb<;>try omega)|fail)
            all_goals first
              |(exfalso;omega)
              | (refine ⟨(i + 1, k' + 1, ys.set k' L[k + i]), ⟨by dsimp only; omega, by dsimp only; omega, by dsimp only; omega, by dsimp only; rw [List.length_set, hi4], ?_, fun j hj => ?_⟩, by dsimp only; omega, by exact sB, by exact sB, by exact mS⟩
                 · dsimp only
                   rw [H7 (by rw [List.length_set];omega),List.take_set_of_le (Ih _),hi5,List.getElem_set_self,← Jy,hst2]
                 · dsimp only at hj ⊢
                   rw [List.getElem?_set_ne (by omega)]
                   exact hi6 j (by omega))
        · have hli2:k+i=L.length:=by omega
          rw [hli2,IX] at hi5
          have hcl:(dE L).length=k' :=by rw [← hi5,IU,hi4];omega
          have hk'L:k' <L.length:=by omega
          repeat' (first|(apply aj;exact rfl;apply qC (lo:=k');exact rfl;exact rfl;omega;exact hle)|(apply AO (sz:=1) (k:=k') (n' :=L.length);exact rfl;omega;exact pK;(intro u hu;simp [Value.cells] at hu;subst hu;rfl);exact rfl)|(apply aj;exact rfl;apply yX (hi:=k');exact rfl;exact rfl;omega)|refine sT ?_|refine sS ?_|refine sN ?_|refine sM fun _=> ?_|(refine sC ?_ ?_<;>intro hb<;>try omega)|fail)
          all_goals first
            |(exfalso;omega)
            | (refine bI eIO rfl rfl (H' := .own (some g) 3 1 k' cap ((ys.map du).take (k' * 1)) :: R) mS ?_
               rw [Jt,← List.map_take,hi5,hcl]
               exact ⟨rfl,rfl⟩)
    · have hkl:k=L.length:=by omega
      rw [hkl,IX] at hck
      repeat' (first|refine sT ?_|refine sS ?_|refine sN ?_|refine sM fun _=> ?_|(refine sC ?_ ?_<;>intro hb<;>try omega)|fail)
      all_goals first
        |(exfalso;omega)
        |(refine bI eIO rfl rfl (.refl _) ?_;rw [hck];exact ⟨rfl,rfl⟩)
set_option maxHeartbeats 4000000 in
theorem Ea (a:Rf) (L:List Rl) (lv:Value) (w:World) (hl:Reads w lv L.length (L.flatMap bH)) (hb:L.length≤1000000) (hpos:0<L.length):ay Tryz.prog 203 [.agg (aQ a).toArray,lv] w (.int .i64 (fa L a:Int)):=by
 obtain ⟨Al,cl,rfl,hl1,hl2,hl3⟩:=hl
 refine aq Tryz.func203 rfl Tryz.ntmps203 rfl ?_
 repeat' (first|refine sT ?_|refine sS ?_|refine sN ?_|refine sM fun _=> ?_|(refine sC ?_ ?_<;>intro hb<;>try omega)|fail)
 rename_i g2
 obtain ⟨gl,ol,rfl,hrl⟩:=hl3 (by omega)
 refine ax [1,2] rfl (fun i:Nat=> [(5,.int .i64 (i:Int))]) (fun _=> [.box g2 50 (aQ a)]) (fun i=>i<L.length∧fa L a=ri a L (i+1)) (fun i=>i) (L.length - 1) ⟨by omega,by rw [Kf (by omega)];rfl⟩ sB mS ?_
 rintro i ⟨hi,hrec⟩
 rw [ri,HY hi] at hrec
 simp only [Jk,Kk] at hrec
 have hIn:=fun w=>Gm L[i].rect a w
 obtain ⟨h0a,_⟩:=Rl.ro (hrl.elem di i hi)
 obtain ⟨c,hcc⟩: ∃ c,Ef L[i].rect a=c:=⟨_,rfl⟩
 simp only [hcc] at hIn hrec
 clear hcc
 generalize L[i].rect=x at h0a hIn
 by_cases hi0:i=0
 ·
  subst hi0
  have e:fa L a=0:=by rw [hrec];cases c<;>rfl
  rw [e]
  repeat' (first|refine sT ?_|refine sS ?_|refine sM fun _=> ?_|(refine sC ?_ ?_<;>intro hb<;>try omega)|fail)
  all_goals first|(exfalso;omega)|((refine rT1 ?_);rfl)
 ·
  cases c
  ·
   rw [if_neg (by decide)] at hrec
   repeat' (first|(apply aK;exact rfl;apply ai (j:=i);exact rfl;exact rfl;exact hi)|(apply dQ (f:=45);exact rfl;exact rfl;(intro w' _;exact hIn w'))|refine sT ?_|refine sS ?_|refine sQ ?_|refine sN ?_|refine sNQ ?_|refine sO ?_|refine sOQ ?_|refine sD ?_|refine sM fun _=> ?_|(refine sC ?_ ?_<;>intro hb<;>try omega)|(refine sCQ ?_ ?_<;>intro hb<;>try omega)|fail)
   all_goals first
    |(exfalso;omega)
    |(refine ⟨i - 1,⟨by omega,by rw [Kf (by omega)];exact hrec⟩,by omega,by exact sB,by exact sB,by exact mS⟩;done)
  ·
   rw [if_pos rfl] at hrec
   rw [hrec]
   repeat' (first|(apply aK;exact rfl;apply ai (j:=i);exact rfl;exact rfl;exact hi)|(apply dQ (f:=45);exact rfl;exact rfl;(intro w' _;exact hIn w'))|refine sT ?_|refine sS ?_|refine sQ ?_|refine sN ?_|refine sNQ ?_|refine sO ?_|refine sOQ ?_|refine sD ?_|refine sM fun _=> ?_|(refine sC ?_ ?_<;>intro hb<;>try omega)|(refine sCQ ?_ ?_<;>intro hb<;>try omega)|fail)
   all_goals first|(exfalso;omega)|((refine rT1 ?_);rfl)
def nz (a:Rf) (L:List Rl):Int × Int:=if a.valid=false then (0,3) else if (eX 64 L).2≠0 then (0,(eX 64 L).2) else ((fa L a:Int),0)
theorem yF {L:List Rl} (h: ¬ (eX 64 L).2≠0):0<L.length∧L.length≤64:=by
 unfold eX at h
 split at h
 ·
  exact absurd (by decide) h
 ·
  rename_i h1
  have hn:L≠ []:=fun e=>h1 (.inr (.inr (.inr e)))
  split at h
  ·
   exact absurd (by decide) h
  ·
   exact ⟨Jc.2 hn,by omega⟩
theorem xA (a:Rf) (L:List Rl) (lv:Value) (w:World) (hl:Reads w lv L.length (L.flatMap bH)):ay Tryz.prog 156 [.agg (aQ a).toArray,lv] w (.tuple #[.int .i64 (nz a L).1,.int .i64 (nz a L).2]):=by
 refine aq Tryz.func156 rfl Tryz.ntmps156 rfl ?_
 have h1:=fun w=>fJ a.col a.row w
 have h2:=fun (w' :World) (H:List Blk) (hm:Mem w w' H)=>gD 64 L lv w' (hl.of_w0 hm)
 have h3:=fun (hp:0<L.length) (hb:L.length≤64) (w' :World) (H:List Blk) (hm:Mem w w' H)=>Ea a L lv w' (hl.of_w0 hm) (by omega) hp
 have hv:a.valid=valid a.col a.row:=rfl
 unfold nz
 rw [hv]
 generalize valid a.col a.row=b at h1
 by_cases hc:(eX 64 L).2≠0
 ·
  rw [if_pos hc]
  cases b
  all_goals
   repeat' (first|(apply ah;exact rfl;exact rfl;(intro w hm;exact h1 w))|(apply ah (f:=60);exact rfl;exact rfl;(intro w' hm;exact h2 w' _ hm))|refine sT ?_|refine sM fun _=> ?_|(refine sC ?_ ?_<;>intro hb<;>try omega)|fail)
  all_goals first|(exfalso;omega)|((refine rT2 ?_);rfl)
 ·
  obtain ⟨hp,hb⟩:=yF hc
  have h3:=h3 hp hb
  rw [if_neg hc]
  have hc0:(eX 64 L).2=0:=by omega
  rw [hc0] at h2
  cases b
  all_goals
   repeat' (first|(apply ah;exact rfl;exact rfl;(intro w hm;exact h1 w))|(apply ah (f:=60);exact rfl;exact rfl;(intro w' hm;exact h2 w' _ hm))|(apply ah (f:=203);exact rfl;exact rfl;(intro w' hm;exact h3 w' _ hm))|refine sT ?_|refine sM fun _=> ?_|(refine sC ?_ ?_<;>intro hb<;>try omega)|fail)
  all_goals first|(exfalso;omega)|((refine rT2 ?_);rfl)
def atR (a:Rf) (L:List Rl):BitVec 64 × BitVec 64 × BitVec 64:=match L[fa L a]? with|some x=>(x.read,x.write,x.own)|none=>(0#64,0#64,0#64)
def atE (a:Rf) (L:List Rl):(BitVec 64 × BitVec 64 × BitVec 64) × Int:=if (nz a L).2≠0 then ((0#64,0#64,0#64),(nz a L).2) else (atR a L,0)
theorem Dj {a:Rf} {L:List Rl} (h: ¬ (nz a L).2≠0):a.valid=true∧(nz a L).1=fa L a∧ ∃ h:fa L a<L.length,atR a L=((L[fa L a]'h).read,(L[fa L a]'h).write,(L[fa L a]'h).own):=by
 unfold nz at h ⊢
 split at h
 ·
  exact absurd (by decide) h
 ·
  rename_i hv
  split at h
  ·
   rename_i h2;exact absurd h2 h
  ·
   rename_i h2
   have hp:=(yF h2).1
   have hlt:=Cm (a:=a) (L:=L) (Jc.1 hp)
   refine ⟨by simpa using hv,?_,hlt,?_⟩
   ·
    simp only [hv,h2,I0,if_false];rfl
   ·
    unfold atR;rw [HY hlt]
set_option maxHeartbeats 1000000 in
theorem EU (a:Rf) (L:List Rl) (lv:Value) (w:World) (hl:Reads w lv L.length (L.flatMap bH)):ay Tryz.prog 124 [.agg (aQ a).toArray,lv] w (.tuple #[.agg #[vS (atE a L).1.1,vS (atE a L).1.2.1,vS (atE a L).1.2.2],.int .i64 (atE a L).2]):=by
 refine aq Tryz.func124 rfl Tryz.ntmps124 rfl ?_
 have h1:=fun (w' :World) (H:List Blk) (hm:Mem w w' H)=>xA a L lv w' (hl.of_w0 hm)
 unfold atE
 by_cases hc:(nz a L).2≠0
 ·
  rw [if_pos hc]
  repeat' (first|(apply ah (f:=156);exact rfl;exact rfl;(intro w' hm;exact h1 w' _ hm))|refine sT ?_|refine sM fun _=> ?_|(refine sC ?_ ?_<;>intro hb<;>try omega)|fail)
  all_goals first
   |(exfalso;omega)
   |((refine fW ?_);rfl)
 ·
  rw [if_neg hc]
  obtain ⟨_,h2,hlt,h3⟩:=Dj hc
  have hc0:(nz a L).2=0:=by omega
  rw [h2,hc0] at h1
  rw [h3]
  obtain ⟨Al,cl,rfl,hl1,hl2,hl3⟩:=hl
  obtain ⟨gl,ol,rfl,hrl⟩:=hl3 (by omega)
  obtain ⟨_,_,_,_,hrr⟩:=Rl.ro (hrl.elem di _ hlt)
  generalize L[fa L a]'hlt=x at hrr
  generalize fa L a=i at h1 hlt hrr
  repeat' (first|(apply ah (f:=156);exact rfl;exact rfl;(intro w' hm;exact h1 w' _ hm))|(apply aj (d:=20);exact rfl;apply ai (j:=i);exact rfl;exact rfl;exact hlt)|(apply aj (d:=22);exact rfl;apply aA (xs:= [vS x.read,vS x.write,vS x.own]);exact rfl;exact hrr;exact rfl)|refine sT ?_|refine sN ?_|refine sO ?_|refine sM fun _=> ?_|(refine sC ?_ ?_<;>intro hb<;>try omega)|fail)
  all_goals first
   |(exfalso;omega)
   |((refine fW ?_);rfl)
end Go.SL
namespace Go.SL
open Go
def Cn (f:Rl→BitVec 64) (L:List Rl) (a:Rf):BitVec 64:=(L[fa L a]?.map f).getD 0#64
theorem Gf {L:List Rl} (h:(eX 64 L).2=0) {a:Rf} (ha:a.valid=true):(atE a L).1.1=Cn (fun x=>x.read) L a∧(atE a L).2=0:=by
 have hw:(nz a L).2=0:=by
  unfold nz
  rw [if_neg (by rw [ha];decide),if_neg (by rw [h];decide)]
 unfold atE
 rw [if_neg (by rw [hw];decide)]
 refine ⟨?_,rfl⟩
 unfold atR Cn
 cases L[fa L a]? <;>rfl
end Go.SL
namespace Go.SL
open Go Go.Proofs
attribute [local irreducible] W WL WQ WG WA WX WLI WR WT WC WE VOp RW thn blk bo scp aN bf bi aF FnIn FnP ceP
theorem Aj (a b:Rct) (w:World):ay Tryz.prog 232 [.agg (bu a).toArray,.agg (bu b).toArray] w (.bool (nQ a b)):=by
 refine aq Tryz.func232 rfl Tryz.ntmps232 rfl ?_
 have hM:=fun w=>yG a b w
 unfold nQ
 obtain ⟨c,hc⟩: ∃ c,decide ((cP a b).1=a)=c:=⟨_,rfl⟩
 rw [hc]
 generalize cP a b=m at hM hc
 obtain ⟨mr,mb⟩:=m
 dsimp only at hM hc ⊢
 cases mb
 ·
  repeat' (first|(apply ah;exact rfl;exact rfl;(intro w hm;exact hM w))|refine sT ?_|refine sM fun _=> ?_|(refine sC ?_ ?_<;>intro hb<;>try omega)|fail)
  all_goals first|(exfalso;omega)|((refine rT1 ?_);rfl)
 ·
  repeat' (first|(apply ah;exact rfl;exact rfl;(intro w hm;exact hM w))|(apply aj;exact rfl;apply qG hc;exact rfl;exact rfl)|refine sT ?_|refine sM fun _=> ?_|(refine sC ?_ ?_<;>intro hb<;>try omega)|fail)
  all_goals first|(exfalso;omega)|((refine rT1 ?_);rfl)
set_option maxHeartbeats 4000000 in
theorem tR (r:Rct) (L:List Rl) (lv:Value) (w:World) (hl:Reads w lv L.length (L.flatMap bH)) (hb:L.length≤1000000):ay Tryz.prog 183 [.agg (bu r).toArray,lv] w (.int .i64 (eu r L:Int)):=by
 obtain ⟨Al,cl,rfl,hl1,hl2,hl3⟩:=hl
 refine aq Tryz.func183 rfl Tryz.ntmps183 rfl ?_
 by_cases h0:L.length=0
 ·
  have e:eu r L=0:=by rw [eu,h0];rfl
  rw [e]
  repeat' (first|refine sT ?_|refine sS ?_|refine sJ ?_|refine sM fun _=> ?_|(refine sC ?_ ?_<;>intro hb<;>try omega)|fail)
  rename_i g2
  refine ax [1,2] rfl (fun _:Unit=> [(5,.int .i64 (-1))]) (fun _=> [.box g2 32 (bu r)]) (fun _=>True) (fun _=>0) () trivial (by rw [h0];exact sB) mS ?_
  rintro _ _
  repeat' (first|refine sT ?_|refine sS ?_|refine sJ ?_|refine sM fun _=> ?_|(refine sC ?_ ?_<;>intro hb<;>try omega)|fail)
  all_goals first|(exfalso;omega)|((refine rT1 ?_);rfl)
 repeat' (first|refine sT ?_|refine sS ?_|refine sN ?_|refine sM fun _=> ?_|(refine sC ?_ ?_<;>intro hb<;>try omega)|fail)
 rename_i g2
 obtain ⟨gl,ol,rfl,hrl⟩:=hl3 (by omega)
 refine ax [1,2] rfl (fun i:Nat=> [(5,.int .i64 (i:Int))]) (fun _=> [.box g2 32 (bu r)]) (fun i=>i<L.length∧eu r L=lW r L (i+1)) (fun i=>i) (L.length - 1) ⟨by omega,by rw [Kf (by omega)];rfl⟩ sB mS ?_
 rintro i ⟨hi,hrec⟩
 rw [lW,HY hi] at hrec
 simp only [Jk,Kk] at hrec
 have hIn:=fun w=>Aj r L[i].rect w
 obtain ⟨h0a,_⟩:=Rl.ro (hrl.elem di i hi)
 obtain ⟨c,hcc⟩: ∃ c,nQ r L[i].rect=c:=⟨_,rfl⟩
 simp only [hcc] at hIn hrec
 clear hcc
 generalize L[i].rect=x at h0a hIn
 by_cases hi0:i=0
 ·
  subst hi0
  have e:eu r L=0:=by rw [hrec];cases c<;>rfl
  rw [e]
  repeat' (first|refine sT ?_|refine sS ?_|refine sM fun _=> ?_|(refine sC ?_ ?_<;>intro hb<;>try omega)|fail)
  all_goals first|(exfalso;omega)|((refine rT1 ?_);rfl)
 ·
  cases c
  ·
   rw [if_neg (by decide)] at hrec
   repeat' (first|(apply aK;exact rfl;apply ai (j:=i);exact rfl;exact rfl;exact hi)|(apply dQ (f:=232);exact rfl;exact rfl;(intro w' _;exact hIn w'))|refine sT ?_|refine sS ?_|refine sQ ?_|refine sN ?_|refine sNQ ?_|refine sO ?_|refine sOQ ?_|refine sD ?_|refine sM fun _=> ?_|(refine sC ?_ ?_<;>intro hb<;>try omega)|(refine sCQ ?_ ?_<;>intro hb<;>try omega)|fail)
   all_goals first
    |(exfalso;omega)
    |(refine ⟨i - 1,⟨by omega,by rw [Kf (by omega)];exact hrec⟩,by omega,by exact sB,by exact sB,by exact mS⟩;done)
  ·
   rw [if_pos rfl] at hrec
   rw [hrec]
   repeat' (first|(apply aK;exact rfl;apply ai (j:=i);exact rfl;exact rfl;exact hi)|(apply dQ (f:=232);exact rfl;exact rfl;(intro w' _;exact hIn w'))|refine sT ?_|refine sS ?_|refine sQ ?_|refine sN ?_|refine sNQ ?_|refine sO ?_|refine sOQ ?_|refine sD ?_|refine sM fun _=> ?_|(refine sC ?_ ?_<;>intro hb<;>try omega)|(refine sCQ ?_ ?_<;>intro hb<;>try omega)|fail)
   all_goals first|(exfalso;omega)|((refine rT1 ?_);rfl)
def jk (fns fn:Int):Bool:=decide (46≤fn) && decide (fn≤50) && decide (Go.bits .and .u8 (fns / 2 ^ (fn - 46).toNat) 1=1)
theorem CY (fns fn:Int) (w:World):ay Tryz.prog 205 [.int .u8 fns,.int .u8 fn] w (.bool (jk fns fn)):=by
 refine aq Tryz.func205 rfl Tryz.ntmps205 rfl ?_
 by_cases h:46≤fn∧fn≤50
 ·
  obtain ⟨m,hm⟩: ∃ m:Nat,fn=46+(m:Int):=⟨(fn - 46).toNat,by omega⟩
  have he:jk fns fn=decide (Go.bits .and .u8 (fns / 2 ^ m) 1=1):=by
   unfold jk
   rw [decide_eq_true h.1,decide_eq_true h.2,show (fn - 46).toNat=m by omega,IR,IR]
  rw [he]
  have hsub:IntKind.u8.wrap (fn - 46)=(m:Int):=by rw [IntKind.wrap_u8];omega
  repeat' (first|(apply aj;exact rfl;apply qB (c:=(m:Int));exact rfl;exact rfl;exact hsub)|(apply aj;exact rfl;apply xX (m:=m);exact rfl;exact rfl;(simp [IntKind.bits];omega))|(apply aj;exact rfl;apply FI;exact rfl;exact rfl)|refine sT ?_|refine sM fun _=> ?_|(refine sC ?_ ?_<;>intro hb<;>try omega)|fail)
  all_goals first|(exfalso;omega)|((refine rT1 ?_);rfl)
 ·
  have he:jk fns fn=false:=by
   unfold jk
   by_cases h1:46≤fn
   ·
    have h2: ¬ fn≤50:=fun h2=>h ⟨h1,h2⟩
    simp [h2]
   ·
    simp [h1]
  rw [he]
  repeat' (first|refine sT ?_|refine sM fun _=> ?_|(refine sC ?_ ?_<;>intro hb<;>try omega)|fail)
  all_goals first|(exfalso;omega)|((refine rT1 ?_);rfl)
def Eh (u:Int) (g:Gn):Bool:=decide (1≤g.fns) && decide (g.fns≤31) && decide (g.to &&& ~~~(fX u).1=0#64) && lC (fX u).1 g.by_
def gy (u:Int):List Gn→Int→Int × Int
 | [],_=>(0,0)
 |g::L,i=>if bq g.rect=false then (i,3) else if Eh u g=false then (i,2) else gy u L (i+1)
def lF (u:Int) (L:List Gn):Int × Int:=
 if u<0∨64<u∨u=0 then (0,2) else if 64<L.length then (64,5) else gy u L 0
theorem Gn.ro {w:World} {g o:Nat} {r:Gn} (h:Ro w g o (bB r)):Ro w g o (bu r.rect)∧Ro w g (o+4) [.int .u8 r.fns]∧Ro w g (o+5) [vS r.to]∧Ro w g (o+6) [.int .i64 r.by_]∧Ro w g (o+7) [.bool r.rev]:=
 ⟨h.take (k:=4),(h.drop (k:=4)).take (k:=1),(h.drop (k:=5)).take (k:=1),(h.drop (k:=6)).take (k:=1),h.drop (k:=7)⟩
set_option maxHeartbeats 4000000 in
theorem m3 (u:Int) (L:List Gn) (lv:Value) (w:World) (hl:Reads w lv L.length (L.flatMap bB)):ay Tryz.prog 61 [.int .i64 u,lv] w (.tuple #[.int .i64 (lF u L).1,.int .i64 (lF u L).2]):=by
 obtain ⟨Al,cl,rfl,hl1,hl2,hl3⟩:=hl
 refine aq Tryz.func61 rfl Tryz.ntmps61 rfl ?_
 have hA:=fun w=>xN u w
 unfold lF
 have hE:(fX u).2=if u<0∨64<u then 3 else 0:=by unfold fX;split<;>rfl
 obtain ⟨sa,has⟩: ∃ sa,sa=(fX u).1:=⟨_,rfl⟩
 rw [← has,hE] at hA
 by_cases h1:u<0∨64<u∨u=0
 ·
  rw [if_pos h1]
  by_cases h2:u<0∨64<u
  ·
   rw [if_pos h2] at hA
   repeat' (first|(apply ah;exact rfl;exact rfl;(intro w hm;exact hA w))|refine sT ?_|refine sM fun _=> ?_|(refine sC ?_ ?_<;>intro hb<;>try omega)|fail)
   all_goals first|(exfalso;omega)|((refine rT2 ?_);rfl)
  ·
   rw [if_neg h2] at hA
   repeat' (first|(apply ah;exact rfl;exact rfl;(intro w hm;exact hA w))|refine sT ?_|refine sM fun _=> ?_|(refine sC ?_ ?_<;>intro hb<;>try omega)|fail)
   all_goals first|(exfalso;omega)|((refine rT2 ?_);rfl)
 rw [if_neg h1]
 rw [if_neg (by omega)] at hA
 by_cases h64:64<L.length
 ·
  rw [if_pos h64]
  repeat' (first|(apply ah;exact rfl;exact rfl;(intro w hm;exact hA w))|refine sT ?_|refine sM fun _=> ?_|(refine sC ?_ ?_<;>intro hb<;>try omega)|fail)
  all_goals first|(exfalso;omega)|((refine rT2 ?_);rfl)
 rw [if_neg h64]
 repeat' (first|(apply ah;exact rfl;exact rfl;(intro w hm;exact hA w))|refine sT ?_|refine sM fun _=> ?_|(refine sC ?_ ?_<;>intro hb<;>try omega)|fail)
 all_goals try (exfalso;omega)
 refine ax [1,6,23,24] rfl (fun i:Nat=> [(25,.int .i64 (i:Int))]) (fun _=> []) (fun i=>i≤L.length∧gy u L 0=gy u (L.drop i) (i:Int)) (fun i=>L.length - i) 0 ⟨H5 _,rfl⟩ sB mS ?_
 rintro i ⟨hi,hrec⟩
 by_cases hlt:i<L.length
 ·
  obtain ⟨gl,ol,rfl,hrl⟩:=hl3 (by omega)
  have he1:=hrl.elem il i hlt
  rw [H6 hlt,gy,Eh,← has] at hrec
  generalize L[i]=r at hrec he1
  have hck:=fun w=>f9 r.rect w
  have hhs:=fun w=>lT sa r.by_ w
  generalize lC sa r.by_=hb at hhs hrec
  repeat' (first|(apply ah;exact rfl;exact rfl;(intro w hm;exact hck w))|(apply ah;exact rfl;exact rfl;(intro w hm;exact hhs w))|(apply aj;exact rfl;apply dL (b:=sa);exact rfl;exact rfl)|(apply aj;exact rfl;apply fZ (b:=0#64);exact rfl;exact rfl)|refine sT ?_|refine sN ?_|refine sO ?_|refine sM fun _=> ?_|(refine sC ?_ ?_<;>intro hb<;>try omega)|fail)
  all_goals first
   |(exfalso;omega)
   |((refine rT2 ?_);rw [hrec,if_pos (jK hb)];done)
   |((refine rT2 ?_);rw [hrec,if_neg (fL ‹_›),if_pos (by first|(rw [decide_eq_false (show ¬ (1:Int)≤r.fns by omega)];rfl)|(rw [decide_eq_false (show ¬ r.fns≤(31:Int) by omega),IK];rfl)|(rw [decide_eq_false hb,IK];rfl)|(rw [hb,IK]))];done)
   |(refine ⟨i+1,⟨hlt,by rw [hrec,if_neg (fL ‹_›),if_neg (by simp_all)];rfl⟩,by omega,by exact sB,by exact sB,by exact mS⟩;done)
 ·
  have e:i=L.length:=by omega
  subst e
  rw [I3,gy] at hrec
  rw [hrec]
  repeat' (first|refine sT ?_|refine sM fun _=> ?_|(refine sC ?_ ?_<;>intro hb<;>try omega)|fail)
  all_goals first|(exfalso;omega)|((refine rT2 ?_);rfl)
def kO (all:BitVec 64):Int→List Ev→Int
 |_,[]=>0
 |last,x::l=>if x.step≤last then 12 else if (BZ x.kind && lC all x.user)=false then 2 else if bq x.rect=false then 3 else if (decide (x.to &&& ~~~all=0#64) && lC x.to x.user)=false then 2 else kO all x.step l
def FQ (all:BitVec 64) (x:Rv):Bool:=decide (0≤x.call.node) && decide (x.call.node<256) && decide (46≤x.fn) && decide (x.fn≤50) && decide (0≤x.grant) && decide (x.grant<64) && decide (x.to &&& ~~~all=0#64)
def l8 (all:BitVec 64):Int→List Rv→Int
 |_,[]=>0
 |last,x::l=>if x.step<last then 12 else if (x.call.at_.valid && bq x.rect)=false then 3 else if FQ all x=false then 2 else l8 all x.step l
def z1 (u:Int) (L:List Ev) (M:List Rv):Int:=
 if u<0∨64<u∨u=0 then 2 else if kO (fX u).1 (-1) L≠0 then kO (fX u).1 (-1) L else l8 (fX u).1 (-1) M
theorem qV {r:Rct}:bq r=false↔eZ r≠0:=⟨fun h=>by rw [eZ,h];decide,jK⟩
theorem Ev.ro {w:World} {g o:Nat} {r:Ev} (h:Ro w g o (ed r)):Ro w g o [.int .i64 r.step]∧Ro w g (o+1) [.int .i64 r.user]∧Ro w g (o+2) [.int .u8 r.kind]∧Ro w g (o+3) (bu r.rect)∧Ro w g (o+7) [.bool r.done]∧Ro w g (o+8) [vS r.to]:=
 ⟨h.take (k:=1),(h.drop (k:=1)).take (k:=1),(h.drop (k:=2)).take (k:=1),(h.drop (k:=3)).take (k:=4),(h.drop (k:=7)).take (k:=1),h.drop (k:=8)⟩
def pq (L:List Ev) (i:Nat):Int:=if i=0 then -1 else ((L[i - 1]?).map Ev.step).getD 0
def ph (L:List Rv) (i:Nat):Int:=if i=0 then -1 else ((L[i - 1]?).map Rv.step).getD 0
set_option maxHeartbeats 8000000 in
theorem vM (u:Int) (L:List Ev) (M:List Rv) (lv mv:Value) (w:World) (hl:Reads w lv L.length (L.flatMap ed)) (hm:Reads w mv M.length (M.flatMap aH)):ay Tryz.prog 62 [.int .i64 u,lv,mv] w (.int .i64 (z1 u L M)):=by
 obtain ⟨Al,cl,rfl,hl1,hl2,hl3⟩:=hl
 obtain ⟨Am,cm,rfl,hm1,hm2,hm3⟩:=hm
 refine aq Tryz.func62 rfl Tryz.ntmps62 rfl ?_
 have hA:=fun w=>xN u w
 unfold z1
 have hE:(fX u).2=if u<0∨64<u then 3 else 0:=by unfold fX;split<;>rfl
 obtain ⟨sa,has⟩: ∃ sa,sa=(fX u).1:=⟨_,rfl⟩
 rw [← has,hE] at hA
 rw [← has]
 by_cases h1:u<0∨64<u∨u=0
 ·
  rw [if_pos h1]
  by_cases h2:u<0∨64<u
  ·
   rw [if_pos h2] at hA
   repeat' (first|(apply ah;exact rfl;exact rfl;(intro w hm;exact hA w))|refine sT ?_|refine sM fun _=> ?_|(refine sC ?_ ?_<;>intro hb<;>try omega)|fail)
   all_goals first|(exfalso;omega)|((refine rT1 ?_);rfl)
  ·
   rw [if_neg h2] at hA
   repeat' (first|(apply ah;exact rfl;exact rfl;(intro w hm;exact hA w))|refine sT ?_|refine sM fun _=> ?_|(refine sC ?_ ?_<;>intro hb<;>try omega)|fail)
   all_goals first|(exfalso;omega)|((refine rT1 ?_);rfl)
 rw [if_neg h1]
 rw [if_neg (by omega)] at hA
 repeat' (first|(apply ah;exact rfl;exact rfl;(intro w hm;exact hA w))|refine sT ?_|refine sM fun _=> ?_|(refine sC ?_ ?_<;>intro hb<;>try omega)|fail)
 all_goals try (exfalso;omega)
 obtain ⟨ef,hef⟩: ∃ ef,kO sa (-1) L=ef:=⟨_,rfl⟩
 rw [hef]
 refine ax [0,1,2,7,25,26] rfl (fun i:Nat=> [(9,.int .i64 (pq L i)),(27,.int .i64 (i:Int))]) (fun _=> []) (fun i=>i≤L.length∧ef=kO sa (pq L i) (L.drop i)) (fun i=>L.length - i) 0 ⟨H5 _,hef.symm⟩ sB mS ?_
 rintro i ⟨hi,hrec⟩
 by_cases hlt:i<L.length
 ·
  obtain ⟨gl,ol,rfl,hrl⟩:=hl3 (by omega)
  have he1:=hrl.elem jR i hlt
  have hnext:pq L (i+1)=L[i].step:=by unfold pq;rw [if_neg (by omega),JN,HY hlt];rfl
  rw [H6 hlt,kO] at hrec
  generalize pq L i=last at hrec
  generalize L[i]=r at hnext he1 hrec
  have hck:=fun w=>f9 r.rect w
  have hhs:=fun w=>lT sa r.user w
  have hht:=fun w=>lT r.to r.user w
  have hmu:=fun w=>vV r.kind w
  simp only [qV] at hrec
  generalize eZ r.rect=re at hck hrec
  clear has
  generalize BZ r.kind=mk at hmu hrec
  generalize lC sa r.user=hb1 at hhs hrec
  generalize lC r.to r.user=hb2 at hht hrec
  repeat' (first|(apply aj;exact rfl;apply aA;exact rfl;exact he1;exact rfl)|(apply ah;exact rfl;exact rfl;(intro w hm;exact hmu w))|(apply ah (f:=118);exact rfl;exact rfl;(intro w' _;first|exact hhs w' |exact hht w'))|(apply ah;exact rfl;exact rfl;(intro w hm;exact hck w))|(apply aj;exact rfl;apply dL (b:=sa);exact rfl;exact rfl)|(apply aj;exact rfl;apply fZ (b:=0#64);exact rfl;exact rfl)|refine sT ?_|refine sS ?_|refine sN ?_|refine sO ?_|refine sM fun _=> ?_|(refine sC ?_ ?_<;>intro hb<;>try omega)|fail)
  all_goals try (have hnl: ¬ r.step≤last:=by omega)
  all_goals first
   |(exfalso;omega)
   |(refine ⟨i+1,⟨hlt,?_⟩,by omega,by (try simp only [hnext]);exact sB,by (try simp only [hnext]);exact sB,by exact mS⟩;rw [hnext];simp_all;done)
   |((refine rT1 ?_);simp_all;done)
 ·
  have e:i=L.length:=by omega
  subst e
  rw [I3,kO] at hrec
  subst hrec
  rw [if_neg (by decide)]
  obtain ⟨rf,hrf⟩: ∃ rf,l8 sa (-1) M=rf:=⟨_,rfl⟩
  rw [hrf]
  repeat' (first|refine sT ?_|refine sM fun _=> ?_|(refine sC ?_ ?_<;>intro hb<;>try omega)|fail)
  refine ax [0,2,7,71,72] rfl (fun i:Nat=> [(9,.int .i64 (ph M i)),(73,.int .i64 (i:Int))]) (fun _=> []) (fun i=>i≤M.length∧rf=l8 sa (ph M i) (M.drop i)) (fun i=>M.length - i) 0 ⟨H5 _,hrf.symm⟩ sB mS ?_
  rintro i ⟨hi,hrec⟩
  by_cases hlt:i<M.length
  ·
   obtain ⟨gm,om,rfl,hrm⟩:=hm3 (by omega)
   have he1:=hrm.elem cf i hlt
   have hnext:ph M (i+1)=M[i].step:=by unfold ph;rw [if_neg (by omega),JN,HY hlt];rfl
   rw [H6 hlt,l8] at hrec
   generalize ph M i=last at hrec
   generalize M[i]=r at hnext he1 hrec
   have hck:=fun w=>f9 r.rect w
   have hV: ∀ w',ay Tryz.prog 71 [.agg (aQ r.call.at_).toArray] w' (.bool r.call.at_.valid):=fun w' =>fJ r.call.at_.col r.call.at_.row w'
   have hok:FQ sa r=false↔(r.call.node<0∨256≤r.call.node∨r.fn<46∨50<r.fn∨r.grant<0∨64≤r.grant∨r.to &&& ~~~sa≠0#64):=by
    simp only [FQ,JO,decide_eq_false_iff_not,Int.not_le,Int.not_lt,or_assoc]
   simp only [hok] at hrec
   clear hok
   simp only [JO,qV] at hrec
   generalize eZ r.rect=re at hck hrec
   clear has
   generalize r.call.at_.valid=vd at hV hrec
   by_cases h12:r.step<last
   ·
    rw [if_pos h12] at hrec
    repeat' (first|(apply aj;exact rfl;apply aA;exact rfl;exact he1;exact rfl)|(apply ah;exact rfl;exact rfl;(intro w hm;exact hV w))|(apply ah;exact rfl;exact rfl;(intro w hm;exact hck w))|(apply aj;exact rfl;apply dL (b:=sa);exact rfl;exact rfl)|(apply aj;exact rfl;apply fZ (b:=0#64);exact rfl;exact rfl)|refine sT ?_|refine sS ?_|refine sN ?_|refine sO ?_|refine sM fun _=> ?_|(refine sC ?_ ?_<;>intro hb<;>try omega)|fail)
    all_goals first|(exfalso;omega)|((refine rT1 ?_);rw [hrec];done)
   rw [if_neg h12] at hrec
   by_cases h3:vd=false∨re≠0
   ·
    rw [if_pos h3] at hrec
    repeat' (first|(apply aj;exact rfl;apply aA;exact rfl;exact he1;exact rfl)|(apply ah;exact rfl;exact rfl;(intro w hm;exact hV w))|(apply ah;exact rfl;exact rfl;(intro w hm;exact hck w))|(apply aj;exact rfl;apply dL (b:=sa);exact rfl;exact rfl)|(apply aj;exact rfl;apply fZ (b:=0#64);exact rfl;exact rfl)|refine sT ?_|refine sS ?_|refine sN ?_|refine sO ?_|refine sM fun _=> ?_|(refine sC ?_ ?_<;>intro hb<;>try omega)|fail)
    all_goals first
     |(exfalso;omega)
     |(exfalso;rcases h3 with h3|h3<;>simp_all;done)
     |((refine rT1 ?_);rw [hrec];done)
   rw [if_neg h3] at hrec
   obtain ⟨h31,h32⟩:=not_or.1 h3
   have h31:vd=true:=by simpa using h31
   have h32:re=0:=by omega
   subst h31;subst h32
   by_cases hD:r.call.node<0∨256≤r.call.node∨r.fn<46∨50<r.fn∨r.grant<0∨64≤r.grant∨r.to &&& ~~~sa≠0#64
   ·
    rw [if_pos hD] at hrec
    repeat' (first|(apply aj;exact rfl;apply aA;exact rfl;exact he1;exact rfl)|(apply ah;exact rfl;exact rfl;(intro w hm;exact hV w))|(apply ah;exact rfl;exact rfl;(intro w hm;exact hck w))|(apply aj;exact rfl;apply dL (b:=sa);exact rfl;exact rfl)|(apply aj;exact rfl;apply fZ (b:=0#64);exact rfl;exact rfl)|refine sT ?_|refine sS ?_|refine sN ?_|refine sO ?_|refine sM fun _=> ?_|(refine sC ?_ ?_<;>intro hb<;>try omega)|fail)
    all_goals first
     |(exfalso;omega)
     |((refine rT1 ?_);rw [hrec];done)
     |(exfalso;rcases hD with h|h|h|h|h|h|h<;>first|omega|exact absurd ‹_› h)
   ·
    rw [if_neg hD] at hrec
    repeat' (first|(apply aj;exact rfl;apply aA;exact rfl;exact he1;exact rfl)|(apply ah;exact rfl;exact rfl;(intro w hm;exact hV w))|(apply ah;exact rfl;exact rfl;(intro w hm;exact hck w))|(apply aj;exact rfl;apply dL (b:=sa);exact rfl;exact rfl)|(apply aj;exact rfl;apply fZ (b:=0#64);exact rfl;exact rfl)|refine sT ?_|refine sS ?_|refine sN ?_|refine sO ?_|refine sM fun _=> ?_|(refine sC ?_ ?_<;>intro hb<;>try omega)|fail)
    all_goals first
     |(exfalso;omega)
     |(exfalso;exact hD (.inr (.inr (.inr (.inr (.inr (.inr hb)))))))
     |(refine ⟨i+1,⟨hlt,?_⟩,by omega,by (try simp only [hnext]);exact sB,by (try simp only [hnext]);exact sB,by exact mS⟩;rw [hnext,hrec];done)
  ·
   have e:i=M.length:=by omega
   subst e
   rw [I3,l8] at hrec
   subst hrec
   repeat' (first|refine sT ?_|refine sM fun _=> ?_|(refine sC ?_ ?_<;>intro hb<;>try omega)|fail)
   all_goals first|(exfalso;omega)|((refine rT1 ?_);rfl)
--
def bL (p:Int × Int):List Value:= [.int .i64 p.1,.int .i64 p.2]
theorem fD (p:Int × Int):(bL p).length=2:=rfl
theorem vJ (lo:Int) (ps:List (Int × Int)) (p:Int × Int):bJ lo (ps++ [p])=bJ lo ps++ [p.1,p.2+1]:=by
 unfold bJ;simp
def kK (lo hi x:Int):Bool:=decide (lo≤x) && decide (x≤hi)
theorem zt {l:List Int} {h x:Int} (hl:l≠ []):((bZ l h).flatMap bL).set (0+((bZ l h).length - 1)*2+1) (du (x - 1))=(bZ l (x - 1)).flatMap bL:=by
 obtain ⟨f,a,h1,h2⟩:=uJ l h (x - 1) hl
 rw [h1,h2]
 simp only [I2,HV,Ii,JN,IP,Jd,Ig,bL]
 rw [J4 _ _ (by rw [aC fD];omega),aC fD]
 congr 1
 rw [show 0+f.length*2+1 - f.length*2=1 by omega]
 rfl
set_option maxHeartbeats 8000000 in
theorem vL (lo hi:Int) (ps:List (Int × Int)) (lv:Value) (w:World) (hl:Reads w lv ps.length (ps.flatMap bL)) (hn:ps.length≤100000) (hlo:0≤lo∧lo≤100000) (hhi:0≤hi∧hi≤100000) (hps: ∀ p∈ps,0≤p.1∧p.1≤100000∧0≤p.2∧p.2≤100000):
    aF Tryz.prog 182 [.int .i64 lo,.int .i64 hi,lv] w fun v H=> ∃ A cap,v=sl A (bC lo hi ps).length cap∧H= [.own A 189 2 (bC lo hi ps).length cap ((bC lo hi ps).flatMap bL)]:=by
  obtain ⟨Al,cl,rfl,hl1,hl2,hl3⟩:=hl
  refine aq Tryz.func182 rfl Tryz.ntmps182 rfl ?_
  repeat' (first|refine sT ?_|refine sS ?_|refine sT2 ?_|refine sM fun _=> ?_|(refine sC ?_ ?_<;>intro hb<;>try omega)|fail)
  rename_i gb
  refine ax [0,1,15,16] rfl (fun y:Nat × Option Nat × Nat=> [(7,sl y.2.1 (1+2*y.1) y.2.2),(17,.int .i64 (y.1:Int))]) (fun y=> [.own y.2.1 3 1 (1+2*y.1) y.2.2 ((bJ lo (ps.take y.1)).map du)]) (fun y=>y.1≤ps.length) (fun y=>ps.length - y.1) (0,some gb,1) (H5 _) sB mS ?_
  rintro ⟨i,A,c⟩ hi0
  dsimp only at hi0 ⊢
  by_cases hlt:i<ps.length
  · obtain ⟨gl,ol,rfl,hrl⟩:=hl3 (by omega)
    have he1:=hrl.elem fD i hlt
    have hbs:bJ lo (ps.take (i+1))=bJ lo (ps.take i)++ [ps[i].1,ps[i].2+1]:=by rw [H7 hlt,vJ]
    have hpb:=hps _ (I7 hlt)
    generalize ps[i]=p at he1 hbs hpb
    repeat' (first|(apply aV (A:=A) (m:=2);(iterate 3 exact rfl);exact pK;(intro w hm;exact hm.cells_own pK);exact rfl;(simp [Value.oneCell',sl]);omega;(simp only [maxLen];omega);(intro A' cap' hA'))|refine sT ?_|refine sS ?_|refine sT2 ?_|refine sN ?_|refine sJ ?_|refine sO ?_|refine sM fun _=> ?_|(refine sC ?_ ?_<;>intro hb<;>try omega)|fail)
    all_goals first
      |(exfalso;omega)
      | (refine ⟨(i + 1, A', cap'), hlt, by dsimp only; omega, by exact sB, by exact sB, ?_⟩
         dsimp only
         rw [hbs,IQ]
         exact mS)
  · have e:i=ps.length:=by omega
    subst e
    rw [IX]
    have hbl:=nj lo ps
    have hs1:=fun (R:List Blk)=>uo (bJ lo ps) A c (by omega) R w
    have hsl:(eY (bJ lo ps)).length=1+2*ps.length:=by rw [(eD _).length_eq,hbl]
    have hs2:=fun (R:List Blk)=>v6 (eY (bJ lo ps)) A c (by omega) R w
    rw [hbl] at hs1
    rw [hsl] at hs2
    have hcl:=pW (eY (bJ lo ps))
    rw [hsl] at hcl
    have hcut:pV lo hi ps=(dE (eY (bJ lo ps))).filter (kK lo hi):=rfl
    have hbd: ∀ x∈dE (eY (bJ lo ps)),0≤x∧x≤100001:=fun x hx=>by
      rw [jm,(eD _).mem_iff,bJ,Ie,I6] at hx
      rcases hx with rfl|⟨p,hp,hx⟩
      · omega
      · have:=hps p hp
        simp at hx
        omega
    unfold bC
    rw [hcut]
    generalize dE (eY (bJ lo ps))=C at hs2 hcl hbd
    refine aw 189 2 ?_
    repeat' (first|(apply aB (f:=230);exact rfl;exact rfl;exact FnIn.msub (hs1 _) (MSub.pick pK (MSub.refl _));rintro _ _ ⟨rfl,rfl⟩)|(apply aB (f:=231);exact rfl;exact rfl;exact FnIn.msub (hs2 _) (MSub.pick pK (MSub.refl _));rintro _ _ ⟨rfl,rfl⟩)|refine sT ?_|refine sS ?_|refine sT2 ?_|refine sN ?_|refine sM fun _=> ?_|(refine sC ?_ ?_<;>intro hb<;>try omega)|fail)
    all_goals try (exfalso;omega)
    refine ax [0,1,33,34] rfl (fun y:Nat × Option Nat × Nat=> [(10,sl y.2.1 (bZ ((C.take y.1).filter (kK lo hi)) hi).length y.2.2),(35,.int .i64 (y.1:Int))]) (fun y=> [.own y.2.1 189 2 (bZ ((C.take y.1).filter (kK lo hi)) hi).length y.2.2 ((bZ ((C.take y.1).filter (kK lo hi)) hi).flatMap bL),.own A 3 1 C.length c (C.map du)]) (fun y=>y.1≤C.length) (fun y=>C.length - y.1) (0,none,0) (H5 _) sB mS ?_
    rintro ⟨k,A2,c2⟩ hk
    dsimp only at hk ⊢
    by_cases hlk:k<C.length
    · refine ez (A:=A) pK (by omega) fun gc hA=> ?_
      subst hA
      have hrd:(C.map du)[0+k*1]? =some (.int .i64 C[k]):=FU hlk
      have hxb:=hbd _ (I7 hlk)
      have hfs:(C.take (k+1)).filter (kK lo hi)=if kK lo hi C[k]=true then (C.take k).filter (kK lo hi)++ [C[k]] else (C.take k).filter (kK lo hi):=by
        rw [H7 hlk,List.filter_append]
        cases h:kK lo hi C[k]<;>simp [h]
      have hfl:((C.take k).filter (kK lo hi)).length≤300000:=IW (J5 _ _) (by rw [IU];omega)
      generalize hx:C[k]=x at hrd hxb hfs
      generalize hF:(C.take k).filter (kK lo hi)=Fk at hfs hfl
      have hpl:=iO hi Fk
      by_cases hin:lo≤x∧x≤hi
      · have hin2:kK lo hi x=true:=by simp [kK,hin.1,hin.2]
        rw [if_pos hin2] at hfs
        have hsn:=gj x hi Fk
        rw [← hfs] at hsn
        have hpl2:=iO (x - 1) Fk
        by_cases h0:Fk= []
        · subst h0
          rw [show bZ [] (x - 1)= [] from rfl,HZ] at hsn
          repeat' (first|(apply aj (d:=37);exact rfl;apply ai (j:=k);exact rfl;exact rfl;exact hlk)|(apply aj (d:=38);exact rfl;apply aP;exact rfl;exact pK;exact hrd)|(apply aj;exact rfl;apply jG;(iterate 5 exact rfl))|(apply aV (A:=A2) (m:=1);(iterate 3 exact rfl);exact pK;(intro w hm;exact hm.cells_own pK);exact rfl;(simp [Value.oneCell',sl]);omega;(simp only [maxLen];omega);(intro A' cap' hA'))|refine sT ?_|refine sS ?_|refine sT2 ?_|refine sN ?_|refine sJ ?_|refine sO ?_|refine sM fun _=> ?_|(refine sC ?_ ?_<;>intro hb<;>try omega)|fail)
          all_goals first
            |(exfalso;omega)
            | (refine ⟨(k + 1, A', cap'), hlk, by dsimp only; omega, ?_, by exact sB, ?_⟩
               · dsimp only;rw [hsn];exact sB
               · dsimp only;rw [hsn];exact mS)
        · have hpos:0<Fk.length:=Jc.2 h0
          have hset:=zt (h:=hi) (x:=x) h0
          rw [hpl] at hset
          refine ez (A:=A2) pK (by omega) fun g2 hA=> ?_
          subst hA
          rw [hpl]
          repeat' (first|(apply aj (d:=37);exact rfl;apply ai (j:=k);exact rfl;exact rfl;exact hlk)|(apply aj (d:=38);exact rfl;apply aP;exact rfl;exact pK;exact hrd)|(apply aj (d:=53);exact rfl;apply da (a:=Fk.length);exact rfl;exact rfl;omega;(simp only [maxLen];omega))|(apply aj (d:=56);exact rfl;apply ai (j:=Fk.length - 1);exact rfl;exact rfl;omega)|(apply iz (v:=du (x - 1)) (off:=0+(Fk.length - 1)*2+1);exact rfl;exact rfl;exact pK;exact rfl;(rw [aC fD,hpl];omega);rw [hset])|(apply aj;exact rfl;apply jG;(iterate 5 exact rfl))|(apply aV (A:=some g2) (m:=1);(iterate 3 exact rfl);exact pK;(intro w hm;exact hm.cells_own pK);exact rfl;(simp [Value.oneCell',sl]);omega;(simp only [maxLen];omega);(intro A' cap' hA'))|refine sT ?_|refine sS ?_|refine sT2 ?_|refine sN ?_|refine sJ ?_|refine sO ?_|refine sM fun _=> ?_|(refine sC ?_ ?_<;>intro hb<;>try omega)|fail)
          all_goals first
            |(exfalso;omega)
            | (refine ⟨(k + 1, A', cap'), hlk, by dsimp only; omega, ?_, by exact sB, ?_⟩
               · dsimp only;rw [hsn,List.length_append,hpl2];exact sB
               · dsimp only;rw [hsn,List.length_append,hpl2,List.flatMap_append];exact mS)
      · have hin2: ¬ kK lo hi x=true:=by simp only [kK,IB,decide_eq_true_eq];exact hin
        rw [if_neg hin2] at hfs
        repeat' (first|(apply aj (d:=37);exact rfl;apply ai (j:=k);exact rfl;exact rfl;exact hlk)|(apply aj (d:=38);exact rfl;apply aP;exact rfl;exact pK;exact hrd)|refine sT ?_|refine sS ?_|refine sT2 ?_|refine sN ?_|refine sJ ?_|refine sO ?_|refine sM fun _=> ?_|(refine sC ?_ ?_<;>intro hb<;>try omega)|fail)
        all_goals first
          |(exfalso;omega)
          | (refine ⟨(k + 1, A2, c2), hlk, by dsimp only; omega, ?_, by exact sB, ?_⟩
             · dsimp only;rw [hfs];exact sB
             · dsimp only;rw [hfs];exact mS)
    · have e:k=C.length:=by omega
      subst e
      rw [IX]
      repeat' (first|refine sT ?_|refine sS ?_|refine sT2 ?_|refine sM fun _=> ?_|(refine sC ?_ ?_<;>intro hb<;>try omega)|fail)
      all_goals first
        |(exfalso;omega)
        |(exact bI eIO rfl rfl mS ⟨A2,c2,rfl,rfl⟩)
end Go.SL
namespace Go.SL
open Go Go.Proofs
def ik (p:Nat × Nat):List Value:= [.int .i64 (p.1:Int),.int .i64 (p.2:Int)]
theorem BF (w:World) (d:Nat) (a b:Nat × Nat):(Op.equalIn (d+5) 189 (.agg (ik a).toArray) (.agg (ik b).toArray)).run Tryz.prog w= .ok (decide (a=b)) w:=by
 obtain ⟨i,h1,h2⟩:=(inferInstance:Size Tryz.prog 3 1).out
 have hc:Tryz.prog.cellsOf 3=1:=by kernel_rfl
 rw [run_equalIn_array w (d+4) (ik a).toArray (ik b).toArray Tryz.underlying189 h1,hc,show List.range 2= [0,1] from rfl]
 have hr: ∀ (a b:Int) w,(Op.equalIn (d+4) 3 (.int .i64 a) (.int .i64 b)).run Tryz.prog w= .ok (a==b) w:=fun a b w=>run_equalIn_int w (d+3) 3 .i64 .i64 a b Tryz.underlying3
 have hpa: ∀ (c:Nat × Nat) w,(part 3 (ik c).toArray 0).run Tryz.prog w= .ok (.int .i64 (c.1:Int)) w:=by
  intro c w
  simp [part,go_sem,ik]
 have hpb: ∀ (c:Nat × Nat) w,(part 3 (ik c).toArray 1).run Tryz.prog w= .ok (.int .i64 (c.2:Int)) w:=by
  intro c w
  simp [part,go_sem,ik]
 have he:decide (a=b)=((a.1:Int)==b.1 && (a.2:Int)==b.2):=by
  obtain ⟨a1,a2⟩:=a
  obtain ⟨b1,b2⟩:=b
  rw [I4]
  simp
  omega
 rw [he]
 by_cases h1:((a.1:Int)==b.1)=true<;>by_cases h2:((a.2:Int)==b.2)=true<;>simp [Op.eqItems,hpa,hpb,hr,h1,h2]
theorem xZ {w0:World} {s:ap} {H:List Blk} {ty t' :TypeId} {x y:Operand} {a b:Nat × Nat} {c:Bool} (hc:decide (a=b)=c) (hx:ev s x=some (.agg (ik a).toArray)) (hy:ev s y=some (.agg (ik b).toArray)):VOp Tryz.prog w0 s H (.binOp .eql 189 x y t') ty (.bool c):=fun ρ w _ _ _ _ hρ _=>by
 subst hc
 have h:=BF w 9995 a b
 simp only [Nat.reduceAdd] at h
 simp only [execOp,hρ x _ hx,hρ y _ hy,Sem.run_bind,run_eqGuard_agg w _ _ _ _ _ _ Tryz.eqGuardType189,Result.andThen_ok,run_eql_struct,h,Sem.run_pure]
end Go.SL
namespace Go.SL
open Go Go.Proofs
attribute [local irreducible] W WL WQ WG WA WX WLI WR WT WC WE VOp RW thn blk bo scp aN bf bi aF FnIn FnP ceP
theorem yo {a b:Rct} (h:(cP a b).2=true):bq (cP a b).1=true:=by
 unfold cP at h ⊢
 split at h
 ·
  rename_i hall
  rw [if_pos hall]
  simp only [List.all_cons,List.all_nil,IV,IB] at hall
  exact hall.2.2
 ·
  cases h
theorem vD (r:Rct) (L:List Rl) (x:Rl):aJ r (L++ [x])=aJ r L++if (cP x.rect r).2=true then [((cP x.rect r).1.c1,(cP x.rect r).1.c2)] else []:=by
 unfold aJ;simp
theorem uz (r:Rct) (L:List Rl) (x:Rl):aI r (L++ [x])=aI r L++if (cP x.rect r).2=true then [((cP x.rect r).1.r1,(cP x.rect r).1.r2)] else []:=by
 unfold aI;simp
theorem cD (r:Rct): ∀ L:List Rl,(aJ r L).length≤L.length
 | []=>Ih _
 |x::L=>by
  have:=cD r L
  unfold aJ at this ⊢
  rw [IP,HV]
  split<;>simp only [IA,JY]<;>omega
theorem ck (r:Rct): ∀ L:List Rl,(aI r L).length≤L.length
 | []=>Ih _
 |x::L=>by
  have:=ck r L
  unfold aI at this ⊢
  rw [IP,HV]
  split<;>simp only [IA,JY]<;>omega
theorem lM {r:Rct} {L:List Rl}: ∀ p∈aJ r L,0≤p.1∧p.1≤100000∧0≤p.2∧p.2≤100000:=fun p hp=>by
 obtain ⟨x,_,hx⟩:=I6.1 hp
 split at hx
 ·
  rename_i h
  have:=iM.1 (yo h)
  rw [Iz.1 hx]
  simp only;omega
 ·
  cases hx
theorem lh {r:Rct} {L:List Rl}: ∀ p∈aI r L,0≤p.1∧p.1≤100000∧0≤p.2∧p.2≤100000:=fun p hp=>by
 obtain ⟨x,_,hx⟩:=I6.1 hp
 split at hx
 ·
  rename_i h
  have:=iM.1 (yo h)
  rw [Iz.1 hx]
  simp only;omega
 ·
  cases hx
def mU (g:Nat) (A:Option Nat) (c:Nat) (C:List (Int × Int)):List Blk:= [.box g 232 [sl A C.length c],.own A 189 2 C.length c (C.flatMap bL)]
set_option maxHeartbeats 8000000 in
theorem yj (r:Rct) (L:List Rl) (lv:Value) (gr gc gw:Nat) (A1 A2:Option Nat) (c1 c2:Nat) (C D:List (Int × Int)) (R:List Blk) (w0:World) (hl:Reads w0 lv L.length (L.flatMap bH)) (hC:C.length+L.length≤100000) (hD:D.length+L.length≤100000):
  FnIn Tryz.prog 180 [lv,.pointer (some ⟨gr,0,none⟩),.pointer (some ⟨gc,0,none⟩),.pointer (some ⟨gw,0,none⟩)] w0 (.box gr 32 (bu r)::(mU gc A1 c1 C++(mU gw A2 c2 D++R))) fun v H=>
   v= .tuple #[]∧ ∃ A1' c1' A2' c2',H= .box gr 32 (bu r)::(mU gc A1' c1' (C++aJ r L)++(mU gw A2' c2' (D++aI r L)++R)):=by
 obtain ⟨Al,cl,rfl,hl1,hl2,hl3⟩:=hl
 refine fc Tryz.func180 rfl Tryz.ntmps180 rfl ?_
 simp only [mU,Ij,HW,HZ]
 repeat' (first|refine sT ?_|refine sS ?_|refine sM fun _=> ?_|(refine sC ?_ ?_<;>intro hb<;>try omega)|fail)
 refine ax [1,2,3,9,10] rfl (fun y:Nat × Option Nat × Nat × Option Nat × Nat=> [(11,.int .i64 (y.1:Int))]) (fun y=> .box gr 32 (bu r):: .box gc 232 [sl y.2.1 (C++aJ r (L.take y.1)).length y.2.2.1]:: .own y.2.1 189 2 (C++aJ r (L.take y.1)).length y.2.2.1 ((C++aJ r (L.take y.1)).flatMap bL):: .box gw 232 [sl y.2.2.2.1 (D++aI r (L.take y.1)).length y.2.2.2.2]:: .own y.2.2.2.1 189 2 (D++aI r (L.take y.1)).length y.2.2.2.2 ((D++aI r (L.take y.1)).flatMap bL)::R) (fun y=>y.1≤L.length) (fun y=>L.length - y.1) (0,A1,c1,A2,c2) (H5 _) sB (by simp only [JA,aJ,aI,Jd,Ig];exact mS) ?_
 rintro ⟨i,A1,c1,A2,c2⟩ hi
 dsimp only at hi ⊢
 by_cases hlt:i<L.length
 ·
  obtain ⟨gl,ol,rfl,hrl⟩:=hl3 (by omega)
  have he1:=hrl.elem di i hlt
  have hcs:=vD r (L.take i) L[i]
  have hws:=uz r (L.take i) L[i]
  rw [← H7 hlt] at hcs hws
  have hcl:=cD r (L.take i)
  have hwl:=ck r (L.take i)
  rw [IU] at hcl hwl
  generalize L[i]=x at he1 hcs hws
  have hM:=fun w=>yG x.rect r w
  generalize cP x.rect r=mt at hM hcs hws
  obtain ⟨mr,mb⟩:=mt
  dsimp only at hM hcs hws
  generalize aJ r (L.take i)=C1 at hcs hcl ⊢
  generalize aI r (L.take i)=D1 at hws hwl ⊢
  have hCl:(C++C1).length≤200000:=by rw [HV];omega
  have hDl:(D++D1).length≤200000:=by rw [HV];omega
  have hC2:C++aJ r (L.take (i+1))=(C++C1)++if mb=true then [(mr.c1,mr.c2)] else []:=by rw [hcs,Il]
  have hD2:D++aI r (L.take (i+1))=(D++D1)++if mb=true then [(mr.r1,mr.r2)] else []:=by rw [hws,Il]
  generalize C++C1=C3 at hC2 hCl ⊢
  generalize D++D1=D3 at hD2 hDl ⊢
  cases mb
  ·
   rw [if_neg (by decide),Ig] at hC2 hD2
   repeat' (first|(apply ah;exact rfl;exact rfl;(intro w hm;exact hM w))|refine sT ?_|refine sS ?_|refine sN ?_|refine sO ?_|refine sM fun _=> ?_|(refine sC ?_ ?_<;>intro hb<;>try omega)|fail)
   all_goals first
    |(exfalso;omega)
    |(refine ⟨(i+1,A1,c1,A2,c2),hlt,by dsimp only;omega,by exact sB,by exact sB,?_⟩;dsimp only;rw [hC2,hD2];exact mS)
  ·
   rw [if_pos rfl] at hC2 hD2
   have hC4:(C3++ [(mr.c1,mr.c2)]).flatMap bL=C3.flatMap bL++ [.int .i64 mr.c1,.int .i64 mr.c2]:=by simp [bL]
   have hD4:(D3++ [(mr.r1,mr.r2)]).flatMap bL=D3.flatMap bL++ [.int .i64 mr.r1,.int .i64 mr.r2]:=by simp [bL]
   repeat' (first|(apply ah;exact rfl;exact rfl;(intro w hm;exact hM w))|(apply aj;exact rfl;apply jG;(iterate 5 exact rfl))|(apply aV (d:=30) (A:=A1) (m:=1);(iterate 3 exact rfl);exact pK;(intro w hm;exact hm.cells_own pK);exact rfl;(simp [Value.oneCell',sl]);omega;(simp only [maxLen];omega);(intro A3 c3 hA3))|(apply aV (d:=38) (A:=A2) (m:=1);(iterate 3 exact rfl);exact pK;(intro w hm;exact hm.cells_own pK);exact rfl;(simp [Value.oneCell',sl]);omega;(simp only [maxLen];omega);(intro A4 c4 hA4))|refine sT ?_|refine sS ?_|refine sN ?_|refine sO ?_|refine sM fun _=> ?_|(refine sC ?_ ?_<;>intro hb<;>try omega)|fail)
   all_goals first
    |(exfalso;omega)
    |(refine ⟨(i+1,A3,c3,A4,c4),hlt,by dsimp only;omega,by exact sB,by exact sB,?_⟩;dsimp only;rw [hC2,hD2,hC4,hD4,List.length_append,List.length_append];exact mS)
 ·
  have e:i=L.length:=by omega
  subst e
  rw [IX]
  repeat' (first|refine sT ?_|refine sS ?_|refine sM fun _=> ?_|(refine sC ?_ ?_<;>intro hb<;>try omega)|fail)
  all_goals first
   |(exfalso;omega)
   |(exact eT eIO rfl (.refl _) ⟨rfl,A1,c1,A2,c2,rfl⟩)
end Go.SL
