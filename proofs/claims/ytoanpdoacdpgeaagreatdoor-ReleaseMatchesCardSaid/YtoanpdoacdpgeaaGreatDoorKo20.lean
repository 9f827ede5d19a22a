/-
  Lemmas and walks, put together: Vc D8 Ha D12 Hl Ng K2 E2 Hb Id K1 Fd.
-/
import Derived.Test.YtoanpdoacdpgeaaGreatDoorRows
import Derived.Test.YtoanpdoacdpgeaaGreatDoorKo18
import Derived.Test.YtoanpdoacdpgeaaGreatDoorKo19
set_option linter.unusedSimpArgs false
set_option linter.unusedVariables false
set_option maxRecDepth 20000
namespace Go.SL
open Go Go.Proofs
attribute [local irreducible] W WL WQ WG WA WX WLI WR WT WC WE VOp RW thn blk bp scp aR ba bE aF FnIn FnP ceP
theorem Ed (x:Rv) (w:World):aA Tryz.prog 130 [.agg (aJ x).toArray] w (Dl (abt x)):=by
 refine aq Tryz.func130 rfl Tryz.ntmps130 rfl ?_
 repeat' (first|refine sT ?_|refine sM fun _=> ?_|(refine sC ?_ ?_<;>intro hb<;>try omega)|fail)
 all_goals first|(exfalso;omega)|((refine eRC ?_);rfl)
theorem wH {L M:List Rv} {i:Nat} (h:i<L.length):ep (L.take (i+1)) M=if abt L[i]∈M.map abt then ep (L.take i) M else ep (L.take i) M++ [L[i]]:=by
 unfold ep
 rw [Ra h,List.filter_append]
 by_cases hh:abt L[i]∈M.map abt
 ·
  rw [if_pos hh,Tx,if_neg (by rw [decide_eq_true hh];decide),List.filter_nil,QZ]
 ·
  rw [if_neg hh,Tx,if_pos (by rw [decide_eq_false hh];decide),List.filter_nil]
theorem o5 (L M:List Rv):(ep L M).length≤L.length:=TW _ _
set_option maxHeartbeats 8000000 in
theorem qa (L M:List Rv) (lv mv:Value) (w:World) (hl:Reads w lv L.length (L.flatMap aJ)) (hm:Reads w mv M.length (M.flatMap aJ)) (hL:L.length≤100000000):
    aF Tryz.prog 81 [lv,mv] w fun v H=> ∃ A cap,v=sl A (ep L M).length cap∧H= [.own A 62 11 (ep L M).length cap ((ep L M).flatMap aJ)]:=by
  obtain ⟨Al,cl,rfl,hl1,hl2,hl3⟩:=hl
  obtain ⟨Am,cm,rfl,hm1,hm2,hm3⟩:=hm
  refine aq Tryz.func81 rfl Tryz.ntmps81 rfl ?_
  refine aB 62 11 ?_
  repeat' (first|(apply p9 (enc:=Dl);exact rfl;intro gm)|refine sT ?_|refine sS ?_|refine sM fun _=> ?_|(refine sC ?_ ?_<;>intro hb<;>try omega)|fail)
  refine aw [0,5,12,13] rfl (fun y:Nat × List (Ky × Value × Nat) × Nat=> [(14,.int .i64 (y.1:Int))]) (fun y=> [.obj gm (fJ Dl y.2.1 y.2.2),.own none 62 11 0 0 []]) (fun y=>y.1≤M.length∧SetK y.2.1 ((M.take y.1).map abt)) (fun y=>M.length - y.1) (0,[],0) ⟨Rd _,SetK.nil⟩ sB mS ?_
  rintro ⟨i,es,clock⟩ ⟨hi,hS⟩
  dsimp only at hi hS ⊢
  by_cases hlt:i<M.length
  · obtain ⟨gl,ol,rfl,hrl⟩:=hm3 (by omega)
    have he:=hrl.elem cQ i hlt
    have hS2:=hS.put (abt M[i]) clock
    rw [show (M.take i).map abt++ [abt M[i]]=(M.take (i+1)).map abt by rw [Ra hlt,RM];rfl] at hS2
    generalize M[i]=x at he hS2
    have hA:=fun w=>Ed x w
    repeat' (first|(apply ak;exact rfl;apply aj (j:=i);exact rfl;exact rfl;exact hlt)|(apply ak;exact rfl;apply aC;exact rfl;exact he;exact rfl)|(apply aa;exact rfl;exact rfl;(intro w hm;exact hA w))|(apply yp (enc:=Dl) (k:=abt x);(iterate 3 exact rfl);exact pK)|refine sT ?_|refine sS ?_|refine sN ?_|refine sM fun _=> ?_|(refine sC ?_ ?_<;>intro hb<;>try omega)|fail)
    all_goals first
      |(exfalso;omega)
      |(refine ⟨(i+1,_,_),⟨hlt,hS2⟩,by dsimp only;omega,by exact sB,by exact sB,by dsimp only;exact mS⟩;done)
  · have e:i=M.length:=by omega
    subst e
    rw [RJ] at hS
    have hlook:=fun k=>hS.look k
    repeat' (first|refine sT ?_|refine sS ?_|refine sM fun _=> ?_|(refine sC ?_ ?_<;>intro hb<;>try omega)|fail)
    all_goals try (exfalso;omega)
    refine aw [5,22,23] rfl (fun y:Nat × Option Nat × Nat=> [(8,sl y.2.1 (ep (L.take y.1) M).length y.2.2),(24,.int .i64 (y.1:Int))]) (fun y=> [.own y.2.1 62 11 (ep (L.take y.1) M).length y.2.2 ((ep (L.take y.1) M).flatMap aJ),.obj gm (fJ Dl es clock)]) (fun y=>y.1≤L.length) (fun y=>L.length - y.1) (0,none,0) (Rd _) sB mS ?_
    rintro ⟨i,A,c⟩ hi
    dsimp only at hi ⊢
    by_cases hlt:i<L.length
    · obtain ⟨gl,ol,rfl,hrl⟩:=hl3 (by omega)
      have he:=hrl.elem cQ i hlt
      have hn:=wH (M:=M) hlt
      have hml:=o5 (L.take i) M
      rw [RF] at hml
      generalize ep (L.take i) M=N at hn hml
      generalize L[i]=x at he hn
      have hA:=fun w=>Ed x w
      have hlk:=hlook (abt x)
      by_cases hx:abt x∈M.map abt
      · rw [if_pos hx] at hn
        rw [decide_eq_true hx] at hlk
        repeat' (first|(apply ak;exact rfl;apply aj (j:=i);exact rfl;exact rfl;exact hlt)|(apply ak;exact rfl;apply aC;exact rfl;exact he;exact rfl)|(apply aa;exact rfl;exact rfl;(intro w hm;exact hA w))|(apply ak;exact rfl;apply vE (enc:=Dl) (k:=abt x);exact rfl;exact rfl;exact pK;exact hlk)|refine sT ?_|refine sS ?_|refine sN ?_|refine sM fun _=> ?_|(refine sC ?_ ?_<;>intro hb<;>try omega)|fail)
        all_goals first
          |(exfalso;omega)
          |(refine ⟨(i+1,A,c),hlt,by dsimp only;omega,by dsimp only;rw [hn];exact sB,by exact sB,by dsimp only;rw [hn];exact mS⟩;done)
      · rw [if_neg hx] at hn
        rw [decide_eq_false hx] at hlk
        repeat' (first|(apply ak;exact rfl;apply aj (j:=i);exact rfl;exact rfl;exact hlt)|(apply ak;exact rfl;apply aC;exact rfl;exact he;exact rfl)|(apply aa;exact rfl;exact rfl;(intro w hm;exact hA w))|(apply ak;exact rfl;apply vE (enc:=Dl) (k:=abt x);exact rfl;exact rfl;exact pK;exact hlk)|(apply aQ (A:=A) (m:=1);(iterate 3 exact rfl);exact pK;(intro w hm;exact hm.cells_own pK);exact rfl;(intro u hu;simp [aJ] at hu;rcases hu with rfl|rfl|rfl|rfl|rfl|rfl|rfl|rfl|rfl|rfl|rfl<;>rfl);omega;(simp only [maxLen];omega);(intro A' cap' hA'))|refine sT ?_|refine sS ?_|refine sN ?_|refine sM fun _=> ?_|(refine sC ?_ ?_<;>intro hb<;>try omega)|fail)
        all_goals first
          |(exfalso;omega)
          | (refine ⟨(i + 1, A', cap'), hlt, by dsimp only; omega, ?_, ?_, ?_⟩
             · dsimp only;rw [hn,List.length_append];exact sB
             · exact sB
             · dsimp only;rw [hn,List.length_append,List.flatMap_append,List.flatMap_cons,List.flatMap_nil,List.append_nil];exact mS)
    · have e:i=L.length:=by omega
      subst e
      rw [RJ]
      repeat' (first|refine sT ?_|refine sS ?_|refine sM fun _=> ?_|(refine sC ?_ ?_<;>intro hb<;>try omega)|fail)
      all_goals first
        |(exfalso;omega)
        |(refine cA eIO rfl rfl mS ⟨A,c,rfl,rfl⟩;done)
end Go.SL
namespace Go.SL
open Go Go.Proofs
attribute [local irreducible] W WL WQ WG WA WX WLI WR WT WC VOp RW thn blk bp scp aR ba bE aF FnIn FnP ceP
set_option maxHeartbeats 2000000 in
theorem Ou (gg gm clock:Nat) (E:List En) (G:Gr) (a:Rf) (b:ByteArray) (R F:List Blk) (w0:World) (hG:GOk R E clock G) (hW:Words w0):
  FnIn Tryz.prog 153 [.pointer (some ⟨gg,0,none⟩),mY a,.string b] w0 (gB gg gm (E.map En.m) clock++(R++F)) fun v H=>v= .int .i64 (jp G a b).2∧ ∃ E' clock' R',H=gB gg gm (E'.map En.m) clock' ++(R' ++F)∧MSub R R' ∧GOk R' E' clock' (jp G a b).1:=by
 refine eQ Tryz.func153 rfl Tryz.ntmps153 rfl ?_
 have hV:=fun (w' :World) (H' :List Blk) (hm:Mem w0 w' H')=>(j6 a.col a.row w' :aA Tryz.prog 71 [mY a] w' (.bool (valid a.col a.row)))
 have hO:=fun (w' :World) (H' :List Blk) (hm:Mem w0 w' H')=>OQ b w' (hW.next hm)
 unfold gB
 unfold jp
 by_cases hv:a.valid=false
 ·
  rw [if_pos hv]
  have hv' :valid a.col a.row=false:=hv
  rw [hv'] at hV
  repeat' (first|(apply aa (f:=71);exact rfl;exact rfl;(intro w' hm;exact hV w' _ hm))|refine sT ?_|refine sS ?_|refine sW ?_|refine sM fun _=> ?_|(refine sC ?_ ?_<;>intro hb<;>try omega)|(refine sCW ?_ ?_<;>intro hb<;>try omega)|fail)
  all_goals exact cA eIO rfl rfl mS ⟨rfl,E,clock,R,rfl,MSub.refl _,hG⟩
 rw [if_neg hv]
 have hv' :valid a.col a.row=true:=by
  have:a.valid=valid a.col a.row:=rfl
  rw [this] at hv
  simpa using hv
 rw [hv'] at hV
 have hlen:=Ay b
 have htree:=wC (b:=b)
 generalize ofP b=r at hO hlen htree
 obtain ⟨⟨fm,v,t⟩,at_,e⟩:=r
 simp only [ofV,AY] at hO
 dsimp only at hlen htree ⊢
 by_cases he:e≠0
 ·
  rw [if_pos he]
  repeat' (first|(apply aa (f:=71);exact rfl;exact rfl;(intro w' hm;exact hV w' _ hm))|(apply ay (f:=99);exact rfl;exact rfl;(intro w' hm;exact hO w' _ hm);rintro _ _ ⟨A,cap,rfl,rfl⟩)|refine sT ?_|refine sS ?_|refine sW ?_|refine sM fun _=> ?_|(refine sC ?_ ?_<;>intro hb<;>try omega)|(refine sCW ?_ ?_<;>intro hb<;>try omega)|fail)
  all_goals exact cA eIO rfl rfl mS ⟨rfl,E,clock,R,rfl,MSub.refl _,hG⟩
 rw [if_neg he]
 have he0:e=0:=by omega
 subst he0
 cases fm with
 |false=>
  obtain ⟨E',hE',hG'⟩:=hG.del a
  rw [if_pos rfl]
  repeat' (first|(apply aa (f:=71);exact rfl;exact rfl;(intro w' hm;exact hV w' _ hm))|(apply ay (f:=99);exact rfl;exact rfl;(intro w' hm;exact hO w' _ hm);rintro _ _ ⟨A,cap,rfl,rfl⟩)|refine sT ?_|refine sS ?_|refine sW ?_|refine sM fun _=> ?_|(refine sC ?_ ?_<;>intro hb<;>try omega)|(refine sCW ?_ ?_<;>intro hb<;>try omega)|fail)
  rename_i g4 g7
  refine ia (id:=9) [5] [] [.box gg 199 [.map (some gm)],.box g4 50 (aS a)] (by kernel_rfl) (by kernel_rfl) (by kernel_rfl) mS ?_
  repeat' (first|(apply dm;(iterate 3 exact rfl);apply iO;exact rfl)|(apply Ij (enc:=mY) (t:=197);(iterate 3 exact rfl);exact pK;rw [← hE'])|refine sT ?_|refine sS ?_|refine sW ?_|refine sM fun _=> ?_|(refine sC ?_ ?_<;>intro hb<;>try omega)|(refine sCW ?_ ?_<;>intro hb<;>try omega)|fail)
  all_goals exact cA eIO rfl rfl mS ⟨rfl,E',clock,R,rfl,MSub.refl _,hG'⟩
 |true=>
  have hck:=htree rfl rfl
  rw [if_neg (by simp)]
  have hU:=fun (w' :World) (A:Option Nat) (cap:Nat) (H' :List Blk) (hi:In (.own A 293 11 t.length cap (t.flatMap bN)) H') (hm:Mem w0 w' H')=>Om t (sl A t.length cap) w' (Reads.of_own hm hi) (by omega)
  have hue:iH t=(ed t,0):=by unfold iH;rw [hck];rfl
  have hul:(ed t).length≤256:=RB (ic t 0) hlen
  rw [hue] at hU
  repeat' (first|(apply aa (f:=71);exact rfl;exact rfl;(intro w' hm;exact hV w' _ hm))|(apply ay (f:=99);exact rfl;exact rfl;(intro w' hm;exact hO w' _ hm);rintro _ _ ⟨A,cap,rfl,rfl⟩)|(apply ay (f:=200);exact rfl;exact rfl;(intro w' hm;exact hU w' _ _ _ pK hm);rintro _ _ ⟨A2,cap2,rfl,rfl⟩)|refine sT ?_|refine sS ?_|refine sW ?_|refine sM fun _=> ?_|(refine sC ?_ ?_<;>intro hb<;>try omega)|(refine sCW ?_ ?_<;>intro hb<;>try omega)|fail)
  rename_i g4 g7
  have hGR:=hG.sub (R' := .own A 293 11 t.length cap (t.flatMap bN):: .own A2 159 6 (ed t).length cap2 ((ed t).flatMap dI)::R) mS
  obtain ⟨E',hE',hG'⟩:=hGR.put ⟨a,A.map fun g=>⟨g,0,none⟩,cap,A2.map fun g=>⟨g,0,none⟩,cap2,t,ed t,0⟩ ⟨rdIn.own (A:=A) pK,rdIn.own (A:=A2) pK,by dsimp only;omega,by dsimp only;omega⟩
  generalize hck2:(od a (.agg #[sl A t.length cap,sl A2 (ed t).length cap2]) clock (E.map En.m))=kp
  have hE2:E'.map En.m=kp.1:=hck2 ▸ hE'
  have hG2:GOk _ E' kp.2 (uJ G a (t,ed t)):=hck2 ▸ hG'
  refine ia (id:=14) [9] [] [.box gg 199 [.map (some gm)],.box g4 50 (aS a),.box g7 130 [.bool true,.int .u8 v.kind,.int .i64 v.num,.string v.text,sl A t.length cap]] (by kernel_rfl) (by kernel_rfl) (by kernel_rfl) mS ?_
  repeat' (first|(apply dm;(iterate 3 exact rfl);apply iO;exact rfl)|(apply yp (enc:=mY);(iterate 3 exact rfl);exact pK;rw [hck2,← hE2])|refine sT ?_|refine sS ?_|refine sW ?_|refine sM fun _=> ?_|(refine sC ?_ ?_<;>intro hb<;>try omega)|(refine sCW ?_ ?_<;>intro hb<;>try omega)|fail)
  all_goals exact cA eIO rfl rfl (H' :=gB gg gm (E'.map En.m) kp.2++((.own A 293 11 t.length cap (t.flatMap bN):: .own A2 159 6 (ed t).length cap2 ((ed t).flatMap dI)::R)++F)) (by unfold gB;simp only [Rj,QU,QW];exact mS) ⟨rfl,E',kp.2,_,rfl,mS,hG2⟩
theorem P0 (gg gm clock:Nat) (E:List En) (G:Gr) (a:Rf) (b:ByteArray) (R:List Blk) (w0:World) (hG:GOk R E clock G) (hW:Words w0):
  FnIn Tryz.prog 153 [.pointer (some ⟨gg,0,none⟩),mY a,.string b] w0 (gB gg gm (E.map En.m) clock++R) fun v H=>v= .int .i64 (jp G a b).2∧ ∃ E' clock' R',H=gB gg gm (E'.map En.m) clock' ++R' ∧MSub R R' ∧GOk R' E' clock' (jp G a b).1:=by
 have h:=Ou gg gm clock E G a b R [] w0 hG hW
 simp only [QZ] at h
 exact h
end Go.SL
namespace Go.SL
open Go Go.Proofs
attribute [local irreducible] W WL WQ WG WA WX WLI WR WT WC WE VOp RW thn blk bp scp aR ba bE aF FnIn FnP ceP
def eB (n:Int):BitVec 64 × Int:=if n<0∨64<n then (0#64,3) else (Be n.toNat,0)
theorem GG (n:Int) (w:World):aA Tryz.prog 87 [.int .i64 n] w (.tuple #[vS (eB n).1,.int .i64 (eB n).2]):=by
 refine aq Tryz.func87 rfl Tryz.ntmps87 rfl ?_
 by_cases h:n<0∨64<n
 ·
  rw [eB,if_pos h]
  repeat' (first|refine sT ?_|refine sM fun _=> ?_|(refine sC ?_ ?_<;>intro hb<;>try omega)|fail)
  all_goals first|(exfalso;omega)|((refine rT2 ?_);rfl)
 ·
  rw [eB,if_neg h]
  obtain ⟨m,rfl⟩: ∃ m:Nat,n=(m:Int):=⟨n.toNat,by omega⟩
  repeat' (first|(apply ak;exact rfl;apply GS (a:=1#64) (m:=m);exact rfl;exact rfl;omega)|(apply ak;exact rfl;apply MW (b:=1#64);exact rfl;exact rfl)|refine sT ?_|refine sM fun _=> ?_|(refine sC ?_ ?_<;>intro hb<;>try omega)|fail)
  all_goals first|(exfalso;omega)|((refine rT2 ?_);rfl)
theorem sn (x:BitVec 64) (u:Int) (w:World):aA Tryz.prog 118 [vS x,.int .i64 u] w (.bool (jz x u)):=by
 refine aq Tryz.func118 rfl Tryz.ntmps118 rfl ?_
 by_cases h:0≤u∧u<64
 ·
  obtain ⟨m,rfl⟩: ∃ m:Nat,u=(m:Int):=⟨u.toNat,by omega⟩
  have hs:=Nt x m
  have he:jz x (m:Int)=x.getLsbD m:=by simp [jz];omega
  rw [he]
  repeat' (first|(apply ak;exact rfl;apply MY (a:=x) (m:=m);exact rfl;exact rfl;omega)|(apply ak;exact rfl;apply qM (b:=1#64);exact rfl;exact rfl)|(apply ak;exact rfl;apply GV (b:=1#64);exact rfl;exact rfl)|refine sT ?_|refine sM fun _=> ?_|(refine sC ?_ ?_<;>intro hb<;>try omega)|fail)
  all_goals first|(exfalso;omega)|((refine rT1 ?_);exact congrArg Value.bool hs)
 ·
  have he:jz x u=false:=by
   unfold jz
   by_cases h1:0≤u
   ·
    have h2: ¬ u<64:=fun h2=>h ⟨h1,h2⟩
    simp [h2]
   ·
    simp [h1]
  rw [he]
  repeat' (first|refine sT ?_|refine sM fun _=> ?_|(refine sC ?_ ?_<;>intro hb<;>try omega)|fail)
  all_goals first|(exfalso;omega)|((refine rT1 ?_);rfl)
theorem J0 (L:List (BitVec 64)) (lv:Value) (w:World) (hl:Reads w lv L.length (L.map vS)):aA Tryz.prog 142 [lv] w (vS (jU L)):=by
 obtain ⟨Al,cl,rfl,hl1,hl2,hl3⟩:=hl
 refine aq Tryz.func142 rfl Tryz.ntmps142 rfl ?_
 repeat' (first|refine sT ?_|refine sM fun _=> ?_|(refine sC ?_ ?_<;>intro hb<;>try omega)|fail)
 refine aw [6,7] rfl (fun i:Nat=> [(3,vS (jU (L.take i))),(8,.int .i64 (i:Int))]) (fun _=> []) (fun i=>i≤L.length) (fun i=>L.length - i) 0 (Rd _) sB mS ?_
 rintro i hi
 by_cases hlt:i<L.length
 ·
  obtain ⟨gl,ol,rfl,hrl⟩:=hl3 (by omega)
  have he1:=hrl.cellV i (v:=vS L[i]) (by rw [RZ,QV hlt];rfl)
  have hs:jU (L.take (i+1))=jU (L.take i) &&& L[i]:=by rw [Ra hlt,zu]
  repeat' (first|(apply ak;exact rfl;apply qM;exact rfl;exact rfl)|refine sT ?_|refine sN ?_|refine sO ?_|refine sM fun _=> ?_|(refine sC ?_ ?_<;>intro hb<;>try omega)|fail)
  all_goals first
   |(exfalso;omega)
   |(refine ⟨i+1,hlt,by omega,?_,by exact sB,by exact mS⟩;rw [hs];exact sB)
 ·
  have e:i=L.length:=by omega
  subst e
  repeat' (first|refine sT ?_|refine sM fun _=> ?_|(refine sC ?_ ?_<;>intro hb<;>try omega)|fail)
  all_goals first
   |(exfalso;omega)
   |((refine rT1 ?_);rw [RJ])
theorem oY {r:Rct} (h:gV r≠0):aO r=false:=by
 cases hq:aO r
 ·
  rfl
 ·
  exact absurd (by rw [gV,hq];rfl) h
theorem ko {r:Rct} (h: ¬ gV r≠0): ¬ aO r=false:=fun hq=>h (by rw [gV,hq];decide)
def nA:Rct:=⟨1,1,1024,1024⟩
def gM (u:Int):List Rl→Int→Int × Int
 | [],_=>(0,0)
 |r::L,i=>if aO r.rect=false then (i,3) else if (r.read|||r.write|||r.own) &&& ~~~(eB u).1≠0#64 then (i,2) else gM u L (i+1)
def eP (u:Int) (L:List Rl):Int × Int:=
 if u<0∨64<u∨u=0∨L= [] then (0,2) else if 64<L.length then (64,5) else if (L.head?.map (·.rect))≠some nA then (0,2) else gM u L 0
theorem KM (w:World):aA Tryz.prog 117 [] w (.agg (bL nA).toArray):=by
 refine aq Tryz.func117 rfl Tryz.ntmps117 rfl ?_
 repeat' (first|refine sT ?_|refine sM fun _=> ?_|(refine sC ?_ ?_<;>intro hb<;>try omega)|fail)
 (refine eRC ?_)
 rfl
theorem Rl.ro {w:World} {g o:Nat} {r:Rl} (h:Ro w g o (bM r)):Ro w g o (bL r.rect)∧Ro w g (o+4) [vS r.read]∧Ro w g (o+5) [vS r.write]∧Ro w g (o+6) [vS r.own]∧Ro w g (o+4) [vS r.read,vS r.write,vS r.own]:=
 ⟨h.take (k:=4),(h.drop (k:=4)).take (k:=1),(h.drop (k:=5)).take (k:=1),h.drop (k:=6),h.drop (k:=4)⟩
set_option maxHeartbeats 4000000 in
theorem lc (u:Int) (L:List Rl) (lv:Value) (w:World) (hl:Reads w lv L.length (L.flatMap bM)):aA Tryz.prog 60 [.int .i64 u,lv] w (.tuple #[.int .i64 (eP u L).1,.int .i64 (eP u L).2]):=by
 obtain ⟨Al,cl,rfl,hl1,hl2,hl3⟩:=hl
 refine aq Tryz.func60 rfl Tryz.ntmps60 rfl ?_
 have hA:=fun w=>GG u w
 unfold eP
 have hE:(eB u).2=if u<0∨64<u then 3 else 0:=by unfold eB;split<;>rfl
 by_cases h1:u<0∨64<u∨u=0∨L= []
 ·
  rw [if_pos h1]
  generalize eB u=ae at hA hE
  obtain ⟨sa,ee⟩:=ae
  dsimp only at hA hE
  subst hE
  have h1' : ¬ (u<0∨64<u)→u≠0→L.length=0:=fun h2 h3=>by
   rcases h1 with h|h|h|h
   ·
    exact absurd (.inl h) h2
   ·
    exact absurd (.inr h) h2
   ·
    exact absurd h h3
   ·
    rw [h];rfl
  clear h1
  by_cases h2:u<0∨64<u
  ·
   rw [if_pos h2] at hA
   repeat' (first|(apply aa;exact rfl;exact rfl;(intro w hm;exact hA w))|refine sT ?_|refine sM fun _=> ?_|(refine sC ?_ ?_<;>intro hb<;>try omega)|fail)
   all_goals first|(exfalso;omega)|((refine rT2 ?_);rfl)
  ·
   rw [if_neg h2] at hA
   have h3:=h1' h2
   repeat' (first|(apply aa;exact rfl;exact rfl;(intro w hm;exact hA w))|refine sT ?_|refine sM fun _=> ?_|(refine sC ?_ ?_<;>intro hb<;>try omega)|fail)
   all_goals first|(exfalso;omega)|((refine rT2 ?_);rfl)
 rw [if_neg h1]
 have hu: ¬ (u<0∨64<u)∧u≠0:=⟨fun h=>h1 (h.elim .inl fun h=> .inr (.inl h)),fun h=>h1 (.inr (.inr (.inl h)))⟩
 have hpos:0<L.length:=SJ.2 fun h=>h1 (.inr (.inr (.inr h)))
 rw [if_neg hu.1] at hE
 rw [hE] at hA
 obtain ⟨sa,has⟩: ∃ sa,sa=(eB u).1:=⟨_,rfl⟩
 rw [← has] at hA
 obtain ⟨gl,ol,rfl,hrl⟩:=hl3 hpos
 by_cases h64:64<L.length
 ·
  rw [if_pos h64]
  repeat' (first|(apply aa;exact rfl;exact rfl;(intro w hm;exact hA w))|refine sT ?_|refine sM fun _=> ?_|(refine sC ?_ ?_<;>intro hb<;>try omega)|fail)
  all_goals first|(exfalso;omega)|((refine rT2 ?_);rfl)
 rw [if_neg h64]
 obtain ⟨h0a,_⟩:=Rl.ro (hrl.elem bV 0 hpos)
 have hsh:=fun w=>KM w
 have hhd:L.head?.map (·.rect)=some L[0].rect:=by rw [List.head?_eq_getElem?,QV hpos];rfl
 rw [hhd]
 obtain ⟨c,hc⟩: ∃ c,decide (L[0].rect=nA)=c:=⟨_,rfl⟩
 have hcs:(some L[0].rect≠some nA)↔c=false:=by rw [← hc];simp
 generalize L[0].rect=r0 at h0a hc hcs ⊢
 simp only [hcs]
 clear hhd hcs
 cases c with
 |false=>
  repeat' (first|(apply aa;exact rfl;exact rfl;(intro w hm;exact hA w))|(apply cB (f:=117);exact rfl;exact rfl;(intro w' _;exact hsh w'))|(apply aK;exact rfl;apply aj (j:=0);exact rfl;exact rfl;exact hpos)|(apply aK;exact rfl;apply aC (xs:=bL r0);exact rfl;exact h0a;exact rfl)|(apply aK;exact rfl;apply oS hc;exact rfl;exact rfl)|refine sT ?_|refine sQ ?_|refine sN ?_|refine sNQ ?_|refine sO ?_|refine sOQ ?_|refine sD ?_|refine sM fun _=> ?_|(refine sC ?_ ?_<;>intro hb<;>try omega)|(refine sCQ ?_ ?_<;>intro hb<;>try omega)|fail)
  all_goals first|(exfalso;omega)|((refine rT2 ?_);rfl)
 |true=>
  repeat' (first|(apply aa;exact rfl;exact rfl;(intro w hm;exact hA w))|(apply cB (f:=117);exact rfl;exact rfl;(intro w' _;exact hsh w'))|(apply aK;exact rfl;apply aj (j:=0);exact rfl;exact rfl;exact hpos)|(apply aK;exact rfl;apply aC (xs:=bL r0);exact rfl;exact h0a;exact rfl)|(apply aK;exact rfl;apply oS hc;exact rfl;exact rfl)|refine sT ?_|refine sQ ?_|refine sN ?_|refine sNQ ?_|refine sO ?_|refine sOQ ?_|refine sD ?_|refine sM fun _=> ?_|(refine sC ?_ ?_<;>intro hb<;>try omega)|(refine sCQ ?_ ?_<;>intro hb<;>try omega)|fail)
  all_goals try (exfalso;omega)
  refine aw [1,6,37,38] rfl (fun i:Nat=> [(39,.int .i64 (i:Int))]) (fun _=> []) (fun i=>i≤L.length∧gM u L 0=gM u (L.drop i) (i:Int)) (fun i=>L.length - i) 0 ⟨Rd _,rfl⟩ sB mS ?_
  rintro i ⟨hi,hrec⟩
  by_cases hlt:i<L.length
  ·
   have he1:=hrl.elem bV i hlt
   rw [Rc hlt,gM,← has] at hrec
   generalize L[i]=r at hrec he1
   have hck:=fun w=>kO r.rect w
   repeat' (first|(apply aa;exact rfl;exact rfl;(intro w hm;exact hck w))|(apply ak;exact rfl;apply zN;exact rfl;exact rfl)|(apply ak;exact rfl;apply fF (b:=sa);exact rfl;exact rfl)|(apply ak;exact rfl;apply je (b:=0#64);exact rfl;exact rfl)|refine sT ?_|refine sN ?_|refine sO ?_|refine sM fun _=> ?_|(refine sC ?_ ?_<;>intro hb<;>try omega)|fail)
   all_goals first
    |(exfalso;omega)
    |((refine rT2 ?_);rw [if_neg (by decide),hrec,if_pos (oY hb)];done)
    |((refine rT2 ?_);rw [if_neg (by decide),hrec,if_neg (ko ‹_›),if_pos hb];done)
    |(refine ⟨i+1,⟨hlt,by rw [hrec,if_neg (ko ‹_›),if_neg (fun h=>h hb)];rfl⟩,by omega,by exact sB,by exact sB,by exact mS⟩;done)
  ·
   have e:i=L.length:=by omega
   subst e
   rw [RK,gM] at hrec
   rw [if_neg (by decide),hrec]
   repeat' (first|refine sT ?_|refine sM fun _=> ?_|(refine sC ?_ ?_<;>intro hb<;>try omega)|fail)
   all_goals first|(exfalso;omega)|((refine rT2 ?_);rfl)
end Go.SL
namespace Go.SL
open Go Go.Proofs
attribute [local irreducible] W WL WQ WG WA WX WLI WR WT WC VOp RW thn blk bp scp aR ba bE aF FnIn FnP ceP
structure Et where
 at_:Rf
 input:ByteArray
def cF (e:Et):List Value:= [.int .i64 e.at_.col,.int .i64 e.at_.row,.string e.input]
theorem di (e:Et):(cF e).length=3:=rfl
def jS (b:Option Rf) (e:Et):Int:=if e.at_.valid=false then 3 else if (match b with|some p=>bw p e.at_|none=>true)=false then 12 else if e.input=av then 2 else (ofP e.input).2.2
def fk:Nat→Option Rf→List Et→Int × Int
 |_,_,[]=>(0,0)
 |i,b,e::r=>if jS b e≠0 then ((i:Int),jS b e) else fk (i+1) (some e.at_) r
def dM (L:List Et):Int × Int:=fk 0 none L
def jv (L:List Et) (i:Nat):Option Rf:=if i=0 then none else (L[i - 1]?).map Et.at_
set_option maxHeartbeats 2000000 in
theorem pW (L:List Et) (tv:Value) (w:World) (ht:Reads w tv L.length (L.flatMap cF)) (hlen:L.length≤1000000) (hW:Words w):
    aA Tryz.prog 59 [tv] w (.tuple #[.int .i64 (dM L).1,.int .i64 (dM L).2]):=by
  obtain ⟨Al,cl,rfl,hl1,hl2,hl3⟩:=ht
  refine aq Tryz.func59 rfl Tryz.ntmps59 rfl ?_
  repeat' (first|refine sT ?_|refine sS ?_|refine sM fun _=> ?_|(refine sC ?_ ?_<;>intro hb<;>try omega)|fail)
  refine aw [0,2,3,9,10] rfl (fun i:Nat=> [(11,.int .i64 (i:Int))]) (fun _=> []) (fun i=>i≤L.length∧dM L=fk i (jv L i) (L.drop i)) (fun i=>L.length - i) 0 ⟨by omega,rfl⟩ sB (.refl _) ?_
  rintro i ⟨hi,hck⟩
  by_cases hlt:i<L.length
  · obtain ⟨gl,ol,rfl,hrl⟩:=hl3 (by omega)
    have he:=hrl.elem di i hlt
    have hprev: ∀ h:0<i,Ro w gl (ol+(i - 1)*3) (cF L[i - 1]):=fun h=>hrl.elem di (i - 1) (by omega)
    have hbef: ∀ h:0<i,jv L i=some L[i - 1].at_:=fun h=>by unfold jv;rw [if_neg (by omega),QV (by omega)];rfl
    have hbef0:i=0→jv L i=none:=fun h=>by unfold jv;rw [if_pos h]
    have hnext:jv L (i+1)=some L[i].at_:=by unfold jv;rw [if_neg (by omega),ST,QV hlt];rfl
    rw [Rc hlt,fk,← hnext] at hck
    generalize L[i]=e at he hck
    have hV: ∀ w',aA Tryz.prog 71 [.agg (aS e.at_).toArray] w' (.bool e.at_.valid):=fun w' =>j6 e.at_.col e.at_.row w'
    have hO:=fun (w' :World) (H' :List Blk) (hm:Mem w w' H')=>OQ e.input w' (hW.next hm)
    by_cases h0:0<i
    · have hp:=hprev h0
      rw [hbef h0] at hck
      generalize L[i - 1]=b at hp hck
      have hL:=fun w' =>OA b.at_ e.at_ w'
      unfold jS at hck
      simp only at hck
      have hofV: ∀ (A:Option Nat) (cap:Nat),ofV A cap (ofP e.input)= .tuple #[.agg (AY (ofP e.input).1 (sl A (ofP e.input).1.tree.length cap)).toArray,.int .i64 (ofP e.input).2.1,.int .i64 (ofP e.input).2.2]:=fun _ _=>rfl
      simp only [hofV] at hO
      generalize ofP e.input=o at hO hck
      obtain ⟨⟨f1,f2,f3⟩,oa,oe⟩:=o
      simp only [AY] at hO
      simp only at hck
      generalize e.at_.valid=vd at hV hck
      generalize bw b.at_ e.at_=ls at hL hck
      repeat' (first|(apply ak (d:=14);exact rfl;apply aj;exact rfl;exact rfl;exact hlt)|(apply ak (d:=15);exact rfl;apply aC;exact rfl;exact he;exact rfl)|(apply dm (d:=29);(iterate 3 exact rfl);apply dq (o:=ol+(i - 1)*3) (off:=0) hp (ys:=aS b.at_);(iterate 3 exact rfl))|(apply aa;exact rfl;exact rfl;(intro w hm;exact hV w))|(apply (eE (id:=6) [11] []);kernel_rfl;kernel_rfl;kernel_rfl)|(apply dm;(iterate 3 exact rfl);apply aj (j:=i - 1);exact rfl;exact rfl;omega)|(apply aa (f:=46);exact rfl;exact rfl;(intro w' hm;exact hL w'))|(apply ay (f:=99);exact rfl;exact rfl;(intro w' hm;exact hO w' _ hm);rintro _ _ ⟨A,cap,rfl,rfl⟩)|refine sT ?_|refine sS ?_|refine sW ?_|refine sN ?_|refine sWN ?_|refine sM fun _=> ?_|(refine sC ?_ ?_<;>intro hb<;>try omega)|(refine sCW ?_ ?_<;>intro hb<;>try omega)|fail)
      all_goals clear hofV
      all_goals first
        |(refine dS eIO rfl rfl rfl (.nil _) ?_;rw [hck];simp_all [av];done)
        | (refine ⟨i + 1, ⟨hlt, ?_⟩, by omega, ?_, ?_, .nil _⟩
           · rw [hck];simp_all [av]
           · exact sB
           · exact sB)
    · have h00:i=0:=by omega
      rw [hbef0 h00] at hck
      unfold jS at hck
      simp only at hck
      have hofV: ∀ (A:Option Nat) (cap:Nat),ofV A cap (ofP e.input)= .tuple #[.agg (AY (ofP e.input).1 (sl A (ofP e.input).1.tree.length cap)).toArray,.int .i64 (ofP e.input).2.1,.int .i64 (ofP e.input).2.2]:=fun _ _=>rfl
      simp only [hofV] at hO
      generalize ofP e.input=o at hO hck
      obtain ⟨⟨f1,f2,f3⟩,oa,oe⟩:=o
      simp only [AY] at hO
      simp only at hck
      generalize e.at_.valid=vd at hV hck
      repeat' (first|(apply ak (d:=14);exact rfl;apply aj;exact rfl;exact rfl;exact hlt)|(apply ak (d:=15);exact rfl;apply aC;exact rfl;exact he;exact rfl)|(apply aa;exact rfl;exact rfl;(intro w hm;exact hV w))|(apply (eE (id:=6) [11] []);kernel_rfl;kernel_rfl;kernel_rfl)|(apply ay (f:=99);exact rfl;exact rfl;(intro w' hm;exact hO w' _ hm);rintro _ _ ⟨A,cap,rfl,rfl⟩)|refine sT ?_|refine sS ?_|refine sW ?_|refine sN ?_|refine sWN ?_|refine sM fun _=> ?_|(refine sC ?_ ?_<;>intro hb<;>try omega)|(refine sCW ?_ ?_<;>intro hb<;>try omega)|fail)
      all_goals clear hofV
      all_goals first
        |(refine dS eIO rfl rfl rfl (.nil _) ?_;rw [hck];simp_all [av];done)
        | (refine ⟨i + 1, ⟨hlt, ?_⟩, by omega, ?_, ?_, .nil _⟩
           · rw [hck];simp_all [av]
           · exact sB
           · exact sB)
  · have e2:i=L.length:=by omega
    subst e2
    rw [RK,fk] at hck
    repeat' (first|refine sT ?_|refine sS ?_|refine sM fun _=> ?_|(refine sC ?_ ?_<;>intro hb<;>try omega)|fail)
    all_goals (refine dS eIO rfl rfl rfl (.nil _) ?_;rw [hck])
def C9:Gr→List Et→Option Gr × Int
 |G,[]=>(some G,0)
 |G,e::r=>if (jp G e.at_ e.input).2≠0 then (none,(jp G e.at_ e.input).2) else C9 (jp G e.at_ e.input).1 r
def uI (L:List Et):Option Gr × Int:=if (dM L).2≠0 then (none,(dM L).2) else C9 [] L
def QR (r:Option Gr × Int) (v:Value) (H:List Blk):Prop:=match r with
 |(none,e)=>v= .tuple #[.pointer none,.int .i64 e]∧H= []
 |(some G,_)=> ∃ gg gm E clock R,v= .tuple #[.pointer (some ⟨gg,0,none⟩),.int .i64 0]∧H=gB gg gm (E.map En.m) clock++R∧GOk R E clock G
set_option maxHeartbeats 2000000 in
theorem P2 (L:List Et) (tv:Value) (w:World) (ht:Reads w tv L.length (L.flatMap cF)) (hlen:L.length≤1000000) (hW:Words w):
  aF Tryz.prog 122 [tv] w (QR (uI L)):=by
 have hC:=fun (w' :World) (H:List Blk) (hm:Mem w w' H)=>pW L tv w' (ht.of_w0 hm) hlen (hW.next hm)
 obtain ⟨Al,cl,rfl,hl1,hl2,hl3⟩:=ht
 refine aq Tryz.func122 rfl Tryz.ntmps122 rfl ?_
 unfold uI
 generalize dM L=c at hC
 obtain ⟨ci,ce⟩:=c
 dsimp only at hC ⊢
 by_cases hce:ce≠0
 ·
  rw [if_pos hce]
  repeat' (first|(apply aa (f:=59);exact rfl;exact rfl;(intro w' hm;exact hC w' _ hm))|refine sT ?_|refine sS ?_|refine sM fun _=> ?_|(refine sC ?_ ?_<;>intro hb<;>try omega)|fail)
  all_goals exact dS eIO rfl rfl rfl (.nil _) ⟨rfl,rfl⟩
 rw [if_neg hce]
 have hce0:ce=0:=by omega
 subst hce0
 repeat' (first|(apply aa (f:=59);exact rfl;exact rfl;(intro w' hm;exact hC w' _ hm))|(apply p9 (enc:=mY);exact rfl;intro gm)|refine sT ?_|refine sS ?_|refine sM fun _=> ?_|(refine sC ?_ ?_<;>intro hb<;>try omega)|fail)
 rename_i gg
 refine aw [6,21,22] rfl (fun x:Nat × List En × Nat × Gr × List Blk=> [(23,.int .i64 (x.1:Int))]) (fun x=>gB gg gm (x.2.1.map En.m) x.2.2.1++x.2.2.2.2) (fun x=>x.1≤L.length∧GOk x.2.2.2.2 x.2.1 x.2.2.1 x.2.2.2.1∧C9 [] L=C9 x.2.2.2.1 (L.drop x.1)) (fun x=>L.length - x.1) (0,[],0,[],[]) ⟨by simp,NR [],rfl⟩ sB (by unfold gB;exact mS) ?_
 rintro ⟨i,E,clock,G,R⟩ ⟨hi,hG,hnew⟩
 dsimp only at hi hG hnew ⊢
 by_cases hlt:i<L.length
 ·
  obtain ⟨gl,ol,rfl,hrl⟩:=hl3 (by omega)
  have he:=hrl.elem di i hlt
  rw [Rc hlt,C9] at hnew
  generalize L[i]=e at he hnew
  have hS:=P0 gg gm clock E G e.at_ e.input R w hG hW
  generalize jp G e.at_ e.input=sg at hS hnew
  obtain ⟨G',se⟩:=sg
  dsimp only at hS hnew
  repeat' (first|(apply ak (d:=25);exact rfl;apply aj;exact rfl;exact rfl;exact hlt)|(apply ak (d:=26);exact rfl;apply aC;exact rfl;exact he;exact rfl)|(apply ax (f:=153);exact rfl;exact rfl;exact FnIn.msub hS (by unfold gB;exact mS);rintro _ _ ⟨rfl,E',clock',R',rfl,hsub,hG'⟩)|refine sT ?_|refine sS ?_|refine sN ?_|refine sM fun _=> ?_|(refine sC ?_ ?_<;>intro hb<;>try omega)|fail)
  ·
   rw [hnew,if_pos (by assumption)]
   exact dS eIO rfl rfl rfl (.nil _) ⟨rfl,rfl⟩
  ·
   rw [if_neg (by assumption)] at hnew
   refine ⟨(i+1,E',clock',G',R'),⟨hlt,hG',hnew⟩,(by dsimp only;omega),sB,sB,?_⟩
   unfold gB
   exact mS
 ·
  have e2:i=L.length:=by omega
  subst e2
  rw [RK,C9] at hnew
  rw [hnew]
  repeat' (first|refine sT ?_|refine sS ?_|refine sM fun _=> ?_|(refine sC ?_ ?_<;>intro hb<;>try omega)|fail)
  all_goals exact dS eIO rfl rfl rfl (MSub.refl _) ⟨gg,gm,E,clock,R,rfl,rfl,hG⟩
end Go.SL
namespace Go.SL
open Go Go.Proofs
attribute [local irreducible] W WL WQ WG WA WX WLI WR WT WC WE VOp RW thn blk bp scp aR ba bE aF FnIn FnP ceP
set_option maxHeartbeats 4000000 in
theorem NL (a:Rf) (L:List Rl) (lv:Value) (w:World) (hl:Reads w lv L.length (L.flatMap bM)) (hb:L.length≤1000000) (hpos:0<L.length):aA Tryz.prog 203 [.agg (aS a).toArray,lv] w (.int .i64 (cR L a:Int)):=by
 obtain ⟨Al,cl,rfl,hl1,hl2,hl3⟩:=hl
 refine aq Tryz.func203 rfl Tryz.ntmps203 rfl ?_
 repeat' (first|refine sT ?_|refine sS ?_|refine sN ?_|refine sM fun _=> ?_|(refine sC ?_ ?_<;>intro hb<;>try omega)|fail)
 rename_i g2
 obtain ⟨gl,ol,rfl,hrl⟩:=hl3 (by omega)
 refine aw [1,2] rfl (fun i:Nat=> [(5,.int .i64 (i:Int))]) (fun _=> [.box g2 50 (aS a)]) (fun i=>i<L.length∧cR L a=jE a L (i+1)) (fun i=>i) (L.length - 1) ⟨by omega,by rw [Uj (by omega)];rfl⟩ sB mS ?_
 rintro i ⟨hi,hrec⟩
 rw [jE,QV hi] at hrec
 simp only [Sm,S5] at hrec
 have hIn:=fun w=>P3 L[i].rect a w
 obtain ⟨h0a,_⟩:=Rl.ro (hrl.elem bV i hi)
 obtain ⟨c,hcc⟩: ∃ c,iZ L[i].rect a=c:=⟨_,rfl⟩
 simp only [hcc] at hIn hrec
 clear hcc
 generalize L[i].rect=x at h0a hIn
 by_cases hi0:i=0
 ·
  subst hi0
  have e:cR L a=0:=by rw [hrec];cases c<;>rfl
  rw [e]
  repeat' (first|refine sT ?_|refine sS ?_|refine sM fun _=> ?_|(refine sC ?_ ?_<;>intro hb<;>try omega)|fail)
  all_goals first|(exfalso;omega)|((refine rT1 ?_);rfl)
 ·
  cases c
  ·
   rw [if_neg (by decide)] at hrec
   repeat' (first|(apply aK;exact rfl;apply aj (j:=i);exact rfl;exact rfl;exact hi)|(apply cB (f:=45);exact rfl;exact rfl;(intro w' _;exact hIn w'))|refine sT ?_|refine sS ?_|refine sQ ?_|refine sN ?_|refine sNQ ?_|refine sO ?_|refine sOQ ?_|refine sD ?_|refine sM fun _=> ?_|(refine sC ?_ ?_<;>intro hb<;>try omega)|(refine sCQ ?_ ?_<;>intro hb<;>try omega)|fail)
   all_goals first
    |(exfalso;omega)
    |(refine ⟨i - 1,⟨by omega,by rw [Uj (by omega)];exact hrec⟩,by omega,by exact sB,by exact sB,by exact mS⟩;done)
  ·
   rw [if_pos rfl] at hrec
   rw [hrec]
   repeat' (first|(apply aK;exact rfl;apply aj (j:=i);exact rfl;exact rfl;exact hi)|(apply cB (f:=45);exact rfl;exact rfl;(intro w' _;exact hIn w'))|refine sT ?_|refine sS ?_|refine sQ ?_|refine sN ?_|refine sNQ ?_|refine sO ?_|refine sOQ ?_|refine sD ?_|refine sM fun _=> ?_|(refine sC ?_ ?_<;>intro hb<;>try omega)|(refine sCQ ?_ ?_<;>intro hb<;>try omega)|fail)
   all_goals first|(exfalso;omega)|((refine rT1 ?_);rfl)
def uD (a:Rf) (L:List Rl):Int × Int:=if a.valid=false then (0,3) else if (eP 64 L).2≠0 then (0,(eP 64 L).2) else ((cR L a:Int),0)
theorem HZ {L:List Rl} (h: ¬ (eP 64 L).2≠0):0<L.length∧L.length≤64:=by
 unfold eP at h
 split at h
 ·
  exact absurd (by decide) h
 ·
  rename_i h1
  have hn:L≠ []:=fun e=>h1 (.inr (.inr (.inr e)))
  split at h
  ·
   exact absurd (by decide) h
  ·
   exact ⟨SJ.2 hn,by omega⟩
theorem Gk (a:Rf) (L:List Rl) (lv:Value) (w:World) (hl:Reads w lv L.length (L.flatMap bM)):aA Tryz.prog 156 [.agg (aS a).toArray,lv] w (.tuple #[.int .i64 (uD a L).1,.int .i64 (uD a L).2]):=by
 refine aq Tryz.func156 rfl Tryz.ntmps156 rfl ?_
 have h1:=fun w=>j6 a.col a.row w
 have h2:=fun (w' :World) (H:List Blk) (hm:Mem w w' H)=>lc 64 L lv w' (hl.of_w0 hm)
 have h3:=fun (hp:0<L.length) (hb:L.length≤64) (w' :World) (H:List Blk) (hm:Mem w w' H)=>NL a L lv w' (hl.of_w0 hm) (by omega) hp
 have hv:a.valid=valid a.col a.row:=rfl
 unfold uD
 rw [hv]
 generalize valid a.col a.row=b at h1
 by_cases hc:(eP 64 L).2≠0
 ·
  rw [if_pos hc]
  cases b
  all_goals
   repeat' (first|(apply aa;exact rfl;exact rfl;(intro w hm;exact h1 w))|(apply aa (f:=60);exact rfl;exact rfl;(intro w' hm;exact h2 w' _ hm))|refine sT ?_|refine sM fun _=> ?_|(refine sC ?_ ?_<;>intro hb<;>try omega)|fail)
  all_goals first|(exfalso;omega)|((refine rT2 ?_);rfl)
 ·
  obtain ⟨hp,hb⟩:=HZ hc
  have h3:=h3 hp hb
  rw [if_neg hc]
  have hc0:(eP 64 L).2=0:=by omega
  rw [hc0] at h2
  cases b
  all_goals
   repeat' (first|(apply aa;exact rfl;exact rfl;(intro w hm;exact h1 w))|(apply aa (f:=60);exact rfl;exact rfl;(intro w' hm;exact h2 w' _ hm))|(apply aa (f:=203);exact rfl;exact rfl;(intro w' hm;exact h3 w' _ hm))|refine sT ?_|refine sM fun _=> ?_|(refine sC ?_ ?_<;>intro hb<;>try omega)|fail)
  all_goals first|(exfalso;omega)|((refine rT2 ?_);rfl)
def atR (a:Rf) (L:List Rl):BitVec 64 × BitVec 64 × BitVec 64:=match L[cR L a]? with|some x=>(x.read,x.write,x.own)|none=>(0#64,0#64,0#64)
def atE (a:Rf) (L:List Rl):(BitVec 64 × BitVec 64 × BitVec 64) × Int:=if (uD a L).2≠0 then ((0#64,0#64,0#64),(uD a L).2) else (atR a L,0)
theorem MR {a:Rf} {L:List Rl} (h: ¬ (uD a L).2≠0):a.valid=true∧(uD a L).1=cR L a∧ ∃ h:cR L a<L.length,atR a L=((L[cR L a]'h).read,(L[cR L a]'h).write,(L[cR L a]'h).own):=by
 unfold uD at h ⊢
 split at h
 ·
  exact absurd (by decide) h
 ·
  rename_i hv
  split at h
  ·
   rename_i h2;exact absurd h2 h
  ·
   rename_i h2
   have hp:=(HZ h2).1
   have hlt:=wR (a:=a) (L:=L) (SJ.1 hp)
   refine ⟨by simpa using hv,?_,hlt,?_⟩
   ·
    simp only [hv,h2,Sa,if_false];rfl
   ·
    unfold atR;rw [QV hlt]
set_option maxHeartbeats 1000000 in
theorem OD (a:Rf) (L:List Rl) (lv:Value) (w:World) (hl:Reads w lv L.length (L.flatMap bM)):aA Tryz.prog 124 [.agg (aS a).toArray,lv] w (.tuple #[.agg #[vS (atE a L).1.1,vS (atE a L).1.2.1,vS (atE a L).1.2.2],.int .i64 (atE a L).2]):=by
 refine aq Tryz.func124 rfl Tryz.ntmps124 rfl ?_
 have h1:=fun (w' :World) (H:List Blk) (hm:Mem w w' H)=>Gk a L lv w' (hl.of_w0 hm)
 unfold atE
 by_cases hc:(uD a L).2≠0
 ·
  rw [if_pos hc]
  repeat' (first|(apply aa (f:=156);exact rfl;exact rfl;(intro w' hm;exact h1 w' _ hm))|refine sT ?_|refine sM fun _=> ?_|(refine sC ?_ ?_<;>intro hb<;>try omega)|fail)
  all_goals first
   |(exfalso;omega)
   |((refine jb ?_);rfl)
 ·
  rw [if_neg hc]
  obtain ⟨_,h2,hlt,h3⟩:=MR hc
  have hc0:(uD a L).2=0:=by omega
  rw [h2,hc0] at h1
  rw [h3]
  obtain ⟨Al,cl,rfl,hl1,hl2,hl3⟩:=hl
  obtain ⟨gl,ol,rfl,hrl⟩:=hl3 (by omega)
  obtain ⟨_,_,_,_,hrr⟩:=Rl.ro (hrl.elem bV _ hlt)
  generalize L[cR L a]'hlt=x at hrr
  generalize cR L a=i at h1 hlt hrr
  repeat' (first|(apply aa (f:=156);exact rfl;exact rfl;(intro w' hm;exact h1 w' _ hm))|(apply ak (d:=20);exact rfl;apply aj (j:=i);exact rfl;exact rfl;exact hlt)|(apply ak (d:=22);exact rfl;apply aC (xs:= [vS x.read,vS x.write,vS x.own]);exact rfl;exact hrr;exact rfl)|refine sT ?_|refine sN ?_|refine sO ?_|refine sM fun _=> ?_|(refine sC ?_ ?_<;>intro hb<;>try omega)|fail)
  all_goals first
   |(exfalso;omega)
   |((refine jb ?_);rfl)
end Go.SL
namespace Go.SL
open Go
def FO (f:Rl→BitVec 64) (L:List Rl) (a:Rf):BitVec 64:=(L[cR L a]?.map f).getD 0#64
theorem Ms {L:List Rl} (h:(eP 64 L).2=0) {a:Rf} (ha:a.valid=true):(atE a L).1.1=FO (fun x=>x.read) L a∧(atE a L).2=0:=by
 have hw:(uD a L).2=0:=by
  unfold uD
  rw [if_neg (by rw [ha];decide),if_neg (by rw [h];decide)]
 unfold atE
 rw [if_neg (by rw [hw];decide)]
 refine ⟨?_,rfl⟩
 unfold atR FO
 cases L[cR L a]? <;>rfl
end Go.SL
namespace Go.SL
open Go Go.Proofs
attribute [local irreducible] W WL WQ WG WA WX WLI WR WT WC VOp RW thn blk bp scp aR ba bE aF FnIn FnP ceP
theorem xq (L:List Et): ∀ u∈L.flatMap cF,u.oneCell' =true:=by
 intro u hu
 obtain ⟨x,_,hx⟩:=Se.1 hu
 simp only [cF,Rs,SK,or_false] at hx
 rcases hx with rfl|rfl|rfl<;>rfl
theorem xG (L:List Et) (tv:Value) (w:World) (ht:Reads w tv L.length (L.flatMap cF)) (hlen:L.length≤1000000):
  aF Tryz.prog 35 [tv] w fun v H=> ∃ A cap,v=sl A L.length cap∧H= [.own A 52 3 L.length cap (L.flatMap cF)]:=by
 refine aq Tryz.func35 rfl Tryz.ntmps35 rfl ?_
 have hl:(L.flatMap cF).length=L.length*3:=aM di L
 refine aB 52 3 ?_
 repeat' (first|(apply bS (n' :=0) (c:=0) (A:=none) (m:=L.length);(iterate 3 exact rfl);exact pK;(intro w hm;exact ht.of_w0 hm);exact hl;exact xq L;omega;(simp only [maxLen];omega);intro A' cap' hA)|refine sT ?_|refine sM fun _=> ?_|(refine sC ?_ ?_<;>intro hb<;>try omega)|fail)
 exact cA (.inl rfl) Tryz.results35 rfl (H' := [.own A' 52 3 (0+L.length) cap' ([]++L.flatMap cF)]) mS ⟨A',cap',by rw [Rt],by rw [Rt];rfl⟩
end Go.SL
namespace Go.SL
open Go Go.Proofs
instance:DecidableEq Et:=fun a b=>decidable_of_iff (a.at_=b.at_∧a.input=b.input) (by
 obtain ⟨a1,a2⟩:=a
 obtain ⟨b1,b2⟩:=b
 simp)
theorem QA {a b:Et}:a=b↔a.at_=b.at_∧a.input=b.input:=by
 obtain ⟨a1,a2⟩:=a
 obtain ⟨b1,b2⟩:=b
 simp
theorem K3 (w:World) (d:Nat) (a b:Et):(Op.equalIn (d+5) 52 (.agg (cF a).toArray) (.agg (cF b).toArray)).run Tryz.prog w= .ok (decide (a=b)) w:=by
 rw [run_equalIn_agg w (d+4) 52 _ _ (by rw [Program.fieldsOf,Tryz.underlying52]) Tryz.stoodInHeld52]
 simp only [Program.fieldsOf,Tryz.underlying52]
 have hr: ∀ (a b:Rf) w,(Op.equalIn (d+4) 50 (.agg #[.int .i64 a.col,.int .i64 a.row]) (.agg #[.int .i64 b.col,.int .i64 b.row])).run Tryz.prog w= .ok (eqF a b) w:=fun a b w=>qU w (d+1) a b
 simp [Op.eqFields,cF,part,go_sem,rY,uM,hr]
 by_cases h1:eqF a.at_ b.at_=true<;>by_cases h2:a.input=b.input<;>simp [h1,h2,QA]<;>(rw [kX] at h1;exact h1)
section
variable {w0:World} {s:az} {H:List Blk} {ty t' :TypeId} {x y:Operand}
theorem M5 {a b:Et} (hx:ev s x=some (.agg (cF a).toArray)) (hy:ev s y=some (.agg (cF b).toArray)):VOp Tryz.prog w0 s H (.binOp .neq 52 x y t') ty (.bool (!decide (a=b))):=fun ρ w _ _ _ _ hρ _=>by
 have h:=K3 w 9995 a b
 simp only [Nat.reduceAdd] at h
 simp only [execOp,hρ x _ hx,hρ y _ hy,Sem.run_bind,run_eqGuard_agg w _ _ _ _ _ _ Tryz.eqGuardType52,Result.andThen_ok,run_neq_struct,h,Sem.run_pure]
end
end Go.SL
namespace Go.SL
open Go Go.Proofs
attribute [local irreducible] W WL WQ WG WA WX WLI WR WT WC WE VOp RW thn blk bp scp aR ba bE aF FnIn FnP ceP
theorem J2 (a b:Rct) (w:World):aA Tryz.prog 232 [.agg (bL a).toArray,.agg (bL b).toArray] w (.bool (jQ a b)):=by
 refine aq Tryz.func232 rfl Tryz.ntmps232 rfl ?_
 have hM:=fun w=>H4 a b w
 unfold jQ
 obtain ⟨c,hc⟩: ∃ c,decide ((eL a b).1=a)=c:=⟨_,rfl⟩
 rw [hc]
 generalize eL a b=m at hM hc
 obtain ⟨mr,mb⟩:=m
 dsimp only at hM hc ⊢
 cases mb
 ·
  repeat' (first|(apply aa;exact rfl;exact rfl;(intro w hm;exact hM w))|refine sT ?_|refine sM fun _=> ?_|(refine sC ?_ ?_<;>intro hb<;>try omega)|fail)
  all_goals first|(exfalso;omega)|((refine rT1 ?_);rfl)
 ·
  repeat' (first|(apply aa;exact rfl;exact rfl;(intro w hm;exact hM w))|(apply ak;exact rfl;apply oT hc;exact rfl;exact rfl)|refine sT ?_|refine sM fun _=> ?_|(refine sC ?_ ?_<;>intro hb<;>try omega)|fail)
  all_goals first|(exfalso;omega)|((refine rT1 ?_);rfl)
set_option maxHeartbeats 4000000 in
theorem BA (r:Rct) (L:List Rl) (lv:Value) (w:World) (hl:Reads w lv L.length (L.flatMap bM)) (hb:L.length≤1000000):aA Tryz.prog 183 [.agg (bL r).toArray,lv] w (.int .i64 (iN r L:Int)):=by
 obtain ⟨Al,cl,rfl,hl1,hl2,hl3⟩:=hl
 refine aq Tryz.func183 rfl Tryz.ntmps183 rfl ?_
 by_cases h0:L.length=0
 ·
  have e:iN r L=0:=by rw [iN,h0];rfl
  rw [e]
  repeat' (first|refine sT ?_|refine sS ?_|refine sJ ?_|refine sM fun _=> ?_|(refine sC ?_ ?_<;>intro hb<;>try omega)|fail)
  rename_i g2
  refine aw [1,2] rfl (fun _:Unit=> [(5,.int .i64 (-1))]) (fun _=> [.box g2 32 (bL r)]) (fun _=>True) (fun _=>0) () trivial (by rw [h0];exact sB) mS ?_
  rintro _ _
  repeat' (first|refine sT ?_|refine sS ?_|refine sJ ?_|refine sM fun _=> ?_|(refine sC ?_ ?_<;>intro hb<;>try omega)|fail)
  all_goals first|(exfalso;omega)|((refine rT1 ?_);rfl)
 repeat' (first|refine sT ?_|refine sS ?_|refine sN ?_|refine sM fun _=> ?_|(refine sC ?_ ?_<;>intro hb<;>try omega)|fail)
 rename_i g2
 obtain ⟨gl,ol,rfl,hrl⟩:=hl3 (by omega)
 refine aw [1,2] rfl (fun i:Nat=> [(5,.int .i64 (i:Int))]) (fun _=> [.box g2 32 (bL r)]) (fun i=>i<L.length∧iN r L=m8 r L (i+1)) (fun i=>i) (L.length - 1) ⟨by omega,by rw [Uj (by omega)];rfl⟩ sB mS ?_
 rintro i ⟨hi,hrec⟩
 rw [m8,QV hi] at hrec
 simp only [Sm,S5] at hrec
 have hIn:=fun w=>J2 r L[i].rect w
 obtain ⟨h0a,_⟩:=Rl.ro (hrl.elem bV i hi)
 obtain ⟨c,hcc⟩: ∃ c,jQ r L[i].rect=c:=⟨_,rfl⟩
 simp only [hcc] at hIn hrec
 clear hcc
 generalize L[i].rect=x at h0a hIn
 by_cases hi0:i=0
 ·
  subst hi0
  have e:iN r L=0:=by rw [hrec];cases c<;>rfl
  rw [e]
  repeat' (first|refine sT ?_|refine sS ?_|refine sM fun _=> ?_|(refine sC ?_ ?_<;>intro hb<;>try omega)|fail)
  all_goals first|(exfalso;omega)|((refine rT1 ?_);rfl)
 ·
  cases c
  ·
   rw [if_neg (by decide)] at hrec
   repeat' (first|(apply aK;exact rfl;apply aj (j:=i);exact rfl;exact rfl;exact hi)|(apply cB (f:=232);exact rfl;exact rfl;(intro w' _;exact hIn w'))|refine sT ?_|refine sS ?_|refine sQ ?_|refine sN ?_|refine sNQ ?_|refine sO ?_|refine sOQ ?_|refine sD ?_|refine sM fun _=> ?_|(refine sC ?_ ?_<;>intro hb<;>try omega)|(refine sCQ ?_ ?_<;>intro hb<;>try omega)|fail)
   all_goals first
    |(exfalso;omega)
    |(refine ⟨i - 1,⟨by omega,by rw [Uj (by omega)];exact hrec⟩,by omega,by exact sB,by exact sB,by exact mS⟩;done)
  ·
   rw [if_pos rfl] at hrec
   rw [hrec]
   repeat' (first|(apply aK;exact rfl;apply aj (j:=i);exact rfl;exact rfl;exact hi)|(apply cB (f:=232);exact rfl;exact rfl;(intro w' _;exact hIn w'))|refine sT ?_|refine sS ?_|refine sQ ?_|refine sN ?_|refine sNQ ?_|refine sO ?_|refine sOQ ?_|refine sD ?_|refine sM fun _=> ?_|(refine sC ?_ ?_<;>intro hb<;>try omega)|(refine sCQ ?_ ?_<;>intro hb<;>try omega)|fail)
   all_goals first|(exfalso;omega)|((refine rT1 ?_);rfl)
def iz (fns fn:Int):Bool:=decide (46≤fn) && decide (fn≤50) && decide (Go.bits .and .u8 (fns / 2 ^ (fn - 46).toNat) 1=1)
theorem MC (fns fn:Int) (w:World):aA Tryz.prog 205 [.int .u8 fns,.int .u8 fn] w (.bool (iz fns fn)):=by
 refine aq Tryz.func205 rfl Tryz.ntmps205 rfl ?_
 by_cases h:46≤fn∧fn≤50
 ·
  obtain ⟨m,hm⟩: ∃ m:Nat,fn=46+(m:Int):=⟨(fn - 46).toNat,by omega⟩
  have he:iz fns fn=decide (Go.bits .and .u8 (fns / 2 ^ m) 1=1):=by
   unfold iz
   rw [decide_eq_true h.1,decide_eq_true h.2,show (fn - 46).toNat=m by omega,RX,RX]
  rw [he]
  have hsub:IntKind.u8.wrap (fn - 46)=(m:Int):=by rw [IntKind.wrap_u8];omega
  repeat' (first|(apply ak;exact rfl;apply oQ (c:=(m:Int));exact rfl;exact rfl;exact hsub)|(apply ak;exact rfl;apply BL (m:=m);exact rfl;exact rfl;(simp [IntKind.bits];omega))|(apply ak;exact rfl;apply Pm;exact rfl;exact rfl)|refine sT ?_|refine sM fun _=> ?_|(refine sC ?_ ?_<;>intro hb<;>try omega)|fail)
  all_goals first|(exfalso;omega)|((refine rT1 ?_);rfl)
 ·
  have he:iz fns fn=false:=by
   unfold iz
   by_cases h1:46≤fn
   ·
    have h2: ¬ fn≤50:=fun h2=>h ⟨h1,h2⟩
    simp [h2]
   ·
    simp [h1]
  rw [he]
  repeat' (first|refine sT ?_|refine sM fun _=> ?_|(refine sC ?_ ?_<;>intro hb<;>try omega)|fail)
  all_goals first|(exfalso;omega)|((refine rT1 ?_);rfl)
def FV (u:Int) (g:Gn):Bool:=decide (1≤g.fns) && decide (g.fns≤31) && decide (g.to &&& ~~~(eB u).1=0#64) && jz (eB u).1 g.by_
def gK (u:Int):List Gn→Int→Int × Int
 | [],_=>(0,0)
 |g::L,i=>if aO g.rect=false then (i,3) else if FV u g=false then (i,2) else gK u L (i+1)
def i9 (u:Int) (L:List Gn):Int × Int:=
 if u<0∨64<u∨u=0 then (0,2) else if 64<L.length then (64,5) else gK u L 0
theorem Gn.ro {w:World} {g o:Nat} {r:Gn} (h:Ro w g o (bX r)):Ro w g o (bL r.rect)∧Ro w g (o+4) [.int .u8 r.fns]∧Ro w g (o+5) [vS r.to]∧Ro w g (o+6) [.int .i64 r.by_]∧Ro w g (o+7) [.bool r.rev]:=
 ⟨h.take (k:=4),(h.drop (k:=4)).take (k:=1),(h.drop (k:=5)).take (k:=1),(h.drop (k:=6)).take (k:=1),h.drop (k:=7)⟩
set_option maxHeartbeats 4000000 in
theorem um (u:Int) (L:List Gn) (lv:Value) (w:World) (hl:Reads w lv L.length (L.flatMap bX)):aA Tryz.prog 61 [.int .i64 u,lv] w (.tuple #[.int .i64 (i9 u L).1,.int .i64 (i9 u L).2]):=by
 obtain ⟨Al,cl,rfl,hl1,hl2,hl3⟩:=hl
 refine aq Tryz.func61 rfl Tryz.ntmps61 rfl ?_
 have hA:=fun w=>GG u w
 unfold i9
 have hE:(eB u).2=if u<0∨64<u then 3 else 0:=by unfold eB;split<;>rfl
 obtain ⟨sa,has⟩: ∃ sa,sa=(eB u).1:=⟨_,rfl⟩
 rw [← has,hE] at hA
 by_cases h1:u<0∨64<u∨u=0
 ·
  rw [if_pos h1]
  by_cases h2:u<0∨64<u
  ·
   rw [if_pos h2] at hA
   repeat' (first|(apply aa;exact rfl;exact rfl;(intro w hm;exact hA w))|refine sT ?_|refine sM fun _=> ?_|(refine sC ?_ ?_<;>intro hb<;>try omega)|fail)
   all_goals first|(exfalso;omega)|((refine rT2 ?_);rfl)
  ·
   rw [if_neg h2] at hA
   repeat' (first|(apply aa;exact rfl;exact rfl;(intro w hm;exact hA w))|refine sT ?_|refine sM fun _=> ?_|(refine sC ?_ ?_<;>intro hb<;>try omega)|fail)
   all_goals first|(exfalso;omega)|((refine rT2 ?_);rfl)
 rw [if_neg h1]
 rw [if_neg (by omega)] at hA
 by_cases h64:64<L.length
 ·
  rw [if_pos h64]
  repeat' (first|(apply aa;exact rfl;exact rfl;(intro w hm;exact hA w))|refine sT ?_|refine sM fun _=> ?_|(refine sC ?_ ?_<;>intro hb<;>try omega)|fail)
  all_goals first|(exfalso;omega)|((refine rT2 ?_);rfl)
 rw [if_neg h64]
 repeat' (first|(apply aa;exact rfl;exact rfl;(intro w hm;exact hA w))|refine sT ?_|refine sM fun _=> ?_|(refine sC ?_ ?_<;>intro hb<;>try omega)|fail)
 all_goals try (exfalso;omega)
 refine aw [1,6,23,24] rfl (fun i:Nat=> [(25,.int .i64 (i:Int))]) (fun _=> []) (fun i=>i≤L.length∧gK u L 0=gK u (L.drop i) (i:Int)) (fun i=>L.length - i) 0 ⟨Rd _,rfl⟩ sB mS ?_
 rintro i ⟨hi,hrec⟩
 by_cases hlt:i<L.length
 ·
  obtain ⟨gl,ol,rfl,hrl⟩:=hl3 (by omega)
  have he1:=hrl.elem eO i hlt
  rw [Rc hlt,gK,FV,← has] at hrec
  generalize L[i]=r at hrec he1
  have hck:=fun w=>kO r.rect w
  have hhs:=fun w=>sn sa r.by_ w
  generalize jz sa r.by_=hb at hhs hrec
  repeat' (first|(apply aa;exact rfl;exact rfl;(intro w hm;exact hck w))|(apply aa;exact rfl;exact rfl;(intro w hm;exact hhs w))|(apply ak;exact rfl;apply fF (b:=sa);exact rfl;exact rfl)|(apply ak;exact rfl;apply je (b:=0#64);exact rfl;exact rfl)|refine sT ?_|refine sN ?_|refine sO ?_|refine sM fun _=> ?_|(refine sC ?_ ?_<;>intro hb<;>try omega)|fail)
  all_goals first
   |(exfalso;omega)
   |((refine rT2 ?_);rw [hrec,if_pos (oY hb)];done)
   |((refine rT2 ?_);rw [hrec,if_neg (ko ‹_›),if_pos (by first|(rw [decide_eq_false (show ¬ (1:Int)≤r.fns by omega)];rfl)|(rw [decide_eq_false (show ¬ r.fns≤(31:Int) by omega),Sh];rfl)|(rw [decide_eq_false hb,Sh];rfl)|(rw [hb,Sh]))];done)
   |(refine ⟨i+1,⟨hlt,by rw [hrec,if_neg (ko ‹_›),if_neg (by simp_all)];rfl⟩,by omega,by exact sB,by exact sB,by exact mS⟩;done)
 ·
  have e:i=L.length:=by omega
  subst e
  rw [RK,gK] at hrec
  rw [hrec]
  repeat' (first|refine sT ?_|refine sM fun _=> ?_|(refine sC ?_ ?_<;>intro hb<;>try omega)|fail)
  all_goals first|(exfalso;omega)|((refine rT2 ?_);rfl)
def fM (all:BitVec 64):Int→List Ev→Int
 |_,[]=>0
 |last,x::l=>if x.step≤last then 12 else if (ye x.kind && jz all x.user)=false then 2 else if aO x.rect=false then 3 else if (decide (x.to &&& ~~~all=0#64) && jz x.to x.user)=false then 2 else fM all x.step l
def KT (all:BitVec 64) (x:Rv):Bool:=decide (0≤x.call.node) && decide (x.call.node<256) && decide (46≤x.fn) && decide (x.fn≤50) && decide (0≤x.grant) && decide (x.grant<64) && decide (x.to &&& ~~~all=0#64)
def fX (all:BitVec 64):Int→List Rv→Int
 |_,[]=>0
 |last,x::l=>if x.step<last then 12 else if (x.call.at_.valid && aO x.rect)=false then 3 else if KT all x=false then 2 else fX all x.step l
def tI (u:Int) (L:List Ev) (M:List Rv):Int:=
 if u<0∨64<u∨u=0 then 2 else if fM (eB u).1 (-1) L≠0 then fM (eB u).1 (-1) L else fX (eB u).1 (-1) M
theorem sZ {r:Rct}:aO r=false↔gV r≠0:=⟨fun h=>by rw [gV,h];decide,oY⟩
theorem Ev.ro {w:World} {g o:Nat} {r:Ev} (h:Ro w g o (dK r)):Ro w g o [.int .i64 r.step]∧Ro w g (o+1) [.int .i64 r.user]∧Ro w g (o+2) [.int .u8 r.kind]∧Ro w g (o+3) (bL r.rect)∧Ro w g (o+7) [.bool r.done]∧Ro w g (o+8) [vS r.to]:=
 ⟨h.take (k:=1),(h.drop (k:=1)).take (k:=1),(h.drop (k:=2)).take (k:=1),(h.drop (k:=3)).take (k:=4),(h.drop (k:=7)).take (k:=1),h.drop (k:=8)⟩
def lp (L:List Ev) (i:Nat):Int:=if i=0 then -1 else ((L[i - 1]?).map Ev.step).getD 0
def lm (L:List Rv) (i:Nat):Int:=if i=0 then -1 else ((L[i - 1]?).map Rv.step).getD 0
set_option maxHeartbeats 8000000 in
theorem D6 (u:Int) (L:List Ev) (M:List Rv) (lv mv:Value) (w:World) (hl:Reads w lv L.length (L.flatMap dK)) (hm:Reads w mv M.length (M.flatMap aJ)):aA Tryz.prog 62 [.int .i64 u,lv,mv] w (.int .i64 (tI u L M)):=by
 obtain ⟨Al,cl,rfl,hl1,hl2,hl3⟩:=hl
 obtain ⟨Am,cm,rfl,hm1,hm2,hm3⟩:=hm
 refine aq Tryz.func62 rfl Tryz.ntmps62 rfl ?_
 have hA:=fun w=>GG u w
 unfold tI
 have hE:(eB u).2=if u<0∨64<u then 3 else 0:=by unfold eB;split<;>rfl
 obtain ⟨sa,has⟩: ∃ sa,sa=(eB u).1:=⟨_,rfl⟩
 rw [← has,hE] at hA
 rw [← has]
 by_cases h1:u<0∨64<u∨u=0
 ·
  rw [if_pos h1]
  by_cases h2:u<0∨64<u
  ·
   rw [if_pos h2] at hA
   repeat' (first|(apply aa;exact rfl;exact rfl;(intro w hm;exact hA w))|refine sT ?_|refine sM fun _=> ?_|(refine sC ?_ ?_<;>intro hb<;>try omega)|fail)
   all_goals first|(exfalso;omega)|((refine rT1 ?_);rfl)
  ·
   rw [if_neg h2] at hA
   repeat' (first|(apply aa;exact rfl;exact rfl;(intro w hm;exact hA w))|refine sT ?_|refine sM fun _=> ?_|(refine sC ?_ ?_<;>intro hb<;>try omega)|fail)
   all_goals first|(exfalso;omega)|((refine rT1 ?_);rfl)
 rw [if_neg h1]
 rw [if_neg (by omega)] at hA
 repeat' (first|(apply aa;exact rfl;exact rfl;(intro w hm;exact hA w))|refine sT ?_|refine sM fun _=> ?_|(refine sC ?_ ?_<;>intro hb<;>try omega)|fail)
 all_goals try (exfalso;omega)
 obtain ⟨ef,hef⟩: ∃ ef,fM sa (-1) L=ef:=⟨_,rfl⟩
 rw [hef]
 refine aw [0,1,2,7,25,26] rfl (fun i:Nat=> [(9,.int .i64 (lp L i)),(27,.int .i64 (i:Int))]) (fun _=> []) (fun i=>i≤L.length∧ef=fM sa (lp L i) (L.drop i)) (fun i=>L.length - i) 0 ⟨Rd _,hef.symm⟩ sB mS ?_
 rintro i ⟨hi,hrec⟩
 by_cases hlt:i<L.length
 ·
  obtain ⟨gl,ol,rfl,hrl⟩:=hl3 (by omega)
  have he1:=hrl.elem fS i hlt
  have hnext:lp L (i+1)=L[i].step:=by unfold lp;rw [if_neg (by omega),ST,QV hlt];rfl
  rw [Rc hlt,fM] at hrec
  generalize lp L i=last at hrec
  generalize L[i]=r at hnext he1 hrec
  have hck:=fun w=>kO r.rect w
  have hhs:=fun w=>sn sa r.user w
  have hht:=fun w=>sn r.to r.user w
  have hmu:=fun w=>Eg r.kind w
  simp only [sZ] at hrec
  generalize gV r.rect=re at hck hrec
  clear has
  generalize ye r.kind=mk at hmu hrec
  generalize jz sa r.user=hb1 at hhs hrec
  generalize jz r.to r.user=hb2 at hht hrec
  repeat' (first|(apply ak;exact rfl;apply aC;exact rfl;exact he1;exact rfl)|(apply aa;exact rfl;exact rfl;(intro w hm;exact hmu w))|(apply aa (f:=118);exact rfl;exact rfl;(intro w' _;first|exact hhs w' |exact hht w'))|(apply aa;exact rfl;exact rfl;(intro w hm;exact hck w))|(apply ak;exact rfl;apply fF (b:=sa);exact rfl;exact rfl)|(apply ak;exact rfl;apply je (b:=0#64);exact rfl;exact rfl)|refine sT ?_|refine sS ?_|refine sN ?_|refine sO ?_|refine sM fun _=> ?_|(refine sC ?_ ?_<;>intro hb<;>try omega)|fail)
  all_goals try (have hnl: ¬ r.step≤last:=by omega)
  all_goals first
   |(exfalso;omega)
   |(refine ⟨i+1,⟨hlt,?_⟩,by omega,by (try simp only [hnext]);exact sB,by (try simp only [hnext]);exact sB,by exact mS⟩;rw [hnext];simp_all;done)
   |((refine rT1 ?_);simp_all;done)
 ·
  have e:i=L.length:=by omega
  subst e
  rw [RK,fM] at hrec
  subst hrec
  rw [if_neg (by decide)]
  obtain ⟨rf,hrf⟩: ∃ rf,fX sa (-1) M=rf:=⟨_,rfl⟩
  rw [hrf]
  repeat' (first|refine sT ?_|refine sM fun _=> ?_|(refine sC ?_ ?_<;>intro hb<;>try omega)|fail)
  refine aw [0,2,7,71,72] rfl (fun i:Nat=> [(9,.int .i64 (lm M i)),(73,.int .i64 (i:Int))]) (fun _=> []) (fun i=>i≤M.length∧rf=fX sa (lm M i) (M.drop i)) (fun i=>M.length - i) 0 ⟨Rd _,hrf.symm⟩ sB mS ?_
  rintro i ⟨hi,hrec⟩
  by_cases hlt:i<M.length
  ·
   obtain ⟨gm,om,rfl,hrm⟩:=hm3 (by omega)
   have he1:=hrm.elem cQ i hlt
   have hnext:lm M (i+1)=M[i].step:=by unfold lm;rw [if_neg (by omega),ST,QV hlt];rfl
   rw [Rc hlt,fX] at hrec
   generalize lm M i=last at hrec
   generalize M[i]=r at hnext he1 hrec
   have hck:=fun w=>kO r.rect w
   have hV: ∀ w',aA Tryz.prog 71 [.agg (aS r.call.at_).toArray] w' (.bool r.call.at_.valid):=fun w' =>j6 r.call.at_.col r.call.at_.row w'
   have hok:KT sa r=false↔(r.call.node<0∨256≤r.call.node∨r.fn<46∨50<r.fn∨r.grant<0∨64≤r.grant∨r.to &&& ~~~sa≠0#64):=by
    simp only [KT,Sw,decide_eq_false_iff_not,Int.not_le,Int.not_lt,or_assoc]
   simp only [hok] at hrec
   clear hok
   simp only [Sw,sZ] at hrec
   generalize gV r.rect=re at hck hrec
   clear has
   generalize r.call.at_.valid=vd at hV hrec
   by_cases h12:r.step<last
   ·
    rw [if_pos h12] at hrec
    repeat' (first|(apply ak;exact rfl;apply aC;exact rfl;exact he1;exact rfl)|(apply aa;exact rfl;exact rfl;(intro w hm;exact hV w))|(apply aa;exact rfl;exact rfl;(intro w hm;exact hck w))|(apply ak;exact rfl;apply fF (b:=sa);exact rfl;exact rfl)|(apply ak;exact rfl;apply je (b:=0#64);exact rfl;exact rfl)|refine sT ?_|refine sS ?_|refine sN ?_|refine sO ?_|refine sM fun _=> ?_|(refine sC ?_ ?_<;>intro hb<;>try omega)|fail)
    all_goals first|(exfalso;omega)|((refine rT1 ?_);rw [hrec];done)
   rw [if_neg h12] at hrec
   by_cases h3:vd=false∨re≠0
   ·
    rw [if_pos h3] at hrec
    repeat' (first|(apply ak;exact rfl;apply aC;exact rfl;exact he1;exact rfl)|(apply aa;exact rfl;exact rfl;(intro w hm;exact hV w))|(apply aa;exact rfl;exact rfl;(intro w hm;exact hck w))|(apply ak;exact rfl;apply fF (b:=sa);exact rfl;exact rfl)|(apply ak;exact rfl;apply je (b:=0#64);exact rfl;exact rfl)|refine sT ?_|refine sS ?_|refine sN ?_|refine sO ?_|refine sM fun _=> ?_|(refine sC ?_ ?_<;>intro hb<;>try omega)|fail)
    all_goals first
     |(exfalso;omega)
     |(exfalso;rcases h3 with h3|h3<;>simp_all;done)
     |((refine rT1 ?_);rw [hrec];done)
   rw [if_neg h3] at hrec
   obtain ⟨h31,h32⟩:=not_or.1 h3
   have h31:vd=true:=by simpa using h31
   have h32:re=0:=by omega
   subst h31;subst h32
   by_cases hD:r.call.node<0∨256≤r.call.node∨r.fn<46∨50<r.fn∨r.grant<0∨64≤r.grant∨r.to &&& ~~~sa≠0#64
   ·
    rw [if_pos hD] at hrec
    repeat' (first|(apply ak;exact rfl;apply aC;exact rfl;exact he1;exact rfl)|(apply aa;exact rfl;exact rfl;(intro w hm;exact hV w))|(apply aa;exact rfl;exact rfl;(intro w hm;exact hck w))|(apply ak;exact rfl;apply fF (b:=sa);exact rfl;exact rfl)|(apply ak;exact rfl;apply je (b:=0#64);exact rfl;exact rfl)|refine sT ?_|refine sS ?_|refine sN ?_|refine sO ?_|refine sM fun _=> ?_|(refine sC ?_ ?_<;>intro hb<;>try omega)|fail)
    all_goals first
     |(exfalso;omega)
     |((refine rT1 ?_);rw [hrec];done)
     |(exfalso;rcases hD with h|h|h|h|h|h|h<;>first|omega|exact absurd ‹_› h)
   ·
    rw [if_neg hD] at hrec
    repeat' (first|(apply ak;exact rfl;apply aC;exact rfl;exact he1;exact rfl)|(apply aa;exact rfl;exact rfl;(intro w hm;exact hV w))|(apply aa;exact rfl;exact rfl;(intro w hm;exact hck w))|(apply ak;exact rfl;apply fF (b:=sa);exact rfl;exact rfl)|(apply ak;exact rfl;apply je (b:=0#64);exact rfl;exact rfl)|refine sT ?_|refine sS ?_|refine sN ?_|refine sO ?_|refine sM fun _=> ?_|(refine sC ?_ ?_<;>intro hb<;>try omega)|fail)
    all_goals first
     |(exfalso;omega)
     |(exfalso;exact hD (.inr (.inr (.inr (.inr (.inr (.inr hb)))))))
     |(refine ⟨i+1,⟨hlt,?_⟩,by omega,by (try simp only [hnext]);exact sB,by (try simp only [hnext]);exact sB,by exact mS⟩;rw [hnext,hrec];done)
  ·
   have e:i=M.length:=by omega
   subst e
   rw [RK,fX] at hrec
   subst hrec
   repeat' (first|refine sT ?_|refine sM fun _=> ?_|(refine sC ?_ ?_<;>intro hb<;>try omega)|fail)
   all_goals first|(exfalso;omega)|((refine rT1 ?_);rfl)
end Go.SL
namespace Go.SL
open Go Go.Proofs
attribute [local irreducible] W WL WQ WG WA WX WLI WR WT WC VOp RW thn blk bp scp aR ba bE aF FnIn FnP ceP
theorem uN (L M:List Et) (lv mv:Value) (w:World) (hl:Reads w lv L.length (L.flatMap cF)) (hm:Reads w mv M.length (M.flatMap cF)):
  aA Tryz.prog 53 [lv,mv] w (.bool (decide (L=M))):=by
 obtain ⟨Al,cl,rfl,hl1,hl2,hl3⟩:=hl
 obtain ⟨Am,cm,rfl,hm1,hm2,hm3⟩:=hm
 refine aq Tryz.func53 rfl Tryz.ntmps53 rfl ?_
 by_cases hlen:L.length=M.length
 ·
  repeat' (first|refine sT ?_|refine sS ?_|refine sM fun _=> ?_|(refine sC ?_ ?_<;>intro hb<;>try omega)|fail)
  refine fD (fun i:Nat=> [(0,.slice Al L.length cl),(1,.slice Am M.length cm),(5,.int .i64 (i:Int))]) (fun _=> []) (fun i=>i≤L.length∧decide (L=M)=decide (L.drop i=M.drop i)) (fun i=>L.length - i) 0 ⟨by omega,rfl⟩ ?_ ?_ ?_
  ·
   exact sB
  ·
   exact mS
  ·
   rintro i ⟨hi,hrec⟩
   by_cases hlt:i<L.length
   ·
    have hlt2:i<M.length:=by omega
    obtain ⟨gl,ol,rfl,hrl⟩:=hl3 (by omega)
    obtain ⟨gm,om,rfl,hrm⟩:=hm3 (by omega)
    have he1:=hrl.elem di i hlt
    have he2:=hrm.elem di i hlt2
    rw [rN hlt hlt2] at hrec
    repeat' (first|(apply aK;exact rfl;apply aj;exact rfl;exact rfl;(first|exact hlt|exact hlt2))|(apply aK;exact rfl;apply aC;exact rfl;(first|exact he1|exact he2);exact rfl)|(apply aK;exact rfl;apply M5;exact rfl;exact rfl)|(apply ak;exact rfl;apply gJ;exact rfl;exact rfl;(simp only [maxLen] at*;omega))|refine sT ?_|refine sS ?_|refine sQ ?_|refine sD ?_|refine sM fun _=> ?_|(refine sC ?_ ?_<;>intro hb<;>try omega)|(refine sCQ ?_ ?_<;>intro hb<;>try omega)|fail)
    ·
     (refine rT1 ?_)
     rw [hrec]
     simp_all
    ·
     refine ⟨i+1,⟨by omega,?_⟩,by omega,?_,?_⟩
     ·
      rw [hrec]
      simp_all
     ·
      exact sB
     ·
      exact mS
   ·
    have e:i=L.length:=by omega
    subst e
    repeat' (first|refine sT ?_|refine sS ?_|refine sM fun _=> ?_|(refine sC ?_ ?_<;>intro hb<;>try omega)|fail)
    (refine rT1 ?_)
    rw [hrec,RK,hlen,RK]
    rfl
 ·
  repeat' (first|refine sT ?_|refine sS ?_|refine sM fun _=> ?_|(refine sC ?_ ?_<;>intro hb<;>try omega)|fail)
  (refine rT1 ?_)
  rw [decide_eq_false]
  intro e
  exact hlen (congrArg List.length e)
end Go.SL
namespace Go.SL
open Go Go.Proofs Go.ChangeShapes Go.WideShapes Go.ChangeAt Go.RowKit Go.Deep
section
variable {H:Type} {enc:TypeId × Value→H} {P:Program} {w:World} {base:Nat} {spare:Nat→Bool} {held:Bool}
theorem x9 {f:Func} {s:ChangeSpec} {apart fresh handsOn again:Bool} {W W' :World} {args:Array Value} {v:Value} {ds gs:List (DataW H)} {before pa pv:List MemPlace}
  (hW:DataW.Whole enc P f.params.toList s.vars apart W args.toList ds gs before)
  (hres: ∀ (b:Nat) (sp:Nat→Bool) (hd:Bool),DataW.TrodAll enc P W' b sp hd f.resultTypes.toList (v.resultList f.resultTypes.size) (s.fn H (ds++gs)).results [])
  (hargs: ∀ sp:Nat→Bool,(∀ p∈before,sp p.block=true)→DataW.TrodAll enc P W' 0 sp true f.params.toList args.toList (s.fn H (ds++gs)).args pa)
  (hvars: ∀ sp:Nat→Bool,(∀ p∈before,sp p.block=true)→DataW.TrodVars enc P W' sp s.vars (s.fn H (ds++gs)).vars pv)
  (hps:before=pa++pv) (hb:Below W.heap.size W W')
  (hok: ∀ (j:Nat) (t:TypeId) (r:Value),f.resultTypes[j]? =some t→(v.resultList f.resultTypes.size)[j]? =some r→Value.okWide P W' .any 0 t r):
  s.post enc P f apart fresh handsOn again W args v W' :=by
 have hold: ∀ p∈before,(fun b=>decide (b<W.heap.size)) p.block=true:=fun p hp=>by simpa using hW.lt p hp
 refine ⟨ds,gs,before,[],pa,pv,hW,hres _ _ _,hargs _ hold,hvars _ hold,hb.frame _,fun _=> ?_⟩
 have hlt:=hW.lt
 obtain ⟨_,_,_,_,_,hz,hn⟩:=hW
 refine ⟨hok,_,_,([]++pa)++pv,⟨[]++pa,pv,trodAll_append (hargs _ (fun _ _=>rfl)) (hres _ _ _),hvars _ (fun _ _=>rfl),rfl,?_,?_⟩,?_⟩
 ·
  intro b off hp
  have hp' :MemPlace.cell b off∈before:=by rw [hps];simpa using hp
  have h1:=hz b off hp'
  have h2:=hlt _ hp'
  rw [← h1]
  exact hb.frozen h2
 ·
  intro ha
  have:=hn ha
  rw [hps] at this
  simpa using this
 ·
  intro p hp _
  rw [hps]
  simpa using hp
theorem pE {t:TypeId} (hl:laidOutB P=true) (hr:P.readableRec t=true) (hrow:t<P.types.size) {W W' :World} {v:Value} {d:DataW H} {ps:List MemPlace} {sp:Nat→Bool}
  (h:DataW.Trod enc P W 0 (fun _=>true) true t v d ps) (hb:Below W.heap.size W W') (hlt: ∀ x∈ps,x.block<W.heap.size) (hs: ∀ x∈ps,sp x.block=true):DataW.Trod enc P W' 0 sp true t v d ps:=
 WideElems.Trod_stays hl hr hrow h (fun x hx=>hb.same (hlt x hx)) hs
end
theorem Oo:ownKnob Tryz.prog.godebug=none:=by kernel_rfl
theorem oJ:laidOutB Tryz.prog=true:=by kernel_rfl
section
variable {H:Type} {enc:TypeId × Value→H} {w:World} {base:Nat} {spare:Nat→Bool} {held:Bool}
theorem xy {α:Type} {enc:α→List Value} {m:Nat} (hm: ∀ a,(enc a).length=m) (w:World) (g o:Nat): ∀ (L:List α),(∀ (i:Nat) (a:α),L[i]? =some a→Cells w g (o+i*m) (enc a))→Cells w g o (L.flatMap enc):=by
 intro L h j v hv
 by_cases hm0:m=0
 ·
  have:(L.flatMap enc).length=0:=by rw [aM hm,hm0,Nat.mul_zero]
  rw [SB (by omega)] at hv
  cases hv
 have hlen:(L.flatMap enc).length=L.length*m:=aM hm L
 have hj:j<(L.flatMap enc).length:=(Rg.1 hv).1
 have hi:j / m<L.length:=by rw [Nat.div_lt_iff_lt_mul (by omega)];omega
 have hk:j % m<m:=Nat.mod_lt _ (by omega)
 have he:j / m*m+j % m=j:=by rw [Nat.mul_comm];exact Nat.div_add_mod j m
 have h1:=tB hm L (j / m) (j % m) hi hk
 rw [he,hv] at h1
 have h2:=h (j / m) L[j / m] (QV hi) (j % m) v h1.symm
 rw [show o+j / m*m+j % m=o+j by omega] at h2
 exact h2
theorem o4 {α:Type} [Inhabited α] {encA:α→List Value} {ok:α→Prop} {P:Program} {t e m fuel:Nat} {cs:List Value} {x:DataW H × List MemPlace} (ht:P.underlying t=some (.slice e)) (hm:P.cellsOf e=m) (hm0:0<m) (hlenA: ∀ a,(encA a).length=m)
  (helem: ∀ (n:Nat) (cs:List Value) (y:DataW H × List MemPlace),DataW.trod enc P w 0 spare held n e cs=some y→ ∃ a,cs=encA a∧ok a) (h:DataW.trod enc P w 0 spare held fuel t cs=some x):
  ∃ (v:Value) (L:List α),cs= [v]∧Reads w v L.length (L.flatMap encA)∧ ∀ a∈L,ok a:=by
 rcases open_slice ht h with ⟨h0,_⟩|⟨a,len,cap,mm,n,D,Pl,h0,hb,hl,hmx,hmm,_,hx⟩
 ·
  exact ⟨_,[],h0,⟨none,0,rfl,Re _,Rd _,fun h=>by cases h⟩,fun _ h=>by cases h⟩
 ·
  have hlm:len≤mm:=by rw [hmm];split<;>omega
  obtain ⟨F,hF⟩:=choose_lt (α:=α) (n:=len) (p:=fun i nd=>w.cells? 0 (a.add (i*m)) m=some (encA nd)∧ok nd) (fun i hi=>by
   obtain ⟨cs',h1,h2⟩:=hx i (by omega)
   rw [hm] at h1
   obtain ⟨nd,rfl,hw⟩:=helem _ _ _ h2
   exact ⟨nd,h1,hw⟩)
  have hlen:((List.range len).map F).length=len:=by simp
  refine ⟨_,(List.range len).map F,h0,⟨some a,cap,by rw [hlen],by omega,hmx,fun hpos=> ?_⟩,fun n hn=> ?_⟩
  rotate_left
  ·
   obtain ⟨i,hi,rfl⟩:=RG.1 hn
   exact (hF i (List.mem_range.1 hi)).2
  rw [hlen] at hpos
  obtain ⟨g,o,spot⟩:=a
  have hspot:spot=none:=by
   obtain ⟨_,_,h3⟩:=World.cells?_some (hF 0 (by omega)).1
   have h4' :=h3 0 hm0
   rw [QV (by rw [hlenA];exact hm0)] at h4'
   have h4:=World.cell?_spot h4'
   simpa [Addr.add] using h4
  subst hspot
  have hcell: ∀ (i:Nat) (nd:α),((List.range len).map F)[i]? =some nd→Cells w g (o+i*m) (encA nd):=by
   intro i nd hnd k v hv
   have hil:i<len:=by have:=(Rg.1 hnd).1;omega
   have hnd' :F i=nd:=by simpa [hil] using hnd
   subst hnd'
   have hk:k<m:=by have:=(Rg.1 hv).1;rwa [hlenA] at this
   obtain ⟨_,_,h3⟩:=World.cells?_some (hF i hil).1
   have:=h3 k hk
   rw [hv,dW,dW] at this
   exact this
  refine ⟨g,o,rfl,?_,xy hlenA w g o _ hcell⟩
  obtain ⟨u,hu⟩: ∃ u,(encA (F 0))[0]? =some u:=⟨_,QV (by rw [hlenA];exact hm0)⟩
  have h5:=hcell 0 (F 0) (by simp [hpos]) 0 u hu
  simp only [World.cell?] at h5
  split at h5
  ·
   rename_i h6
   exact (RI.1 h6).1
  ·
   cases h5
theorem ig {n:Nat} {c:Value} {x:DataW H × List MemPlace} (h:DataW.trod enc Tryz.prog w base spare held n 3 [c]=some x): ∃ a,c= .int .i64 a∧I64 a:=by
 obtain ⟨a0,q0,_,w0⟩:=DataW.trod_int Tryz.underlying3 h
 simp only [List.cons.injEq,and_true] at q0
 exact ⟨a0,q0,bounds_i64 w0⟩
def okF (a:Rf):Prop:=I64 a.col∧I64 a.row
def okR (r:Rct):Prop:=I64 r.c1∧I64 r.r1∧I64 r.c2∧I64 r.r2
set_option maxRecDepth 100000 in
theorem BX {fuel:Nat} {cs:List Value} {x:DataW H × List MemPlace} (h:DataW.trod enc Tryz.prog w base spare held fuel 50 cs=some x): ∃ v:Rf,cs=aS v∧okF v:=by
 obtain ⟨xs,n,_,_,hlen,hxl,hf⟩:=DataW.trod_struct Tryz.underlying50 h
 have eS:Tryz.prog.cellsOf 50=2:=by kernel_rfl
 have eI:Tryz.prog.cellsOf 3=1:=by kernel_rfl
 rw [eS] at hlen
 match cs,hlen,xs,hxl with
 | [c0,c1],_,[x0,x1],_=>
  have h0:DataW.trod enc Tryz.prog w base spare held n 3 ((([c0,c1]:List Value).drop 0).take (Tryz.prog.cellsOf 3))=some x0:=hf 0 _ rfl
  rw [eI] at h0
  obtain ⟨a0,rfl,w0⟩:=ig (c:=c0) h0
  have h1:DataW.trod enc Tryz.prog w base spare held n 3 ((([Value.int .i64 a0,c1]:List Value).drop 1).take (Tryz.prog.cellsOf 3))=some x1:=hf 1 _ rfl
  rw [eI] at h1
  obtain ⟨a1,rfl,w1⟩:=ig (c:=c1) h1
  exact ⟨⟨a0,a1⟩,rfl,w0,w1⟩
set_option maxRecDepth 100000 in
theorem oW {fuel:Nat} {cs:List Value} {x:DataW H × List MemPlace} (h:DataW.trod enc Tryz.prog w base spare held fuel 32 cs=some x): ∃ v:Rct,cs=bL v∧okR v:=by
 obtain ⟨xs,n,_,_,hlen,hxl,hf⟩:=DataW.trod_struct Tryz.underlying32 h
 have eS:Tryz.prog.cellsOf 32=4:=by kernel_rfl
 have eI:Tryz.prog.cellsOf 3=1:=by kernel_rfl
 rw [eS] at hlen
 match cs,hlen,xs,hxl with
 | [c0,c1,c2,c3],_,[x0,x1,x2,x3],_=>
  have h0:DataW.trod enc Tryz.prog w base spare held n 3 ((([c0,c1,c2,c3]:List Value).drop 0).take (Tryz.prog.cellsOf 3))=some x0:=hf 0 _ rfl
  rw [eI] at h0
  obtain ⟨a0,rfl,w0⟩:=ig (c:=c0) h0
  have h1:DataW.trod enc Tryz.prog w base spare held n 3 ((([Value.int .i64 a0,c1,c2,c3]:List Value).drop 1).take (Tryz.prog.cellsOf 3))=some x1:=hf 1 _ rfl
  rw [eI] at h1
  obtain ⟨a1,rfl,w1⟩:=ig (c:=c1) h1
  have h2:DataW.trod enc Tryz.prog w base spare held n 3 ((([Value.int .i64 a0,.int .i64 a1,c2,c3]:List Value).drop 2).take (Tryz.prog.cellsOf 3))=some x2:=hf 2 _ rfl
  rw [eI] at h2
  obtain ⟨a2,rfl,w2⟩:=ig (c:=c2) h2
  have h3:DataW.trod enc Tryz.prog w base spare held n 3 ((([Value.int .i64 a0,.int .i64 a1,.int .i64 a2,c3]:List Value).drop 3).take (Tryz.prog.cellsOf 3))=some x3:=hf 3 _ rfl
  rw [eI] at h3
  obtain ⟨a3,rfl,w3⟩:=ig (c:=c3) h3
  exact ⟨⟨a0,a1,a2,a3⟩,rfl,w0,w1,w2,w3⟩
instance:Inhabited Et:=⟨⟨⟨0,0⟩,av⟩⟩
end
end Go.SL
