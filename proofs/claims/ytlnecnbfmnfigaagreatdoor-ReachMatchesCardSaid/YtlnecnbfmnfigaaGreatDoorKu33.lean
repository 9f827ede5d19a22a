/-
  Lemmas and walks, put together: Ri Rj Rk Pl4 Pl5 Pl6.
-/
import Derived.Test.YtlnecnbfmnfigaaGreatDoorKu32
set_option linter.unusedSimpArgs false
set_option linter.unusedVariables false
set_option maxRecDepth 20000
namespace Go.SL
open Go Go.Proofs
attribute [local irreducible] W WL WQ WG WA WX WLI WR WT WC WE VOp RW thn blk bZ scp bA bV ck FnAt FnIn FnP ceP
theorem xJ {P:Program} {w0:World} {s:aB} {H:List Blk} {ty t e lo m c sz g:Nat} {x xl:Operand} [ht:Und P t (.slice e)] [hz:Size P e sz] (hx:ev s x=some (.slice (some ⟨g,0,none⟩) m c)) (hxl:ev s xl=some (.int .i64 (lo:Nat))) (h1:lo<m) (h2:m≤c):
  VOp P w0 s H (.slice t x (some xl) none none) ty (.slice (some ⟨g,lo*sz,none⟩) (m - lo) (c - lo)):=by
 have h:=jd (P:=P) (w0:=w0) (s:=s) (H:=H) (ty:=ty) (t:=t) (lo:=lo) (hi:=m) (x:=x) (xl:=some xl) (xh:=none) hx ⟨_,hxl⟩ rfl (by omega) h2
 rw [if_neg (show ¬ c=lo by omega)] at h
 have ha:(⟨g,0,none⟩:Addr).add (lo*sz)=⟨g,lo*sz,none⟩:=by unfold Addr.add;split<;>simp_all
 rw [Qb,ha] at h
 exact h
theorem ry {P:Program} {w0:World} {s:aB} {H:List Blk} {ty t e hi m c sz:Nat} {A:Option Addr} {x xh:Operand} [ht:Und P t (.slice e)] [hz:Size P e sz] (hx:ev s x=some (.slice A m c)) (hxh:ev s xh=some (.int .i64 (hi:Nat))) (h2:hi≤c):
  VOp P w0 s H (.slice t x none (some xh) none) ty (.slice A hi c):=by
 have h:=jd (P:=P) (w0:=w0) (s:=s) (H:=H) (ty:=ty) (t:=t) (lo:=0) (hi:=hi) (x:=x) (xl:=none) (xh:=some xh) hx rfl ⟨_,hxh⟩ (by omega) h2
 have ha:(if c=0 then A else A.map (·.add (0*sz)))=A:=by
  split
  ·
   rfl
  ·
   cases A with
   |none=>rfl
   |some a=>rw [Sa];simp [Addr.add]
 rw [ha] at h
 exact h
theorem Nr {L:List Rct} {k:Nat} (h:k<L.length):((L.flatMap aH).drop (0+k*4)).take 4=aH L[k]:=by
 rw [Pn];exact cK cY L k h
theorem MN {L:List Rct} {a k:Nat} (h:a+k<L.length):((L.flatMap aH).drop (a*4+k*4)).take 4=aH L[a+k]:=by
 rw [← QH];exact cK cY L (a+k) h
set_option maxHeartbeats 4000000 in
theorem Fz (L:List Rct) (A:Option Nat) (cap:Nat) (hL:L.length≤1000000) (R:List Blk) (w0:World):
    FnIn Tryz.prog 66 [sl A L.length cap] w0 (.own A 53 4 L.length cap (L.flatMap aH)::R) fun v H=>v=sl A (iB L).length cap∧H= .own A 53 4 (iB L).length cap ((iB L).flatMap aH)::R:=by
  refine bM Tryz.func66 rfl Tryz.ntmps66 rfl ?_
  refine K6 (A:=A) .hd fun hle=> ?_
  by_cases h2:L.length<2
  · have hc:=Dg (L:=L) (by omega)
    repeat' (first|refine sT ?_|refine sS ?_|refine sN ?_|refine sM fun _=> ?_|(refine sC ?_ ?_<;>intro hb<;>try omega)|fail)
    all_goals first
      |(exfalso;omega)
      |(refine bK eIO rfl rfl (.refl _) ?_;rw [hc];exact ⟨rfl,rfl⟩)
      |trace_state
  · refine bW (A:=A) .hd (by omega) fun g hA=> ?_
    subst hA
    repeat' (first|refine sT ?_|refine sS ?_|refine sN ?_|refine sM fun _=> ?_|(refine sC ?_ ?_<;>intro hb<;>try omega)|fail)
    all_goals try (exfalso;omega)
    refine ax [0] rfl (fun k:Nat=> [(3,.int .i64 (k:Int))]) (fun _=> .own (some g) 53 4 L.length cap (L.flatMap aH)::R) (fun k=>1≤k∧k≤L.length∧iB (L.take k)=L.take k) (fun k=>L.length - k) 1 ⟨Ph _,by omega,Dg (by rw [Pr];omega)⟩ sB mS ?_
    rintro k ⟨hk1,hk,hck⟩
    by_cases hlt:k<L.length
    · have hr1:=Nr hlt
      have hr2:=Nr (L:=L) (k:=k - 1) (by omega)
      have hst:=yO hlt hk1
      have htk:L.take (k+1)=L.take k++ [L[k]]:=by rw [Po hlt]
      obtain ⟨c,hc⟩: ∃ c,decide (L[k]=L[k - 1])=c:=⟨_,rfl⟩
      cases c with
      |false=>
        have hne: ¬ L[k]=L[k - 1]:=by simpa using hc
        rw [if_neg hne,hck,← htk] at hst
        repeat' (first|(apply aP;exact rfl;apply dX;exact rfl;exact rfl;omega;(simp only [maxLen];omega))|(apply aP;exact rfl;apply ag (j:=k);exact rfl;exact rfl;omega)|(apply aP;exact rfl;apply ag (j:=k - 1);exact rfl;exact rfl;omega)|(apply aP;exact rfl;apply az;exact rfl;exact pK;(first|exact hr1|exact hr2);exact rfl)|(apply aP;exact rfl;apply oD hc;exact rfl;exact rfl)|refine sT ?_|refine sS ?_|refine sQ ?_|refine sN ?_|refine sNQ ?_|refine sD ?_|refine sM fun _=> ?_|(refine sC ?_ ?_<;>intro hb<;>try omega)|(refine sCQ ?_ ?_<;>intro hb<;>try omega)|fail)
        all_goals first
          |(exfalso;omega)
          |(refine ⟨k+1,⟨by omega,hlt,hst⟩,by omega,by exact sB,by exact sB,by exact mS⟩;done)
          |trace_state
      |true=>
        have hne:L[k]=L[k - 1]:=by simpa using hc
        rw [if_pos hne,hck] at hst
        repeat' (first|(apply aP;exact rfl;apply dX;exact rfl;exact rfl;omega;(simp only [maxLen];omega))|(apply aP;exact rfl;apply ag (j:=k);exact rfl;exact rfl;omega)|(apply aP;exact rfl;apply ag (j:=k - 1);exact rfl;exact rfl;omega)|(apply aP;exact rfl;apply az;exact rfl;exact pK;(first|exact hr1|exact hr2);exact rfl)|(apply aP;exact rfl;apply oD hc;exact rfl;exact rfl)|(apply aj;exact rfl;apply xJ (lo:=k);exact rfl;exact rfl;omega;exact hle)|refine sT ?_|refine sS ?_|refine sQ ?_|refine sN ?_|refine sNQ ?_|refine sD ?_|refine sM fun _=> ?_|(refine sC ?_ ?_<;>intro hb<;>try omega)|(refine sCQ ?_ ?_<;>intro hb<;>try omega)|fail)
        all_goals try (exfalso;omega)
        refine ax [0,4] rfl (fun y:Nat × Nat × List Rct=> [(5,.int .i64 (y.1:Int)),(3,.int .i64 (y.2.1:Int))]) (fun y=> .own (some g) 53 4 L.length cap (y.2.2.flatMap aH)::R) (fun y=>1≤y.1∧k+y.1≤L.length∧y.2.1+1≤k+y.1∧y.2.2.length=L.length∧y.2.2.take y.2.1=iB (L.take (k+y.1))∧ ∀ j,k+y.1≤j+1→y.2.2[j]? =L[j]?) (fun y=>L.length - y.1) (1,k,L) ⟨Ph _,by omega,Ph _,rfl,hst.symm,fun _ _=>rfl⟩ sB mS ?_
        rintro ⟨i,k',ys⟩ ⟨hi1,hi2,hi3,hi4,hi5,hi6⟩
        dsimp only at hi1 hi2 hi3 hi4 hi5 hi6 ⊢
        by_cases hli:k+i<L.length
        · have hy1:k+i<ys.length:=by omega
          have hr3:=MN (L:=ys) (a:=k) (k:=i) hy1
          have hr4:=MN (L:=ys) (a:=k) (k:=i - 1) (by omega)
          have he1:ys[k+i]=L[k+i]:=by
            have:=hi6 (k+i) (by omega)
            rw [O5 hy1,O5 hli] at this
            exact Option.some.inj this
          have he2:ys[k+(i - 1)]=L[k+i - 1]:=by
            have:=hi6 (k+(i - 1)) (by omega)
            rw [O5 (by omega),O5 (by omega)] at this
            rw [Option.some.inj this]
            congr 1
            omega
          rw [he1] at hr3
          rw [he2] at hr4
          have hst2:=yO hli (by omega)
          obtain ⟨c,hc2⟩: ∃ c,decide (L[k+i]=L[k+i - 1])=c:=⟨_,rfl⟩
          cases c with
          |true=>
            rw [if_pos (by simpa using hc2)] at hst2
            repeat' (first|(apply aP;exact rfl;apply dX;exact rfl;exact rfl;omega;(simp only [maxLen];omega))|(apply aP;exact rfl;apply ag (j:=i);exact rfl;exact rfl;omega)|(apply aP;exact rfl;apply ag (j:=i - 1);exact rfl;exact rfl;omega)|(apply aP;exact rfl;apply az;exact rfl;exact pK;(first|exact hr3|exact hr4);exact rfl)|(apply aP;exact rfl;apply xK hc2;exact rfl;exact rfl)|refine sT ?_|refine sS ?_|refine sQ ?_|refine sN ?_|refine sNQ ?_|refine sD ?_|refine sM fun _=> ?_|(refine sC ?_ ?_<;>intro hb<;>try omega)|(refine sCQ ?_ ?_<;>intro hb<;>try omega)|fail)
            all_goals first
              |(exfalso;omega)
              |(refine ⟨(i+1,k',ys),⟨by dsimp only;omega,by dsimp only;omega,by dsimp only;omega,hi4,by dsimp only;rw [hi5,← Nat.add_assoc,hst2],fun j hj=>hi6 j (by omega)⟩,by dsimp only;omega,by exact sB,by exact sB,by exact mS⟩;done)
              |trace_state
          |false=>
            rw [if_neg (by simpa using hc2)] at hst2
            have hput:=Kf cY ys k' (by omega) L[k+i]
            repeat' (first|(apply aP;exact rfl;apply dX;exact rfl;exact rfl;omega;(simp only [maxLen];omega))|(apply aP;exact rfl;apply ag (j:=i);exact rfl;exact rfl;omega)|(apply aP;exact rfl;apply ag (j:=i - 1);exact rfl;exact rfl;omega)|(apply aP;exact rfl;apply az;exact rfl;exact pK;(first|exact hr3|exact hr4);exact rfl)|(apply aP;exact rfl;apply xK hc2;exact rfl;exact rfl)|(apply aj (d:=49);exact rfl;apply ag (j:=i);exact rfl;exact rfl;omega)|(apply aj (d:=51);exact rfl;apply ag (j:=k');exact rfl;exact rfl;omega)|(apply aj;exact rfl;apply az;exact rfl;exact pK;exact hr3;exact rfl)|(apply iO (vs:=aH L[k+i]) (off:=0+k' *4);exact rfl;exact rfl;exact pK;exact rfl;exact rfl;(intro u hu;simp [aH] at hu;rcases hu with rfl|rfl|rfl|rfl<;>rfl);(rw [aQ cY,hi4];omega);rw [Pn,hput])|refine sT ?_|refine sS ?_|refine sQ ?_|refine sN ?_|refine sNQ ?_|refine sD ?_|refine sM fun _=> ?_|(refine sC ?_ ?_<;>intro hb<;>try omega)|(refine sCQ ?_ ?_<;>intro hb<;>try omega)|fail)
            all_goals first
              |(exfalso;omega)
              | (refine ⟨(i + 1, k' + 1, ys.set k' L[k + i]), ⟨by dsimp only; omega, by dsimp only; omega, by dsimp only; omega, by dsimp only; rw [List.length_set, hi4], ?_, fun j hj => ?_⟩, by dsimp only; omega, by exact sB, by exact sB, by exact mS⟩
                 · dsimp only
                   rw [Po (by rw [SQ];omega),List.take_set_of_le (Ph _),hi5,List.getElem_set_self,← Qf,hst2]
                 · dsimp only at hj ⊢
                   rw [List.getElem?_set_ne (by omega)]
                   exact hi6 j (by omega))
              |trace_state
        · have hli2:k+i=L.length:=by omega
          rw [hli2,Qe] at hi5
          have hcl:(iB L).length=k' :=by rw [← hi5,Pr,hi4];omega
          have hk'L:k' <L.length:=by omega
          repeat' (first|(apply aj;exact rfl;apply xJ (lo:=k');exact rfl;exact rfl;omega;exact hle)|(apply IW (sz:=4) (k:=k') (n' :=L.length);exact rfl;omega;exact pK;(intro u hu;simp [Value.cells] at hu;subst hu;rfl);exact rfl)|(apply aj;exact rfl;apply ry (hi:=k');exact rfl;exact rfl;omega)|refine sT ?_|refine sS ?_|refine sN ?_|refine sM fun _=> ?_|(refine sC ?_ ?_<;>intro hb<;>try omega)|fail)
          all_goals first
            |(exfalso;omega)
            | (refine bK eIO rfl rfl (H' := .own (some g) 53 4 k' cap ((ys.flatMap aH).take (k' * 4)) :: R) mS ?_
               rw [j0 cY,hi5,hcl]
               exact ⟨rfl,rfl⟩)
            |trace_state
    · have hkl:k=L.length:=by omega
      rw [hkl,Qe] at hck
      repeat' (first|refine sT ?_|refine sS ?_|refine sN ?_|refine sM fun _=> ?_|(refine sC ?_ ?_<;>intro hb<;>try omega)|fail)
      all_goals first
        |(exfalso;omega)
        |(refine bK eIO rfl rfl (.refl _) ?_;rw [hck];exact ⟨rfl,rfl⟩)
        |trace_state
theorem Cc {S:List Rf} {a:Rf} (h:a∈S):kT a (.bool true) S.length (ij S)=(ij S,S.length):=by
 have hl:=vY S a
 rw [decide_eq_true h] at hl
 unfold kT
 cases hf:cA a (ij S) 0 with
 |none=>rw [hf] at hl;cases hl
 |some x=>
  obtain ⟨i,v⟩:=x
  rw [hf] at hl
  simp only at hl
  obtain ⟨b,_,hb⟩:=l6 hf
  rw [Qz] at hb
  simp only [Prod.mk.injEq,and_true]
  apply RE
  intro j
  rw [Sx]
  by_cases e:i=j
  ·
   subst e
   rw [hb,hl];simp
  ·
   simp [e]
def xz (S:List Rf) (c:Rf):List Rf:=if c∈S then S else S++ [c]
theorem KC (S:List Rf) (c:Rf):kT c (.bool true) S.length (ij S)=(ij (xz S c),(xz S c).length):=by
 unfold xz
 split
 ·
  rename_i h;exact Cc h
 ·
  rename_i h;rw [zE h,O2,O6]
theorem Fl {S:List Rf} (h:S.Nodup) (c:Rf):(xz S c).Nodup:=by
 unfold xz
 split
 ·
  exact h
 ·
  rename_i hn
  exact RM.2 ⟨h,by simp,fun a ha b hb e=>hn (by rw [← Pv.1 hb,← e];exact ha)⟩
theorem J0 {S:List Rf} {c x:Rf}:x∈xz S c↔x=c∨x∈S:=by
 unfold xz
 split
 ·
  rename_i h
  exact ⟨.inr,fun h2=>h2.elim (fun e=>e ▸ h) id⟩
 ·
  rw [Pz,Pv,or_comm]
theorem KD (S:List Rf) (c:Rf):(xz S c).length≤S.length+1:=by
 unfold xz
 split
 ·
  omega
 ·
  rw [O2,O6];omega
def gN (G:Gr) (vis:List (Rf × Value × Nat)):List Rct:=vis.flatMap fun e=>(aD G e.1).map fun u=>u.rect
theorem BU (G:Gr) (vis:List (Rf × Value × Nat)) (e:Rf × Value × Nat):gN G (vis++ [e])=gN G vis++(aD G e.1).map fun u=>u.rect:=by simp [gN]
theorem vo {G:Gr} (h: ∀ d,(aD G d).length≤1000): ∀ vis:List (Rf × Value × Nat),(gN G vis).length≤vis.length*1000
 | []=>Pb _
 |e::vis=>by
  have h1:=vo h vis
  have h2:=h e.1
  simp only [gN,Pd,O2,Ps,Pe] at h1 ⊢
  omega
noncomputable def di (G:Gr) (c:Rf):List Rct:=if aR [c] []=0 then dP G c else []
set_option maxHeartbeats 4000000 in
theorem yZ (gg:Nat) (G:Gr) (hG:GrOk G) (hGl:G.length≤900) (c:Rf) (B F:List Blk) (hB:MSub B F) (w0:World)
    (hFm: ∀ H,MSub B H→FnIn Tryz.prog 28 [.pointer (some ⟨gg,0,none⟩)] w0 H fun v H' => ∃ A cap,v=sl A (aq G).length cap∧H' = .own A 24 2 (aq G).length cap ((aq G).flatMap aw)::H)
    (hUs: ∀ d H,MSub B H→FnIn Tryz.prog 38 [.pointer (some ⟨gg,0,none⟩),aO d] w0 H fun v H' => ∃ A cap,v=sl A (aD G d).length cap∧H' = .own A 89 6 (aD G d).length cap ((aD G d).flatMap bQ)::H)
    (hUl: ∀ d,(aD G d).length≤1000):
    FnIn Tryz.prog 16 [.pointer (some ⟨gg,0,none⟩),aO c] w0 F fun v H' => ∃ A cap,v= .tuple #[sl A (di G c).length cap,.int .i64 (aR [c] [])]∧H' = .own A 53 4 (di G c).length cap ((di G c).flatMap aH)::F:=by
  refine bM Tryz.func16 rfl Tryz.ntmps16 rfl ?_
  refine aK 53 4 ?_
  have hck:=fun w (v:Value) (hr:Reads w v 1 (aw c))=>mg gg [c] [] v (.slice none 0 0) w (by simpa using hr) (eV w) (by simp) (by simp)
  have hbl:=fun F hB=>Dl gg G hG hGl c B F hB w0 hFm hUs hUl
  unfold di
  by_cases hc0:aR [c] []=0
  · rw [if_pos hc0]
    rw [hc0] at hck ⊢
    repeat' (first|(apply aa (f:=50);exact rfl;exact rfl;(intro w' hm;exact hck w' _ (Reads.of_own (A:=some _) hm pK)))|(apply ak (f:=59);exact rfl;exact rfl;exact hbl _ (MSub.trans hB mS);rintro _ _ ⟨gm,S,rfl,rfl,hI⟩)|(apply lM (enc:=aO) (k:=c);(iterate 3 exact rfl);exact pK;rw [KC])|(apply mz (enc:=aO);exact rfl;exact rfl;exact pK;intro gi)|refine sT ?_|refine sS ?_|refine sM fun _=> ?_|(refine sC ?_ ?_<;>intro hb<;>try omega)|fail)
    have hTn:=Fl hI.nodup c
    have hTm:=fun x=>J0 (S:=S) (c:=c) (x:=x)
    have hTl:=KD S c
    have hSl:=hI.len hG.sort
    have hdone:=hI.done hG
    generalize xz S c=T at hTn hTm hTl ⊢
    have hok:=Jr hTn
    have hks:=rL T
    have hkl:=BB T
    generalize ij T=es at hok hks hkl ⊢
    refine ax [0,25] rfl (fun y:List (Rf × Value × Nat) × Option Nat × Nat=> [(8,sl y.2.1 (gN G y.1).length y.2.2)]) (fun y=> .obj gi (l3 gm T.length (y.1.map fun e=>e.2.2)):: .own y.2.1 53 4 (gN G y.1).length y.2.2 ((gN G y.1).flatMap aH):: .obj gm (cw aO es T.length)::F) (fun y=>Vis es y.1) (fun y=>es.length - y.1.length) ([],none,0) (Vis.nil es) sB mS ?_
    rintro ⟨vis,A,cap⟩ hv
    dsimp only at hv ⊢
    have hvl:=hv.len
    have hrl:=vo hUl vis
    have hS:=fun R' =>zt (gN G vis) A cap (by omega) R' w0
    have hsl:(sortRc (gN G vis)).length=(gN G vis).length:=(ju _).length_eq
    have hCp:=fun A cap R' =>Fz (sortRc (gN G vis)) A cap (by omega) R' w0
    rw [hsl] at hCp
    repeat' (first|(apply m9 (enc:=aO);exact rfl;exact rfl;exact pK;exact pK;exact hok;intro e he hne)|(intro hall)|(apply aj;exact rfl;apply zo (enc:=aO);exact rfl;exact pK;exact pK;exact he;exact hok)|(apply ak (f:=38);exact rfl;exact rfl;exact hUs _ _ (MSub.trans hB mS);rintro _ _ ⟨Au,cu,rfl,rfl⟩)|(apply ak (f:=62);exact rfl;exact rfl;exact FnIn.msub (hS _) (MSub.pick pK (MSub.refl _));rintro _ _ ⟨rfl,rfl⟩)|(apply ak (f:=66);exact rfl;exact rfl;exact FnIn.msub (hCp _ _ _) (MSub.pick pK (MSub.refl _));rintro _ _ ⟨rfl,rfl⟩)|refine sT ?_|refine sS ?_|refine sM fun _=> ?_|(refine sC ?_ ?_<;>intro hb<;>try omega)|fail)
    · have hUx:=hUl e.1
      have hsn:=BU G vis e
      generalize aD G e.1=U at hUx hsn
      generalize gN G vis=M at hrl hsn
      refine ax [0,25,32,33] rfl (fun y:Nat × Option Nat × Nat=> [(8,sl y.2.1 (M++(U.take y.1).map fun u=>u.rect).length y.2.2),(34,.int .i64 (y.1:Int))]) (fun y=> .obj gi (l3 gm T.length (vis.map (fun e=>e.2.2)++ [e.2.2])):: .own Au 89 6 U.length cu (U.flatMap bQ):: .own y.2.1 53 4 (M++(U.take y.1).map fun u=>u.rect).length y.2.2 ((M++(U.take y.1).map fun u=>u.rect).flatMap aH):: .obj gm (cw aO es T.length)::F) (fun y=>y.1≤U.length) (fun y=>U.length - y.1) (0,A,cap) (Pb _) (by simp only [Qj,P3,Pa];exact sB) (by simp only [Qj,P3,Pa];exact mS) ?_
      rintro ⟨i,A1,c1⟩ hi
      dsimp only at hi ⊢
      by_cases hlt:i<U.length
      · refine bW (A:=Au) pK (by omega) fun gk hA=> ?_
        subst hA
        have hread:=MM hlt
        have htk:(M++(U.take (i+1)).map fun u=>u.rect)=(M++(U.take i).map fun u=>u.rect)++ [U[i].rect]:=by rw [Po hlt,P4,← Pg];rfl
        have hml:(M++(U.take i).map fun u=>u.rect).length≤1000000:=by
          rw [O2,Ps,Pr];omega
        generalize U[i]=u at hread htk
        generalize (M++(U.take i).map fun u=>u.rect)=M1 at htk hml
        repeat' (first|(apply aj;exact rfl;apply ag (j:=i);exact rfl;exact rfl;exact hlt)|(apply aj;exact rfl;apply az;exact rfl;exact pK;exact hread;exact rfl)|(apply bU;(iterate 3 exact rfl);(repeat first|exact .hd|apply Sel.tl|apply In.tl);(intro w hm;exact hm.cells_own (by (repeat first|exact .hd|apply Sel.tl|apply In.tl)));exact rfl;(simp [Value.oneCell',sl]);omega;(simp only [maxLen];omega);(intro A2 cap2 hA2))|refine sT ?_|refine sS ?_|refine sN ?_|refine sM fun _=> ?_|(refine sC ?_ ?_<;>intro hb<;>try omega)|fail)
        all_goals first
          |(exfalso;omega)
          | (refine ⟨(i + 1, A2, cap2), hlt, by dsimp only; omega, ?_, ?_, ?_⟩
             · dsimp only;rw [htk,List.length_append];exact sB
             · exact sB
             · dsimp only;rw [htk,List.length_append,List.flatMap_append,List.flatMap_cons,List.flatMap_nil,List.append_nil];exact mS)
          |trace_state
      · have hi2:i=U.length:=by omega
        subst hi2
        rw [Qe,← hsn]
        repeat' (first|refine sT ?_|refine sS ?_|refine sN ?_|refine sM fun _=> ?_|(refine sC ?_ ?_<;>intro hb<;>try omega)|fail)
        all_goals first
          |(exfalso;omega)
          | (refine ⟨(vis ++ [e], A1, c1), hv.step he hne, ?_, sB, sB, ?_⟩
             · have:=hv.lt he hne
               simp only [O2,O6]
               omega
             · simp only [P4,PB,P3]
               exact mS)
          |trace_state
    · have hperm:=hv.perm hok hall
      have hmem: ∀ r,r∈gN G vis↔ ∃ x,(x=c∨x∈cZ G c)∧ ∃ u∈aD G x,u.rect=r:=fun r=>by
        unfold gN
        simp only [RZ,Py]
        constructor
        · rintro ⟨e,he,u,hu,rfl⟩
          have h1:e.1∈T:=by
            rw [← hks];exact Py.2 ⟨e,hv.sub e he,rfl⟩
          exact ⟨e.1,((hTm e.1).1 h1).imp id (hdone _).1,u,hu,rfl⟩
        · rintro ⟨x,hx,u,hu,rfl⟩
          have h1:x∈T:=(hTm x).2 (hx.imp id (hdone _).2)
          rw [← hks] at h1
          obtain ⟨e,he,rfl⟩:=Py.1 h1
          exact ⟨e,hperm.mem_iff.2 he,u,hu,rfl⟩
      rw [HT hmem]
      all_goals first
        |(exact cN eIO rfl rfl rfl (H' := .own A 53 4 (dP G c).length cap ((dP G c).flatMap aH)::F) mS ⟨A,cap,rfl,rfl⟩)
        |trace_state
  · rw [if_neg hc0]
    repeat' (first|(apply aa (f:=50);exact rfl;exact rfl;(intro w' hm;exact hck w' _ (Reads.of_own (A:=some _) hm pK)))|refine sT ?_|refine sS ?_|refine sM fun _=> ?_|(refine sC ?_ ?_<;>intro hb<;>try omega)|fail)
    all_goals first
      |(exfalso;omega)
      |(exact cN eIO rfl rfl rfl (H' := .own none 53 4 0 0 []::F) mS ⟨none,0,rfl,rfl⟩)
      |trace_state
theorem BW (r:Rct) (b:Rf) (g:Nat) (w:World) (hr:Ro w g 0 (aw b)):aF Tryz.prog 69 [.agg (aH r).toArray,.pointer (some ⟨g,0,none⟩)] w (.bool (gQ r b)):=by
 refine aA Tryz.func69 rfl Tryz.ntmps69 rfl ?_
 have hh:=fun w=>Az r b w
 repeat' (first|(apply aj;exact rfl;apply aZ (o:=0);exact rfl;exact hr;exact rfl)|(apply aa;exact rfl;exact rfl;(intro w hm;exact hh w))|refine sT ?_|refine sM fun _=> ?_|(refine sC ?_ ?_<;>intro hb<;>try omega)|fail)
 all_goals exact bK eIO rfl rfl (.nil _) rfl
theorem JK (u:Us) (b:Rf) (g:Nat) (w:World) (hr:Ro w g 0 (aw b)):aF Tryz.prog 74 [.agg (bQ u).toArray,.pointer (some ⟨g,0,none⟩)] w (.bool (gQ u.rect b)):=by
 refine aA Tryz.func74 rfl Tryz.ntmps74 rfl ?_
 have hh:=fun w=>Az u.rect b w
 repeat' (first|(apply aj;exact rfl;apply aZ (o:=0);exact rfl;exact hr;exact rfl)|(apply aa;exact rfl;exact rfl;(intro w hm;exact hh w))|refine sT ?_|refine sM fun _=> ?_|(refine sC ?_ ?_<;>intro hb<;>try omega)|fail)
 all_goals exact bK eIO rfl rfl (.nil _) rfl
def EW (q:Rct→Bool) (L:List Rct):Int:=match L.findIdx? q with|some i=>(i:Int)|none=> -1
set_option maxHeartbeats 1000000 in
theorem IC (f:FuncId) [Callable Tryz.prog f] (caps:List Value) (q:Rct→Bool) (L:List Rct) (hlen:L.length≤1000000) (tv:Value) (w:World) (ht:Reads w tv L.length (L.flatMap aH))
  (hf: ∀ u w' H,Mem w w' H→aF Tryz.prog f ([.agg (aH u).toArray]++caps) w' (.bool (q u))):
  aF Tryz.prog 126 [tv,.func (.func f) #[] caps.toArray] w (.int .i64 (EW q L)):=by
 obtain ⟨Al,cl,rfl,hl1,hl2,hl3⟩:=ht
 refine aA Tryz.func126 rfl Tryz.ntmps126 rfl ?_
 repeat' (first|refine sT ?_|refine sM fun _=> ?_|(refine sC ?_ ?_<;>intro hb<;>try omega)|fail)
 refine eH (fun i:Nat=> [(0,.slice Al L.length cl),(1,.func (.func f) #[] caps.toArray),(7,.int .i64 (L.length:Int)),(8,.int .i64 (i:Int))]) (fun _=> []) (fun i=>i≤L.length∧ ∀ j (h:j<L.length),j<i→q L[j]=false) (fun i=>L.length - i) 0 ⟨by omega,fun j _ h=>by omega⟩ sB (.refl _) ?_
 rintro i ⟨hi,hno⟩
 by_cases hlt:i<L.length
 ·
  obtain ⟨gl,ol,rfl,hrl⟩:=hl3 (by omega)
  have he:=hrl.elem cY i hlt
  have hq:=fun w' H=>hf L[i] w' H
  have hnext:q L[i]=false→ ∀ j (h:j<L.length),j<i+1→q L[j]=false:=fun h0 j h hj=>by
   by_cases e:j=i
   ·
    subst e;exact h0
   ·
    exact hno j h (by omega)
  have hres:q L[i]=true→EW q L=(i:Int):=fun h0=>by
   unfold EW
   rw [P8.2 ⟨hlt,h0,fun j hj=>by rw [hno j (by omega) hj];simp⟩]
  generalize L[i]=u at he hq hnext hres
  generalize q u=b at hq hnext hres
  repeat' (first|(apply iP;exact rfl;exact rfl;infer_instance;exact rfl;(intro w' hm;exact hq w' _ hm))|refine sT ?_|refine sN ?_|refine sO ?_|refine sM fun _=> ?_|(refine sC ?_ ?_<;>intro hb<;>try omega)|fail)
  all_goals first
   |(refine bK eIO rfl rfl (.nil _) ?_;rw [hres (by assumption)];done)
   |(refine ⟨i+1,⟨hlt,hnext (by assumption)⟩,by omega,?_,.nil _⟩;exact sB;done)
 ·
  have e:i=L.length:=by omega
  subst e
  have hres:EW q L= -1:=by
   unfold EW
   rw [Qg.2 fun x hx=>by
    obtain ⟨j,hj,rfl⟩:=P1 hx
    exact hno j hj hj]
  repeat' (first|refine sT ?_|refine sM fun _=> ?_|(refine sC ?_ ?_<;>intro hb<;>try omega)|fail)
  all_goals (refine bK eIO rfl rfl (.nil _) ?_;rw [hres])
theorem AJ (f:FuncId) [Callable Tryz.prog f] (caps:List Value) (q:Rct→Bool) (L:List Rct) (hlen:L.length≤1000000) (tv:Value) (w:World) (ht:Reads w tv L.length (L.flatMap aH))
  (hf: ∀ u w' H,Mem w w' H→aF Tryz.prog f ([.agg (aH u).toArray]++caps) w' (.bool (q u))):
  aF Tryz.prog 68 [tv,.func (.func f) #[] caps.toArray] w (.bool (L.any q)):=by
 refine aA Tryz.func68 rfl Tryz.ntmps68 rfl ?_
 have hI:=fun (w' :World) (H:List Blk) (hm:Mem w w' H)=>IC f caps q L hlen tv w' (ht.of_w0 hm) (fun u w2 H2 hm2=>hf u w2 _ (hm.call hm2))
 have hres:decide (0≤EW q L)=L.any q:=by
  unfold EW
  cases h:L.findIdx? q with
  |none=>
   rw [Qg] at h
   have:L.any q=false:=by rw [List.any_eq_false];exact fun x hx=>by rw [h x hx];simp
   rw [this];rfl
  |some i=>
   obtain ⟨h1,h2,_⟩:=P8.1 h
   have:L.any q=true:=Ql.2 ⟨_,PG h1,h2⟩
   rw [this];simp
 repeat' (first|(apply aa (f:=126);exact rfl;exact rfl;(intro w' hm;exact hI w' _ hm))|refine sT ?_|refine sM fun _=> ?_|(refine sC ?_ ?_<;>intro hb<;>try omega)|fail)
 all_goals (refine bK eIO rfl rfl (.nil _) ?_;rw [hres])
theorem yQ {a b:Rf} (h:aR [a,b] []=0):aR [a] []=0∧a.valid=true∧b.valid=true:=by
 unfold aR at h ⊢
 split at h
 ·
  rename_i h1
  simp only [QN,List.all_nil,Qq,Pm] at h1
  refine ⟨?_,h1.1,h1.2⟩
  rw [if_pos]
  simp [h1.1]
 ·
  cases h
theorem CE {G:Gr} {c:Rf} (hG:SortG G) (h: ∀ d,(aD G d).length≤1000):(dP G c).length≤(G.length+1)*1000:=by
 have h1: ∀ l:List Rf,(l.flatMap fun x=>(aD G x).map fun u=>u.rect).length≤l.length*1000:=fun l=>by
  induction l with
  |nil=>exact Pb _
  |cons a l ih=>
   have:=h a
   simp only [Pd,O2,Ps,Pe]
   omega
 have h2:=h1 (c::cZ G c)
 have h3:=Dh (sortRc ((c::cZ G c).flatMap fun x=>(aD G x).map fun u=>u.rect))
 rw [(ju _).length_eq] at h3
 have h4:(cZ G c).length≤G.length:=by
  have:=QE (fun d=> @decide (Rc G c (bB d.col d.row)) (Classical.propDecidable _)) (aq G)
  rw [show (aq G).length=G.length by rw [aq,Ps]] at this
  exact this
 rw [Pe] at h2
 unfold dP
 have:((cZ G c).length+1)*1000≤(G.length+1)*1000:=RD _ (by omega)
 omega
noncomputable def eR (G:Gr) (a b:Rf):Bool:=decide (aR [a,b] []=0) && jD G a b
set_option maxHeartbeats 4000000 in
theorem Ft (gg:Nat) (G:Gr) (hG:GrOk G) (hGl:G.length≤900) (a b:Rf) (B F:List Blk) (hB:MSub B F) (w0:World)
  (hFm: ∀ H,MSub B H→FnIn Tryz.prog 28 [.pointer (some ⟨gg,0,none⟩)] w0 H fun v H' => ∃ A cap,v=sl A (aq G).length cap∧H' = .own A 24 2 (aq G).length cap ((aq G).flatMap aw)::H)
  (hUs: ∀ d H,MSub B H→FnIn Tryz.prog 38 [.pointer (some ⟨gg,0,none⟩),aO d] w0 H fun v H' => ∃ A cap,v=sl A (aD G d).length cap∧H' = .own A 89 6 (aD G d).length cap ((aD G d).flatMap bQ)::H)
  (hUl: ∀ d,(aD G d).length≤1000):
  FnIn Tryz.prog 19 [.pointer (some ⟨gg,0,none⟩),aO a,aO b] w0 F fun v H' =>v= .tuple #[.bool (eR G a b),.int .i64 (aR [a,b] [])]∧H' =F:=by
 refine bM Tryz.func19 rfl Tryz.ntmps19 rfl ?_
 have hck:=fun w (v:Value) (hr:Reads w v 2 (aw a++aw b))=>mg gg [a,b] [] v (.slice none 0 0) w (by simpa using hr) (eV w) (by simp) (by simp)
 have hlv:=fun F hB=>yZ gg G hG hGl a B F hB w0 hFm hUs hUl
 have hll:=CE (c:=a) hG.sort hUl
 unfold eR
 by_cases hc0:aR [a,b] []=0
 ·
  obtain ⟨hca,_,hvb⟩:=yQ hc0
  unfold di at hlv
  rw [hca,if_pos rfl] at hlv
  rw [hc0] at hck ⊢
  rw [decide_eq_true rfl,PZ,← zC hG hvb]
  generalize dP G a=L at hlv hll ⊢
  repeat' (first|(apply aa (f:=50);exact rfl;exact rfl;(intro w' hm;exact hck w' _ (Reads.of_own (A:=some _) hm pK)))|(apply ak (f:=16);exact rfl;exact rfl;exact hlv _ (MSub.trans hB mS);rintro _ _ ⟨A9,c9,rfl,rfl⟩)|refine sT ?_|refine sS ?_|refine sM fun _=> ?_|(refine sC ?_ ?_<;>intro hb<;>try omega)|fail)
  all_goals try (exfalso;omega)
  rename_i g4 g5 g6
  have hct:=fun w' (hm:Mem w0 w' (.own A9 53 4 L.length c9 (L.flatMap aH):: .box g5 24 (aw b):: []))=>AJ 69 [.pointer (some ⟨g5,0,none⟩)] (fun r=>gQ r b) L (by omega) (sl A9 L.length c9) w' (Reads.of_own hm .hd) (fun u w2 H2 hm2=>BW u b g5 w2 (Ro.next (Ro.of_box hm (.tl .hd)) hm2))
  repeat' (first|(apply aa (f:=68);exact rfl;exact rfl;(intro w' hm;exact hct w' (MSub.use mS hm)))|refine sT ?_|refine sS ?_|refine sM fun _=> ?_|(refine sC ?_ ?_<;>intro hb<;>try omega)|fail)
  all_goals first
   |(exfalso;omega)
   |(exact cN eIO rfl rfl rfl (H' :=F) mS ⟨rfl,rfl⟩)
   |trace_state
 ·
  rw [decide_eq_false hc0,Qa]
  repeat' (first|(apply aa (f:=50);exact rfl;exact rfl;(intro w' hm;exact hck w' _ (Reads.of_own (A:=some _) hm pK)))|refine sT ?_|refine sS ?_|refine sM fun _=> ?_|(refine sC ?_ ?_<;>intro hb<;>try omega)|fail)
  all_goals first
   |(exfalso;omega)
   |(exact cN eIO rfl rfl rfl (H' :=F) mS ⟨rfl,rfl⟩)
   |trace_state
end Go.SL
namespace Go.SL
open Go
def wj (G:Gr) (b:Rf) (f:Rf→Nat) (n:Nat) (c:Rf):Bool:=
 if n=0 then aG (aD G c) (bB b.col b.row) else (aq G).any fun d=>decide (f d=n) && aG (aD G c) (bB d.col d.row)
def bY (G:Gr) (b:Rf):Nat→Rf→Nat
 |0,_=>0
 |n+1,c=>if bY G b n c≠0 then bY G b n c else if c∈aq G∧wj G b (bY G b n) n c=true then n+1 else 0
def dw (G:Gr) (b c:Rf):Nat:=bY G b (G.length+1) c
inductive Wy (G:Gr) (b:Rf):Nat→Rf→Prop
 |one {c:Rf} (hc:c∈aq G) (h:aG (aD G c) (bB b.col b.row)=true):Wy G b 1 c
 |more {c d:Rf} {n:Nat} (hc:c∈aq G) (hd:d∈aq G) (h:aG (aD G c) (bB d.col d.row)=true) (k:Wy G b n d):Wy G b (n+1) c
section
variable {G:Gr} {b:Rf}
theorem Wy.key {n:Nat} {c:Rf} (h:Wy G b n c):c∈aq G:=by cases h<;>assumption
theorem Oz {c:Rf}:Rc G c (bB b.col b.row)↔ ∃ n,Wy G b n c:=by
 constructor
 ·
  intro h
  generalize hq:bB b.col b.row=q at h
  induction h with
  |use hc h=>subst hq;exact ⟨1,.one hc h⟩
  |via hc hd h _ ih=>obtain ⟨n,hn⟩:=ih hq;exact ⟨n+1,.more hc hd h hn⟩
 ·
  rintro ⟨n,h⟩
  induction h with
  |one hc h=>exact .use hc h
  |more hc hd h _ ih=>exact .via hc hd h ih
theorem mf {n:Nat} {c:Rf} (h:bY G b n c≠0):bY G b (n+1) c=bY G b n c:=by
 rw [bY,if_pos h]
theorem kM {n:Nat} {c:Rf} (h:bY G b n c≠0): ∀ m,n≤m→bY G b m c=bY G b n c:=fun m hm=>by
 induction m with
 |zero=>rw [Nat.le_zero.1 hm]
 |succ m ih=>
  rcases Qm m n with h1|h1
  ·
   rw [show m+1=n by omega]
  ·
   have:=ih h1
   rw [mf (by rw [this];exact h),this]
theorem oN (n:Nat) (c:Rf):bY G b n c≤n:=by
 induction n with
 |zero=>exact Ph _
 |succ n ih=>
  rw [bY]
  split
  ·
   omega
  ·
   split<;>omega
theorem kL {n k:Nat} {c:Rf} (h:bY G b n c=k) (hk:k≠0):bY G b k c=k∧ ∀ j,j<k→bY G b j c=0:=by
 have hz: ∀ j,j<k→bY G b j c=0:=fun j hj=>by
  rcases QB (bY G b j c) with h1|h1
  ·
   exact h1
  ·
   have hle:=oN (G:=G) (b:=b) j c
   rcases Qm n j with h2|h2
   ·
    have h3:=kM (G:=G) (b:=b) (n:=n) (c:=c) (by omega) j (by omega)
    omega
   ·
    have h3:=kM (G:=G) (b:=b) (n:=j) (c:=c) (by omega) n h2
    omega
 refine ⟨?_,hz⟩
 have hkn:k≤n:=h ▸ oN n c
 rcases QB (bY G b k c) with h1|h1
 ·
  exfalso
  have hgo: ∀ m,k≤m→bY G b m c=k→ ∃ j,k≤j∧bY G b j c=0∧bY G b (j+1) c=k:=fun m hm hf=>by
   induction m with
   |zero=>rw [show k=0 by omega] at hk;exact absurd rfl hk
   |succ m ih=>
    rcases QB (bY G b m c) with h2|h2
    ·
     rcases Qm m k with h3|h3
     ·
      exact absurd (show k=m+1 by omega) (fun e=>by rw [e] at h1 hf;omega)
     ·
      exact ⟨m,h3,h2,hf⟩
    ·
     have h3:=mf (G:=G) (b:=b) (n:=m) (c:=c) (by omega)
     refine ih ?_ (by rw [← h3];exact hf)
     have:=oN (G:=G) (b:=b) m c
     omega
  obtain ⟨j,h2,h3,h4⟩:=hgo n hkn h
  rw [bY,if_neg (by omega)] at h4
  split at h4<;>omega
 ·
  have h3:=kM (G:=G) (b:=b) (n:=k) (c:=c) (by omega) n hkn
  omega
theorem wB {k:Nat} {c:Rf} (h:bY G b (k+1) c=k+1):c∈aq G∧wj G b (bY G b k) k c=true:=by
 have h0:=(kL h (by omega)).2 k (by omega)
 rw [bY,if_neg (by omega)] at h
 split at h
 ·
  assumption
 ·
  omega
theorem rU {f:Rf→Nat} {n:Nat} {c:Rf}:wj G b f n c=true↔(n=0∧aG (aD G c) (bB b.col b.row)=true)∨(n≠0∧ ∃ d∈aq G,f d=n∧aG (aD G c) (bB d.col d.row)=true):=by
 unfold wj
 by_cases h:n=0
 ·
  rw [if_pos h];simp [h]
 ·
  rw [if_neg h,Ql]
  simp only [Pm,decide_eq_true_eq,h,ne_eq,not_false_eq_true,true_and,false_and,false_or]
theorem oq: ∀ {k:Nat} {n:Nat} {c:Rf},bY G b n c=k→k≠0→Wy G b k c:=fun {k}=>by
 induction k with
 |zero=>intro _ _ _ h;exact absurd rfl h
 |succ k ih=>
  intro n c h _
  obtain ⟨hc,hh⟩:=wB (kL h (by omega)).1
  rcases rU.1 hh with ⟨rfl,h1⟩|⟨h0,d,hd,h1,h2⟩
  ·
   exact .one hc h1
  ·
   exact .more hc hd h2 (ih h1 h0)
theorem yB {k:Nat} {c:Rf} (h:Wy G b k c):bY G b k c≠0:=by
 induction h with
 |one hc h=>
  rw [bY]
  split
  ·
   assumption
  ·
   rw [if_pos ⟨hc,rU.2 (.inl ⟨rfl,h⟩)⟩];omega
 | @more c d n hc hd h k ih=>
  obtain ⟨j,hj⟩: ∃ j,bY G b n d=j:=⟨_,rfl⟩
  have hjn:j≤n:=hj ▸ oN n d
  have hj0:j≠0:=by rw [← hj];exact ih
  have hl:=(kL hj hj0).1
  have h1:bY G b (j+1) c≠0:=by
   rw [bY]
   split
   ·
    assumption
   ·
    rw [if_pos ⟨hc,rU.2 (.inr ⟨hj0,d,hd,hl,h⟩)⟩];omega
  rw [kM h1 (n+1) (by omega)]
  exact h1
theorem H7 {n k j:Nat} {c:Rf} (h:bY G b n c=k) (hk:k≠0) (w:Wy G b j c):k≤j:=by
 rcases Qm j k with h1|h1
 ·
  exact absurd ((kL h hk).2 j h1) (yB w)
 ·
  exact h1
theorem CX {n:Nat} (hn:n≠0) (h: ∀ c∈aq G,bY G b n c≠n): ∀ m,n≤m→ ∀ c,bY G b m c=bY G b n c:=fun m hm=>by
 induction m with
 |zero=>intro c;rw [Nat.le_zero.1 hm]
 |succ m ih=>
  rcases Qm m n with h1|h1
  ·
   intro c;rw [show m+1=n by omega]
  ·
   intro c
   rw [← ih h1 c]
   by_cases h2:bY G b m c=0
   ·
    rw [bY,if_neg (by omega),h2]
    refine if_neg fun h3=> ?_
    rcases rU.1 h3.2 with ⟨h4,_⟩|⟨_,d,hd,h5,_⟩
    ·
     omega
    ·
     have h6:=ih h1 d
     rw [h5] at h6
     have h7:=oN (G:=G) (b:=b) n d
     exact h d hd (by omega)
   ·
    exact mf h2
theorem yN {α:Type} {p q:α→Bool}: ∀ {l:List α},(∀ x∈l,p x=true→q x=true)→(∃ x∈l,q x=true∧p x=false)→l.countP p+1≤l.countP q
 | [],_,h=>by obtain ⟨x,hx,_⟩:=h;cases hx
 |a::l,h1,h2=>by
  have hm:l.countP p≤l.countP q:=List.countP_mono_left fun x hx=>h1 x (O9 _ hx)
  rw [List.countP_cons,List.countP_cons]
  obtain ⟨x,hx,h3,h4⟩:=h2
  rcases PF.1 hx with rfl|hx
  ·
   rw [h3,h4];simp;exact hm
  ·
   have ih:=yN (l:=l) (fun x hx=>h1 x (O9 _ hx)) ⟨x,hx,h3,h4⟩
   have:=h1 a O7
   cases hp:p a
   ·
    simp;split<;>omega
   ·
    rw [this hp];simp;exact ih
theorem H8 {n:Nat} (h: ∀ k,1≤k→k≤n→ ∃ c∈aq G,bY G b k c=k):n≤(aq G).countP fun c=>decide (bY G b n c≠0):=by
 induction n with
 |zero=>exact Pb _
 |succ n ih=>
  refine PK (Nat.succ_le_succ (ih fun k h1 h2=>h k h1 (by omega))) (yN (fun c _ h1=> ?_) ?_)
  ·
   simp only [decide_eq_true_eq] at h1 ⊢
   rw [mf h1];exact h1
  ·
   obtain ⟨c,hc,h1⟩:=h (n+1) (by omega) (Ph _)
   refine ⟨c,hc,?_,?_⟩
   ·
    simp only [decide_eq_true_eq];omega
   ·
    have:=(kL h1 (by omega)).2 n (by omega)
    simp [this]
theorem E3 {n:Nat} {c:Rf} (hc:c∈aq G) (h:bY G b n c=n): ∀ k,1≤k→k≤n→ ∃ d∈aq G,bY G b k d=k:=fun k h1 h2=>by
 induction n generalizing c with
 |zero=>omega
 |succ n ih=>
  rcases Qm n k with h3|h3
  ·
   rw [show k=n+1 by omega];exact ⟨c,hc,h⟩
  ·
   rcases rU.1 (wB h).2 with ⟨h4,_⟩|⟨_,d,hd,h5,_⟩
   ·
    omega
   ·
    exact ih hd h5 h3
theorem Ma: ∀ c∈aq G,bY G b (G.length+1) c≠G.length+1:=fun c hc h=>by
 have h1:=H8 (E3 hc h)
 have h2:=List.countP_le_length (p:=fun c=>decide (bY G b (G.length+1) c≠0)) (l:=aq G)
 rw [aq,Ps] at h2
 rw [aq] at h1
 omega
theorem CY (m:Nat) (hm:G.length+1≤m) (c:Rf):bY G b m c=dw G b c:=CX (by omega) Ma m hm c
theorem ug {c:Rf}:dw G b c≠0↔ ∃ n,Wy G b n c:=by
 constructor
 ·
  intro h;exact ⟨_,oq rfl h⟩
 ·
  rintro ⟨n,h⟩ h0
  have h1:=yB h
  have h2:=kM h1 (n+(G.length+1)) (by omega)
  rw [CY _ (by omega),h0] at h2
  exact h1 h2.symm
theorem oO {c:Rf}:dw G b c≠0↔Rc G c (bB b.col b.row):=ug.trans Oz.symm
theorem C0 {c:Rf} (h:dw G b c≠0):c∈aq G:=(ug.1 h).choose_spec.key
theorem wC {j:Nat} {c:Rf} (w:Wy G b j c):dw G b c≤j:=H7 rfl (ug.2 ⟨j,w⟩) w
theorem CZ {c:Rf} (h:dw G b c≠0):Wy G b (dw G b c) c:=oq rfl h
def zJ (G:Gr) (b:Rf) (n:Nat) (c:Rf):Option Rf:=(aq G).find? fun d=>decide (dw G b d=n) && aG (aD G c) (bB d.col d.row)
def kv (G:Gr) (b:Rf):Nat→Rf→List Rf
 |0,_=> []
 |n+1,c=>if n=0 then [] else match zJ G b n c with
  |some d=>d::kv G b n d
  |none=> []
theorem uW {n:Nat} {c:Rf} (h:dw G b c=n+1) (hn:n≠0): ∃ d,zJ G b n c=some d∧d∈aq G∧dw G b d=n∧aG (aD G c) (bB d.col d.row)=true:=by
 have hw:=CZ (G:=G) (b:=b) (c:=c) (by omega)
 rw [h] at hw
 cases hw with
 |one=>exact absurd rfl hn
 | @more _ d _ hc hd ht k=>
  have h1:=wC k
  have h2:n+1≤dw G b d+1:=by rw [← h];exact wC (.more hc hd ht (CZ (ug.2 ⟨n,k⟩)))
  have h3:dw G b d=n:=by omega
  unfold zJ
  cases hf:(aq G).find? fun d=>decide (dw G b d=n) && aG (aD G c) (bB d.col d.row) with
  |none=>
   have:=QV.1 hf d hd
   simp [h3,ht] at this
  |some e=>
   have h4:=Sg hf
   simp only [Pm,decide_eq_true_eq] at h4
   exact ⟨e,rfl,QJ hf,h4.1,h4.2⟩
end
section
variable {G:Gr} {b:Rf}
def w9 (G:Gr) (b:Rf) (n:Nat) (c:Rf):List Rf:=c::(kv G b n c++ [b])
theorem xS (c:Rf):kv G b 1 c= []:=rfl
theorem I1 (c:Rf):w9 G b 1 c= [c,b]:=rfl
end
theorem LL {G:Gr} {c:Rf} {r:Rct}:Rc G c r↔c∈aq G∧(aG (aD G c) r=true∨ ∃ d∈aq G,dw G d c≠0∧aG (aD G d) r=true):=by
 constructor
 ·
  intro h
  refine ⟨h.key,h.last.imp id ?_⟩
  rintro ⟨d,h1,h2,h3⟩
  exact ⟨d,h1,oO.2 h2,h3⟩
 ·
  rintro ⟨h1,h2|⟨d,h2,h3,h4⟩⟩
  ·
   exact .use h1 h2
  ·
   exact Rc.trans (oO.1 h3) h2 (.use h2 h4)
def KE (G:Gr) (l:List Rct):List Rf:=(aq G).filter fun c=>l.any fun r=>aG (aD G c) r||(aq G).any fun d=> !decide (dw G d c=0) && aG (aD G d) r
def Ff (G:Gr) (c:Rf):List Rf:=(aq G).filter fun d=> !decide (dw G d c=0)
open Classical in
theorem Fm (G:Gr) (l:List Rct):fI G l=KE G l:=by
 unfold fI KE
 refine List.filter_congr fun c hc=> ?_
 rw [PN,decide_eq_true_eq,Ql]
 refine exists_congr fun r=>and_congr_right fun _=> ?_
 rw [LL,QU,Ql]
 simp only [hc,true_and,Pm,RP,decide_eq_false_iff_not,ne_eq]
open Classical in
theorem wQ (G:Gr) (c:Rf):cZ G c=Ff G c:=by
 unfold cZ Ff
 refine List.filter_congr fun d _=> ?_
 rw [PN,decide_eq_true_eq,← oO]
 simp
open Classical in
theorem vv (G:Gr) (a b:Rf):jD G a b= !decide (dw G b a=0):=by
 unfold jD
 rw [PN,decide_eq_true_eq,← oO]
 simp
section
variable {G:Gr} (hG:GrOk G)
include hG
theorem GU {a b:Rf} (hb:b.valid=true):a∈cj G (bB b.col b.row)↔a∈aq G∧aG (aD G a) (bB b.col b.row)=true:=by
 have hr:bh (bB b.col b.row)=true:=by rw [vp];exact hb
 exact ⟨fun h=>⟨mC a h,(oG hG.sort hr (mC a h)).1 h⟩,fun h=>(oG hG.sort hr h.1).2 h.2⟩
theorem Kb {M:List Rf} (hn:M.Nodup) (hM: ∀ c∈M,c∈aq G):M.length≤G.length:=by
 have hp:M.Perm ((aq G).filter fun a=>decide (a∈M)):=iX hn (hG.sort.nodup.filter _) fun a=>by
  rw [QL,decide_eq_true_eq]
  exact ⟨fun ha=>⟨hM a ha,ha⟩,fun ha=>ha.2⟩
 have h1:=hp.length_eq
 have h2:=QE (fun a=>decide (a∈M)) (aq G)
 have h3:(aq G).length=G.length:=by rw [aq,Ps]
 omega
end
open Classical in
theorem yA {G:Gr} {a b:Rf}:decide (dw G b a≠0)=jD G a b:=by
 unfold jD
 rw [PN,decide_eq_true_eq,decide_eq_true_eq,oO]
end Go.SL
