/-
  Lemmas and walks, put together: Q15 Ex L1 G1 L2 Lo Fd Fc.
-/
import Derived.OpenShut
import Derived.ProofKit
import Derived.Carry
import Derived.Deep.Slices
import Derived.LaidMore
import Derived.Lay
import Derived.SevenTiedAt
import Derived.Stop.Joined
import Derived.Test.YtlnecnbfmnfigaaGreatDoorRows
import Derived.Test.YtlnecnbfmnfigaaGreatDoorTie
import Derived.Test.YtlnecnbfmnfigaaGreatDoorCards
import Derived.Test.YtlnecnbfmnfigaaGreatDoorKu28
set_option linter.unusedSimpArgs false
set_option linter.unusedVariables false
set_option maxRecDepth 20000
namespace Go.SL
open Go Go.Proofs
attribute [local irreducible] W WL WQ WG WA WX WLI WR WT WC VOp RW thn blk bZ scp bA bV ck FnAt FnIn FnP ceP
def qE (a b:En):Bool:=aG a.uses (bB b.at_.col b.at_.row)
def oS (a:En) (F:List En):List (Rf × Rf):=(F.filter (qE a)).map fun b=>(a.at_,b.at_)
def eZ (F:List En) (L:List En):List (Rf × Rf):=L.flatMap fun a=>oS a F
theorem Hl {a:En} {F:List En} {k:Nat} (h:k<F.length):oS a (F.take (k+1))=if qE a F[k] then oS a (F.take k)++ [(a.at_,F[k].at_)] else oS a (F.take k):=by
 unfold oS
 rw [Po h,List.filter_append,P4,RA]
 split<;>simp
theorem C9 {F L:List En} {i:Nat} (h:i<L.length):eZ F (L.take (i+1))=eZ F (L.take i)++oS L[i] F:=by
 unfold eZ
 rw [Po h,Pj]
 simp
theorem BG (a:En) (F:List En):(oS a F).length≤F.length:=by
 unfold oS
 rw [Ps]
 exact QE _ _
theorem wK (F:List En): ∀ L:List En,(eZ F L).length≤L.length*F.length
 | []=>by simp [eZ]
 |a::r=>by
  have h1:=wK F r
  have h2:=BG a F
  simp only [eZ,Pd,O2,Pe] at h1 ⊢
  rw [QH,RK]
  omega
theorem RGOk.edges {R:List Blk} {L:List En} {G:Gr} (h:RGOk R L G) (hG:GrOk G):eZ L L=dS G:=by
 have hq: ∀ e∈L,∀ f∈L,qE e f=ia e.uses f.at_:=fun e he f hf=>by
  have h1:e.abs∈G:=by rw [← h.rel];exact Py.2 ⟨e,he,rfl⟩
  have h2:f.abs∈G:=by rw [← h.rel];exact Py.2 ⟨f,hf,rfl⟩
  exact (zU (hG.ent _ h1).rect (hG.ent _ h2).at_).symm
 unfold eZ dS
 rw [← h.rel,List.flatMap_map]
 have: ∀ M:List En,(∀ e∈M,e∈L)→M.flatMap (fun a=>oS a L)=M.flatMap fun a=>((L.map En.abs).filter fun f=>ia a.abs.2.2 f.1).map fun f=>(a.abs.1,f.1):=by
  intro M
  induction M with
  |nil=>intro _;rfl
  |cons e r ih=>
   intro hM
   rw [Pd,Pd,ih fun f hf=>hM f (O9 _ hf)]
   congr 1
   unfold oS
   rw [SC,QQ,List.filter_congr (hq e (hM e O7))]
   rfl
 exact this L fun _ h=>h
set_option maxHeartbeats 4000000 in
theorem Hu (g:Nat) (A:Option Nat) (cap:Nat) (L:List En) (R:List Blk) (w0:World) (hE: ∀ e∈L,EnOk R e) (hlen:L.length≤900):
    FnIn Tryz.prog 80 [.pointer (some ⟨g,0,none⟩)] w0 (rgB g A cap L++R) fun v H=> ∃ A' cap',v=sl A' (eZ L L).length cap' ∧H= .own A' 151 4 (eZ L L).length cap' ((eZ L L).flatMap dm)::(rgB g A cap L++R):=by
  refine bM Tryz.func80 rfl Tryz.ntmps80 rfl ?_
  refine aK 151 4 ?_
  unfold rgB
  repeat' (first|refine sT ?_|refine sS ?_|refine sM fun _=> ?_|(refine sC ?_ ?_<;>intro hb<;>try omega)|fail)
  refine ax [0] rfl (fun y:Nat × Option Nat × Nat=> [(3,sl y.2.1 (eZ L (L.take y.1)).length y.2.2),(4,.int .i64 (y.1:Int))]) (fun y=> .own y.2.1 151 4 (eZ L (L.take y.1)).length y.2.2 ((eZ L (L.take y.1)).flatMap dm):: .box g 138 [sl A L.length cap]:: .own A 135 4 L.length cap (L.flatMap bG)::R) (fun y=>y.1≤L.length) (fun y=>L.length - y.1) (0,none,0) (Pb _) sB (by simp only [O8,O3,O4,eZ,Qj,Pq,Qh];exact mS) ?_
  rintro ⟨i,A3,c3⟩ hi
  dsimp only at hi ⊢
  by_cases hlt:i<L.length
  · refine bW (A:=A) pK (by omega) fun gl hA=> ?_
    subst hA
    have hel:=wK L (L.take i)
    have hml:(L.take i).length*L.length≤900*900:=Nat.mul_le_mul (by rw [Pr];omega) hlen
    have hnx:=C9 (F:=L) hlt
    generalize hO:eZ L (L.take i)=O at hel hnx
    have hOl:O.length≤810000:=PK hel hml
    have hoke:=hE L[i] (PG hlt)
    have hc:=fT hlt
    have ha:=jz hlt
    generalize L[i]=e at hc ha hnx hoke
    have hT:=fun (f:En) (H' :List Blk) (hs:MSub R H') (w' :World) (hm:Mem w0 w' H')=>jx e (bB f.at_.col f.at_.row) w' (hoke.uses _ w' (hs.use hm)) (by have:=hoke.ul;omega)
    repeat' (first|refine sT ?_|refine sS ?_|refine sN ?_|refine sM fun _=> ?_|(refine sC ?_ ?_<;>intro hb<;>try omega)|fail)
    all_goals try (exfalso;omega)
    refine ax [0,4] rfl (fun y:Nat × Option Nat × Nat=> [(3,sl y.2.1 (O++oS e (L.take y.1)).length y.2.2),(5,.int .i64 (y.1:Int))]) (fun y=> .own y.2.1 151 4 (O++oS e (L.take y.1)).length y.2.2 ((O++oS e (L.take y.1)).flatMap dm):: .box g 138 [sl (some gl) L.length cap]:: .own (some gl) 135 4 L.length cap (L.flatMap bG)::R) (fun y=>y.1≤L.length) (fun y=>L.length - y.1) (0,A3,c3) (Pb _) (by simp only [oS,Qj,SB,P3,Pa];exact sB) (by simp only [oS,Qj,SB,P3,Pa];exact mS) ?_
    rintro ⟨j,A4,c4⟩ hj
    dsimp only at hj ⊢
    by_cases hlt2:j<L.length
    · have hrl:=BG e (L.take j)
      rw [Pr] at hrl
      have hnx2:=Hl (a:=e) hlt2
      have hc2:=fT hlt2
      generalize L[j]=f at hc2 hnx2
      have hT:=hT f
      have hOn:=fun w=>dE f.at_ w
      generalize hU:oS e (L.take j)=U at hrl hnx2
      have hql:(O++U).length≤811000:=by rw [O2];omega
      cases ht:qE e f with
      |true=>
        rw [ht,if_pos rfl] at hnx2
        rw [show aG e.uses (bB f.at_.col f.at_.row)=true from ht] at hT
        repeat' (first|(apply dF (id:=8);kernel_rfl;kernel_rfl)|(apply aP (d:=33);exact rfl;apply ag (j:=i);exact rfl;exact rfl;exact hlt)|(apply aP (d:=40);exact rfl;apply ag (j:=j);exact rfl;exact rfl;exact hlt2)|(apply aP (d:=34);exact rfl;apply az (ys:=bG e);exact rfl;exact pK;exact ha;exact rfl)|(apply aP (d:=42);exact rfl;apply az (ys:=aw f.at_);exact rfl;exact pK;exact hc2;exact rfl)|(apply bz;exact rfl;exact rfl;(intro w hm;exact hOn w))|(apply bz (f:=76);exact rfl;exact rfl;exact fun w' hm=>hT _ mS w' hm)|refine sT ?_|refine sS ?_|refine sQ ?_|refine sN ?_|refine sNQ ?_|refine sM fun _=> ?_|(refine sC ?_ ?_<;>intro hb<;>try omega)|(refine sCQ ?_ ?_<;>intro hb<;>try omega)|fail)
        all_goals try (exfalso;omega)
        refine fj (id:=9) [18,19] [] [.box g 138 [sl (some gl) L.length cap],.own (some gl) 135 4 L.length cap (L.flatMap bG)] (by kernel_rfl) (by kernel_rfl) (by kernel_rfl) mS ?_
        repeat' (first|(apply ep (d:=51);(iterate 3 exact rfl);apply ag (j:=i);exact rfl;exact rfl;exact hlt)|(apply ep (d:=59);(iterate 3 exact rfl);apply ag (j:=j);exact rfl;exact rfl;exact hlt2)|(apply ep (d:=53);(iterate 3 exact rfl);apply az (ys:=aw e.at_);exact rfl;exact pK;exact hc;exact rfl)|(apply ep (d:=61);(iterate 3 exact rfl);apply az (ys:=aw f.at_);exact rfl;exact pK;exact hc2;exact rfl)|(apply ep (d:=62);(iterate 3 exact rfl);apply GQ;(iterate 5 exact rfl))|(apply aU (news:=dm (e.at_,f.at_));(iterate 3 exact rfl);exact pK;exact pK;exact rfl;(simp [dm,Value.oneCell']);omega;(simp only [maxLen];omega);intro g8 c8)|refine sT ?_|refine sS ?_|refine sW ?_|refine sN ?_|refine sWN ?_|refine sM fun _=> ?_|(refine sC ?_ ?_<;>intro hb<;>try omega)|(refine sCW ?_ ?_<;>intro hb<;>try omega)|fail)
        all_goals first
          |(exfalso;omega)
          | (refine ⟨(j + 1, some g8, c8), hlt2, (by dsimp only; omega), (by dsimp only; rw [hnx2, ← List.append_assoc, @List.length_append _ (O ++ U), List.length_singleton]; exact sB), sB, ?_⟩
             dsimp only
             rw [hnx2,← Pg,@O2 _ (O++U),O6,Pj (xs:=O++U),Pd,Pq,Pa]
             exact mS)
      |false=>
        rw [ht,if_neg (by simp)] at hnx2
        rw [show aG e.uses (bB f.at_.col f.at_.row)=false from ht] at hT
        repeat' (first|(apply aP (d:=33);exact rfl;apply ag (j:=i);exact rfl;exact rfl;exact hlt)|(apply aP (d:=40);exact rfl;apply ag (j:=j);exact rfl;exact rfl;exact hlt2)|(apply aP (d:=34);exact rfl;apply az (ys:=bG e);exact rfl;exact pK;exact ha;exact rfl)|(apply aP (d:=42);exact rfl;apply az (ys:=aw f.at_);exact rfl;exact pK;exact hc2;exact rfl)|(apply bz;exact rfl;exact rfl;(intro w hm;exact hOn w))|(apply bz (f:=76);exact rfl;exact rfl;exact fun w' hm=>hT _ mS w' hm)|refine sT ?_|refine sS ?_|refine sQ ?_|refine sN ?_|refine sNQ ?_|refine sD ?_|refine sM fun _=> ?_|(refine sC ?_ ?_<;>intro hb<;>try omega)|(refine sCQ ?_ ?_<;>intro hb<;>try omega)|fail)
        all_goals first
          |(exfalso;omega)
          | (refine ⟨(j + 1, A4, c4), hlt2, (by dsimp only; omega), (by dsimp only; rw [hnx2]; exact sB), sB, ?_⟩
             dsimp only
             rw [hnx2]
             exact mS)
    · have e2:j=L.length:=by omega
      subst e2
      rw [Qe]
      repeat' (first|refine sT ?_|refine sS ?_|refine sN ?_|refine sM fun _=> ?_|(refine sC ?_ ?_<;>intro hb<;>try omega)|fail)
      all_goals first
        |(exfalso;omega)
        | (refine ⟨(i + 1, A4, c4), hlt, (by dsimp only; omega), (by dsimp only; rw [hnx]; exact sB), sB, ?_⟩
           dsimp only
           rw [hnx]
           exact mS)
  · have e2:i=L.length:=by omega
    subst e2
    rw [Qe]
    repeat' (first|refine sT ?_|refine sS ?_|refine sN ?_|refine sM fun _=> ?_|(refine sC ?_ ?_<;>intro hb<;>try omega)|fail)
    all_goals first
      |(exfalso;omega)
      |exact bK eIO rfl rfl (H' := .own A3 151 4 (eZ L L).length c3 ((eZ L L).flatMap dm)::(rgB g A cap L++R)) (by unfold rgB;simp only [O8,O3,O4];exact mS) ⟨A3,c3,rfl,rfl⟩
def OO (r:Option Gr × Int) (v:Value) (H:List Blk):Prop:=match r with
 |(none,e)=>v= .tuple #[.pointer none,.int .i64 e]∧H= []
 |(some G,_)=> ∃ g A cap L R,v= .tuple #[.pointer (some ⟨g,0,none⟩),.int .i64 0]∧H=rgB g A cap L++R∧RGOk R L G
def ww (G:Gr) (L:List Et):Gr:=L.foldl (fun G e=>(fX G e.at_ e.input).1) G
theorem E0 {b:Option Rf} {e:Et} (h:jV b e=0):e.at_.valid=true∧(ofP e.input).2.2=0:=by
 have hg: ∀ (c1 c2 c3:Prop) [Decidable c1] [Decidable c2] [Decidable c3] (z:Int),(if c1 then (3:Int) else if c2 then 12 else if c3 then 2 else z)=0→ ¬ c1∧z=0:=by
  intro c1 c2 c3 _ _ _ z hz
  by_cases h1:c1
  ·
   rw [if_pos h1] at hz;cases hz
  ·
   rw [if_neg h1] at hz
   by_cases h2:c2
   ·
    rw [if_pos h2] at hz;cases hz
   ·
    rw [if_neg h2] at hz
    by_cases h3:c3
    ·
     rw [if_pos h3] at hz;cases hz
    ·
     rw [if_neg h3] at hz;exact ⟨h1,hz⟩
 obtain ⟨h1,h2⟩:=hg _ _ _ _ h
 exact ⟨by simpa using h1,h2⟩
theorem qY: ∀ (L:List Et) (i:Nat) (b:Option Rf),(eX i b L).2=0→ ∀ e∈L,e.at_.valid=true∧(ofP e.input).2.2=0
 | [],_,_,_,e,he=>by cases he
 |x::r,i,b,h,e,he=>by
  rw [eX] at h
  split at h
  ·
   rename_i hf
   exact absurd h hf
  ·
   rename_i hf
   rcases PF.1 he with rfl|he
   ·
    exact E0 (Classical.not_not.1 hf)
   ·
    exact qY r _ _ h e he
theorem F5: ∀ (L:List Et) (G:Gr),(∀ e∈L,e.at_.valid=true∧(ofP e.input).2.2=0)→xv G L=(some (ww G L),0)
 | [],G,_=>rfl
 |e::r,G,h=>by
  have he:(fX G e.at_ e.input).2=0:=by
   obtain ⟨h1,h2⟩:=h e O7
   unfold fX
   rw [if_neg (by rw [h1];simp),if_neg (by rw [h2];simp)]
   split<;>rfl
  rw [xv,if_neg (by rw [he];simp),F5 r _ fun f hf=>h f (O9 _ hf)]
  rfl
theorem LR (L:List Et):Cm L=if (gJ L).2≠0 then (none,(gJ L).2) else (some (ww [] L),0):=by
 unfold Cm
 split
 ·
  rfl
 ·
  rename_i h
  exact F5 L [] (qY L 0 none (Classical.not_not.1 h))
set_option maxHeartbeats 2000000 in
theorem LN (L:List Et) (tv:Value) (w:World) (ht:Reads w tv L.length (L.flatMap pu)) (hlen:L.length≤900):
  FnAt Tryz.prog 46 [tv] w (OO (Cm L)):=by
 have hC:=fun (w' :World) (H:List Blk) (hm:Mem w w' H)=>xk L tv w' (ht.of_w0 hm) (by omega)
 obtain ⟨Al,cl,rfl,hl1,hl2,hl3⟩:=ht
 refine aA Tryz.func46 rfl Tryz.ntmps46 rfl ?_
 rw [LR]
 generalize gJ L=c at hC
 obtain ⟨ci,ce⟩:=c
 dsimp only at hC ⊢
 by_cases hce:ce≠0
 ·
  rw [if_pos hce]
  repeat' (first|(apply aa (f:=109);exact rfl;exact rfl;(intro w' hm;exact hC w' _ hm))|refine sT ?_|refine sS ?_|refine sM fun _=> ?_|(refine sC ?_ ?_<;>intro hb<;>try omega)|fail)
  all_goals first
   |(exfalso;omega)
   |exact cN eIO rfl rfl rfl (.nil _) ⟨rfl,rfl⟩
 rw [if_neg hce]
 have hce0:ce=0:=Classical.not_not.1 hce
 subst hce0
 refine aK 135 4 ?_
 repeat' (first|(apply aa (f:=109);exact rfl;exact rfl;(intro w' hm;exact hC w' _ hm))|refine sT ?_|refine sS ?_|refine sM fun _=> ?_|(refine sC ?_ ?_<;>intro hb<;>try omega)|fail)
 all_goals try (exfalso;omega)
 rename_i g
 refine ax [0,6] rfl (fun x:Nat × Option Nat × Nat × List En × Gr × List Blk=> [(7,.int .i64 (x.1:Int))]) (fun x=>rgB g x.2.1 x.2.2.1 x.2.2.2.1++x.2.2.2.2.2) (fun x=>x.1≤L.length∧GrOk x.2.2.2.2.1∧x.2.2.2.2.1.length≤x.1∧RGOk x.2.2.2.2.2 x.2.2.2.1 x.2.2.2.2.1∧ww [] L=ww x.2.2.2.2.1 (L.drop x.1)) (fun x=>L.length - x.1) (0,none,0,[],[],[]) ⟨by simp,wm,Ph _,⟨(fun _ h=>by cases h),rfl⟩,rfl⟩ sB (by unfold rgB;exact mS) ?_
 rintro ⟨i,A,cap,Q,G,R⟩ ⟨hi,hG,hGl,hR,hnew⟩
 dsimp only at hi hG hGl hR hnew ⊢
 by_cases hlt:i<L.length
 ·
  obtain ⟨gl,ol,rfl,hrl⟩:=hl3 (by omega)
  have he:=hrl.elem j5 i hlt
  rw [Pf hlt] at hnew
  generalize L[i]=e at he hnew
  have hS:=LM g A cap Q G e.at_ e.input R w hR hG.sort (by rw [hR.len];omega)
  have hG' :=hG.set e.at_ e.input
  have hGl' :=uZ G e.at_ e.input
  rw [show ww G (e::L.drop (i+1))=ww (fX G e.at_ e.input).1 (L.drop (i+1)) from rfl] at hnew
  generalize fX G e.at_ e.input=sg at hS hnew hG' hGl'
  obtain ⟨G',se⟩:=sg
  dsimp only at hS hnew hG' hGl'
  repeat' (first|refine sT ?_|refine sS ?_|refine sN ?_|refine sM fun _=> ?_|(refine sC ?_ ?_<;>intro hb<;>try omega)|fail)
  all_goals try (exfalso;omega)
  refine fj (id:=8) [11] [] [] (by kernel_rfl) (by kernel_rfl) (by kernel_rfl) (MSub.nil _) ?_
  repeat' (first|(apply ep (d:=27);(iterate 3 exact rfl);apply ag (j:=i);exact rfl;exact rfl;exact hlt)|(apply ep (d:=32);(iterate 3 exact rfl);apply ag (j:=i);exact rfl;exact rfl;exact hlt)|(apply ep (d:=29);(iterate 3 exact rfl);apply cI (off:=0) (ys:=aw e.at_) he;(iterate 3 exact rfl))|(apply ep (d:=34);(iterate 3 exact rfl);apply dG (off:=2);exact rfl;exact he;exact rfl)|(apply ak (f:=49);exact rfl;exact rfl;exact FnIn.msub hS (MSub.refl _);rintro _ _ ⟨rfl,A',cap',Q',R',rfl,hsub,hR'⟩)|refine sT ?_|refine sS ?_|refine sW ?_|refine sN ?_|refine sWN ?_|refine sM fun _=> ?_|(refine sC ?_ ?_<;>intro hb<;>try omega)|(refine sCW ?_ ?_<;>intro hb<;>try omega)|fail)
  all_goals first
   |(exfalso;omega)
   |(refine ⟨(i+1,A',cap',Q',G',R'),⟨hlt,hG',(by dsimp only;omega),hR',hnew⟩,(by dsimp only;omega),sB,sB,MSub.refl _⟩)
 ·
  have e2:i=L.length:=by omega
  subst e2
  rw [PT,show ww G []=G from rfl] at hnew
  rw [hnew]
  repeat' (first|refine sT ?_|refine sS ?_|refine sN ?_|refine sM fun _=> ?_|(refine sC ?_ ?_<;>intro hb<;>try omega)|fail)
  all_goals first
   |(exfalso;omega)
   |exact cN eIO rfl rfl rfl (MSub.refl _) ⟨g,A,cap,Q,R,rfl,rfl,hR⟩
end Go.SL
namespace Go.SL
open Go
def inA:ByteArray:=⟨#[53]⟩
def inB:ByteArray:=⟨#[61,65,49,43,66,49]⟩
def inC:ByteArray:=⟨#[61,68,83,85,77,40,66,49,58,66,51,41]⟩
def inD:ByteArray:=⟨#[61,73,70,69,82,82,79,82,40,65,51,44,48,41,43,49]⟩
def exL:List Et:= [⟨⟨1,1⟩,inA⟩,⟨⟨1,2⟩,inB⟩,⟨⟨1,3⟩,inC⟩,⟨⟨1,4⟩,inD⟩]
def Ns (c r:Int):Nd:=⟨2,bR,bB c r,0,0,0⟩
def exG:Gr:= [
 (⟨1,2⟩,[Ns 1 1,Ns 2 1,dK 6 1],[⟨bB 1 1, -1,0⟩,⟨bB 2 1, -1,0⟩]),
 (⟨1,3⟩,[⟨3,bR,⟨2,1,2,3⟩,0,0,0⟩,⟨7,bR,aW,0,46,1⟩],[⟨⟨2,1,2,3⟩,1,46⟩]),
 (⟨1,4⟩,[Ns 1 3,⟨1,⟨1,0,ay⟩,aW,0,0,0⟩,⟨7,bR,aW,0,25,2⟩,⟨1,⟨1,10000,ay⟩,aW,0,0,0⟩,dK 6 1],[⟨bB 1 3, -1,0⟩])]
theorem Kg:Cm exL=(some exG,0):=by decide+kernel
theorem rY:GrOk exG:=by
 have h: ∀ (L:List Et) (G:Gr),GrOk G→ ∀ G',xv G L=(some G',0)→GrOk G' :=by
  intro L
  induction L with
  |nil=>intro G hG G' h;cases h;exact hG
  |cons e r ih=>
   intro G hG G' h
   rw [xv] at h
   split at h
   ·
    cases h
   ·
    exact ih _ (hG.set _ _) G' h
 have h2:=Kg
 unfold Cm at h2
 split at h2
 ·
  cases h2
 ·
  exact h exL [] wm exG h2
end Go.SL
namespace Go.SL
open Go Go.Proofs
attribute [local irreducible] W WL WQ WG WA WX WLI WR WT WC VOp RW thn blk bZ scp bA bV ck FnAt FnIn FnP ceP
structure Pu where
 col:Int
 row:Int
 input:ByteArray
def tA (p:Pu):List Value:= [.int .i64 p.col,.int .i64 p.row,.string p.input]
theorem yG (p:Pu):(tA p).length=3:=rfl
def zN (i n:Int):Int:=if n<1 then 0 else (i.tmod n+n).tmod n
def Pu.ref (p:Pu):Rf:=⟨1+zN p.col 5,1+zN p.row 7⟩
theorem vT (i:Int) {n:Int} (h:1≤n):0≤zN i n∧zN i n<n:=by
 unfold zN
 rw [if_neg (by omega)]
 have h1:=Sh i (show 0<n by omega)
 have h2: -n<i.tmod n:=by
  have:=Sh (-i) (show 0<n by omega)
  rw [Int.neg_tmod] at this
  omega
 exact ⟨Int.tmod_nonneg _ (by omega),Sh _ (by omega)⟩
theorem Pu.range (p:Pu):1≤p.ref.col∧p.ref.col≤5∧1≤p.ref.row∧p.ref.row≤7:=by
 have h1:=vT p.col (n:=5) (by decide)
 have h2:=vT p.row (n:=7) (by decide)
 simp only [Pu.ref]
 omega
theorem JX (i n:Int) (h1:1≤n) (h2:n≤100) (w:World):aF Tryz.prog 112 [.int .i64 i,.int .i64 n] w (.int .i64 (zN i n)):=by
 refine aA Tryz.func112 rfl Tryz.ntmps112 rfl ?_
 have h3:=Sh i (show 0<n by omega)
 have h4: -n<i.tmod n:=by
  have:=Sh (-i) (show 0<n by omega)
  rw [Int.neg_tmod] at this
  omega
 repeat' (first|(apply aj (d:=9);exact rfl;apply lR (c:=i.tmod n);exact rfl;exact rfl;omega;exact rfl)|(apply aj (d:=11);exact rfl;apply kZ;exact rfl;exact rfl;exact ⟨by omega,by omega⟩)|(apply aj (d:=13);exact rfl;apply lR (c:=(i.tmod n+n).tmod n);exact rfl;exact rfl;omega;exact rfl)|refine sT ?_|refine sS ?_|refine sM fun _=> ?_|(refine sC ?_ ?_<;>intro hb<;>try omega)|fail)
 all_goals first
  |(exfalso;omega)
  |((refine rT1 ?_);rw [zN,if_neg (by omega)])
theorem LO (p:Pu) (w:World):aF Tryz.prog 48 [.agg (tA p).toArray] w (.agg (aw p.ref).toArray):=by
 refine aA Tryz.func48 rfl Tryz.ntmps48 rfl ?_
 have h5:=fun w=>JX p.col 5 (by decide) (by decide) w
 have h7:=fun w=>JX p.row 7 (by decide) (by decide) w
 have hr:=p.range
 simp only [Pu.ref] at hr
 unfold Pu.ref
 generalize zN p.col 5=c at h5 hr
 generalize zN p.row 7=r at h7 hr
 repeat' (first|refine sT ?_|refine sS ?_|refine sM fun _=> ?_|(refine sC ?_ ?_<;>intro hb<;>try omega)|fail)
 rename_i g1 g2
 refine fj (id:=1) [2,6,9] [] [.box g1 114 (tA p)] (by kernel_rfl) (by kernel_rfl) (by kernel_rfl) mS ?_
 repeat' (first|(apply uB;(iterate 4 exact rfl);(intro w hm;exact h5 w))|(apply uB;(iterate 4 exact rfl);(intro w hm;exact h7 w))|refine sT ?_|refine sS ?_|refine sW ?_|refine sJ ?_|refine sWJ ?_|refine sM fun _=> ?_|(refine sC ?_ ?_<;>intro hb<;>try omega)|(refine sCW ?_ ?_<;>intro hb<;>try omega)|fail)
 all_goals ((refine eRC ?_);rfl)
end Go.SL
namespace Go.SL
open Go Go.Proofs
attribute [local irreducible] W WL WQ WG WA WX WLI WR WT WC VOp RW thn blk bZ scp bA bV ck FnAt FnP ceP
theorem FnIn.re {P:Program} {f:FuncId} {args:List Value} {w0:World} {H:List Blk} {R R' :Value→List Blk→Prop} (h:FnIn P f args w0 H R) (hr: ∀ v H,R v H→ ∃ H',MSub H' H∧R' v H'):FnIn P f args w0 H R' :=
 fun w hm=>Calls.mono (h w hm) fun _ _ ⟨v,H',h1,h2,h3⟩=>let ⟨H2,h4,h5⟩:=hr v H' h3;⟨v,H2,h1,h4.use h2,h5⟩
theorem MSub.of_perm {H H' :List Blk} (h:H'.Perm H):MSub H H' :=⟨[],by simpa using h⟩
structure Gs where
 gg:Nat
 gm:Nat
 E:List En
 clock:Nat
 R1:List Blk
 gr:Nat
 A:Option Nat
 cap:Nat
 Q:List En
 R2:List Blk
def Gs.a (x:Gs):List Blk:=gB x.gg x.gm (x.E.map En.m) x.clock
def Gs.b (x:Gs):List Blk:=rgB x.gr x.A x.cap x.Q
def Gs.H (x:Gs):List Blk:=x.a++(x.b++(x.R1++x.R2))
def Gs.pa (x:Gs):Value:= .pointer (some ⟨x.gg,0,none⟩)
def Gs.pb (x:Gs):Value:= .pointer (some ⟨x.gr,0,none⟩)
structure Gs.ok (x:Gs) (G:Gr):Prop where
 a:GOk x.R1 x.E x.clock G
 b:RGOk x.R2 x.Q G
 g:GrOk G
theorem Gs.permA (x:Gs) (F:List Blk):(F++x.H).Perm (x.a++(x.R1++(x.b++(x.R2++F)))):=by
 refine PI.trans ?_
 unfold Gs.H
 simp only [Pg]
 exact (QY x.b x.R1 (x.R2++F)).append_left x.a
theorem Gs.permB (x:Gs) (F:List Blk):(F++x.H).Perm (x.b++(x.R2++(x.a++(x.R1++F)))):=by
 refine PI.trans ?_
 unfold Gs.H
 simp only [Pg]
 refine (QY x.a x.b _).trans (List.Perm.append_left x.b ?_)
 refine (List.Perm.append_left x.a (QY x.R1 x.R2 F)).trans ?_
 exact QY x.a x.R2 _
theorem Gs.set (x:Gs) (G:Gr) (h:x.ok G) (c:Rf) (i:ByteArray) (F:List Blk) (w0:World) (hW:Words w0):
  FnIn Tryz.prog 47 [x.pa,aO c,.string i] w0 (F++x.H) fun v H=>v= .int .i64 (fX G c i).2∧ ∃ E' clock' R',H=F++({ x with E:=E',clock:=clock',R1:=R' }:Gs).H∧MSub x.R1 R' ∧GOk R' E' clock' (fX G c i).1:=by
 refine (FnIn.msub (Gk x.gg x.gm x.clock x.E G c i x.R1 (x.b++(x.R2++F)) w0 h.a hW) (MSub.of_perm (x.permA F))).re ?_
 rintro v H ⟨hv,E',clock',R',rfl,hs,hG⟩
 exact ⟨F++({ x with E:=E',clock:=clock',R1:=R' }:Gs).H,MSub.of_perm (Gs.permA { x with E:=E',clock:=clock',R1:=R' } F).symm,hv,E',clock',R',rfl,hs,hG⟩
theorem Gs.rset (x:Gs) (G:Gr) (h:RGOk x.R2 x.Q G) (hs:SortG G) (hl:G.length≤900) (c:Rf) (i:ByteArray) (F:List Blk) (w0:World):
  FnIn Tryz.prog 49 [x.pb,aO c,.string i] w0 (F++x.H) fun v H=>v= .int .i64 (fX G c i).2∧ ∃ A' cap' Q' R',H=F++({ x with A:=A',cap:=cap',Q:=Q',R2:=R' }:Gs).H∧MSub x.R2 R' ∧RGOk R' Q' (fX G c i).1:=by
 refine (FnIn.msub (BX x.gr x.A x.cap x.Q G c i x.R2 (x.a++(x.R1++F)) w0 h hs (by rw [h.len];omega)) (MSub.of_perm (x.permB F))).re ?_
 rintro v H ⟨hv,A',cap',Q',R',rfl,hss,hG⟩
 exact ⟨F++({ x with A:=A',cap:=cap',Q:=Q',R2:=R' }:Gs).H,MSub.of_perm (Gs.permB { x with A:=A',cap:=cap',Q:=Q',R2:=R' } F).symm,hv,A',cap',Q',R',rfl,hss,hG⟩
section
variable (x:Gs) (G:Gr) (h:x.ok G) (F:List Blk) (w0:World)
include h
end
end Go.SL
namespace Go.SL
open Go Go.Proofs
attribute [local irreducible] W WL WQ WG WA WX WLI WR WT WC VOp RW thn blk bZ scp bA bV ck FnAt FnIn FnP ceP
def yw (G:Gr) (l:List Pu):Gr:=l.foldl (fun G p=>(fX G p.ref p.input).1) G
def rG (L:List Pu):Gr:=yw [] (L.take 40)
theorem yu: ∀ (l:List Pu) (G:Gr),(yw G l).length≤G.length+l.length
 | [],G=>Ph _
 |p::r,G=>by
  have h1:=yu r (fX G p.ref p.input).1
  have h2:=uZ G p.ref p.input
  simp only [Pe]
  exact PK h1 (by omega)
theorem D0 (L:List Pu):(rG L).length≤40:=by
 have:=yu (L.take 40) []
 rw [Pr,Qh] at this
 unfold rG
 omega
theorem DZ (a b R1 R2:List Blk) (p q:Blk):MSub ([p,q]++(a++(b++(R1++R2)))) (p::((b++R2)++((a++R1)++ [q]))):=by
 refine MSub.of_perm (List.Perm.cons p ?_)
 refine (show ((b++R2)++((a++R1)++ [q])).Perm (q::((b++R2)++(a++R1))) from ?_).trans (List.Perm.cons q ?_)
 ·
  rw [← Pg]
  exact PI
 ·
  refine PI.trans ?_
  simp only [Pg]
  exact (QY R1 b R2).append_left a
theorem JS:Cm []=(some [],0):=rfl
set_option maxHeartbeats 4000000 in
theorem KH (L:List Pu) (tv:Value) (w:World) (ht:Reads w tv L.length (L.flatMap tA)) (hW:Words w):
  FnAt Tryz.prog 9 [tv] w fun v H=> ∃ x:Gs,v= .tuple #[.agg #[x.pa,x.pb],.bool true]∧H=x.H∧x.ok (rG L):=by
 have hN:=fun (w' :World) (H:List Blk) (hm:Mem w w' H)=>KI [] (.slice none 0 0) w' ⟨none,0,rfl,Ph _,Pb _,fun h=>by cases h⟩ (by simp) (hW.next hm)
 have hM:=fun (w' :World)=>LN [] (.slice none 0 0) w' ⟨none,0,rfl,Ph _,Pb _,fun h=>by cases h⟩ (by simp)
 rw [JS] at hN hM
 obtain ⟨Al,cl,rfl,hl1,hl2,hl3⟩:=ht
 refine aA Tryz.func9 rfl Tryz.ntmps9 rfl ?_
 repeat' (first|(apply aS (f:=34);exact rfl;exact rfl;(intro w' hm;exact hN w' _ hm);rintro _ _ ⟨gg,gm,E,clock,R1,rfl,rfl,hGA⟩)|(apply aS (f:=46);exact rfl;exact rfl;(intro w' hm;exact hM w');rintro _ _ ⟨gr,A,cap,Q,R2,rfl,rfl,hGB⟩)|refine sT ?_|refine sS ?_|refine sM fun _=> ?_|(refine sC ?_ ?_<;>intro hb<;>try omega)|fail)
 all_goals try (exfalso;omega)
 rename_i g2 g8
 refine ax [0,4,6,8,2] rfl (fun y:Nat × Gs × Gr=> [(9,.int .i64 (y.1:Int))]) (fun y=> [.box g8 29 [.pointer (some ⟨gg,0,none⟩),.pointer (some ⟨gr,0,none⟩)],.box g2 29 [.pointer none,.pointer none]]++y.2.1.H) (fun y=>(y.2.1.gg=gg∧y.2.1.gr=gr)∧y.1≤L.length∧y.1≤40∧y.2.1.ok y.2.2∧y.2.2.length≤y.1∧rG L=yw y.2.2 ((L.take 40).drop y.1)) (fun y=>L.length - y.1) (0,⟨gg,gm,E,clock,R1,gr,A,cap,Q,R2⟩,[]) ⟨⟨rfl,rfl⟩,Pb _,Pb _,⟨hGA,hGB,wm⟩,Ph _,rfl⟩ sB (DZ _ _ _ _ _ _) ?_
 rintro ⟨i,x,G⟩ ⟨⟨hgg,hgr⟩,hi,hi4,hx,hGl,hst⟩
 dsimp only at hgg hgr hi hi4 hx hGl hst ⊢
 subst hgg hgr
 by_cases hlt:i<L.length∧i<40
 ·
  obtain ⟨hlt,hlt4⟩:=hlt
  obtain ⟨gl,ol,rfl,hrl⟩:=hl3 (by omega)
  have he:=hrl.elem yG i hlt
  have hlk:i<(L.take 40).length:=by rw [Pr];omega
  rw [Pf hlk,show (L.take 40)[i]=L[i] by rw [List.getElem_take]] at hst
  generalize L[i]=p at he hst
  rw [show ∀ r,yw G (p::r)=yw (fX G p.ref p.input).1 r from fun _=>rfl] at hst
  have hAt:=fun w=>LO p w
  have hS:=fun F=>x.set G hx p.ref p.input F w hW
  have hT:=fun (x' :Gs) (h:RGOk x'.R2 x'.Q G) F=>x'.rset G h hx.g.sort (by omega) p.ref p.input F w
  have hg' :=hx.g.set p.ref p.input
  have hgl:=uZ G p.ref p.input
  generalize p.ref=c at hAt hS hT hst hg' hgl
  generalize fX G c p.input=sg at hS hT hst hg' hgl
  obtain ⟨G',se⟩:=sg
  dsimp only at hS hT hst hg' hgl
  repeat' (first|refine sT ?_|refine sS ?_|refine sN ?_|refine sM fun _=> ?_|(refine sC ?_ ?_<;>intro hb<;>try omega)|fail)
  all_goals try (exfalso;omega)
  refine fj (id:=9) [5,11,17,23] [] [] (by kernel_rfl) (by kernel_rfl) (by kernel_rfl) (MSub.nil _) ?_
  repeat' (first|(apply ep;(iterate 3 exact rfl);apply ag (j:=i);exact rfl;exact rfl;exact hlt)|(apply ep;(iterate 3 exact rfl);apply aZ;exact rfl;exact he;exact rfl)|(apply ep;(iterate 3 exact rfl);apply dG (off:=2);exact rfl;exact he;exact rfl)|(apply uB;(iterate 4 exact rfl);(intro w hm;exact hAt w))|(apply ak (f:=47);exact rfl;exact rfl;exact FnIn.msub (hS [.box g8 29 [.pointer (some ⟨x.gg,0,none⟩),.pointer (some ⟨x.gr,0,none⟩)],.box g2 29 [.pointer none,.pointer none]]) (MSub.refl _);rintro _ _ ⟨rfl,E',clock',R1',rfl,hs1,hG1⟩)|(apply ak (f:=49);exact rfl;exact rfl;exact FnIn.msub (hT { x with E:=E',clock:=clock',R1:=R1' } hx.b [.box g8 29 [.pointer (some ⟨x.gg,0,none⟩),.pointer (some ⟨x.gr,0,none⟩)],.box g2 29 [.pointer none,.pointer none]]) (MSub.refl _);rintro _ _ ⟨rfl,A',cap',Q',R2',rfl,hs2,hG2⟩)|(apply ep;(iterate 3 exact rfl);apply pJ;exact rfl;exact rfl)|refine sT ?_|refine sS ?_|refine sW ?_|refine sN ?_|refine sWN ?_|refine sM fun _=> ?_|(refine sC ?_ ?_<;>intro hb<;>try omega)|(refine sCW ?_ ?_<;>intro hb<;>try omega)|fail)
  all_goals first
   |(exfalso;omega)
   |(refine ⟨(i+1,{ x with E:=E',clock:=clock',R1:=R1',A:=A',cap:=cap',Q:=Q',R2:=R2' },G'),⟨⟨rfl,rfl⟩,hlt,hlt4,⟨hG1,hG2,hg'⟩,(by dsimp only;omega),hst⟩,(by dsimp only;omega),sB,sB,MSub.refl _⟩)
 ·
  have hdr:(L.take 40).drop i= []:=by
   rw [Sy,Pr]
   omega
  rw [hdr,show yw G []=G from rfl] at hst
  rw [← hst] at hx
  repeat' (first|refine sT ?_|refine sS ?_|refine sN ?_|refine sM fun _=> ?_|(refine sC ?_ ?_<;>intro hb<;>try omega)|fail)
  all_goals first
   |(exfalso;omega)
   |exact x5 eIO rfl rfl pK rfl rfl (H' :=x.H) (MSub.drop .hd (MSub.drop .hd (MSub.refl _))) ⟨x,rfl,rfl,hx⟩
end Go.SL
namespace Go.SL
open Go Go.Proofs Go.ChangeShapes Go.WideShapes Go.ChangeAt Go.RowKit Go.Deep
section
variable {H:Type} {enc:TypeId × Value→H} {P:Program} {w:World} {base:Nat} {spare:Nat→Bool} {held:Bool}
theorem xq {f:Func} {s:ChangeSpec} {apart fresh handsOn again:Bool} {W W' :World} {args:Array Value} {v:Value} {ds gs:List (DataW H)} {before pa pv:List MemPlace}
  (hW:DataW.Whole enc P f.params.toList s.vars apart W args.toList ds gs before)
  (hres: ∀ (b:Nat) (sp:Nat→Bool) (hd:Bool),DataW.TrodAll enc P W' b sp hd f.resultTypes.toList (v.resultList f.resultTypes.size) (s.fn H (ds++gs)).results [])
  (hargs: ∀ sp:Nat→Bool,(∀ p∈before,sp p.block=true)→DataW.TrodAll enc P W' 0 sp true f.params.toList args.toList (s.fn H (ds++gs)).args pa)
  (hvars: ∀ sp:Nat→Bool,(∀ p∈before,sp p.block=true)→DataW.TrodVars enc P W' sp s.vars (s.fn H (ds++gs)).vars pv)
  (hps:before=pa++pv) (hb:Below W.heap.size W W')
  (hok: ∀ (j:Nat) (t:TypeId) (r:Value),f.resultTypes[j]? =some t→(v.resultList f.resultTypes.size)[j]? =some r→Value.okWide P W' .any 0 t r):
  s.post enc P f apart fresh handsOn again W args v W' :=by
 have hold: ∀ p∈before,(fun b=>decide (b<W.heap.size)) p.block=true:=fun p hp=>by simpa using hW.lt p hp
 refine ⟨ds,gs,before,[],pa,pv,hW,hres _ _ _,hargs _ hold,hvars _ hold,hb.frame _,fun _=> ?_⟩
 have hlt:=hW.lt
 obtain ⟨_,_,_,_,_,hz,hn⟩:=hW
 refine ⟨hok,_,_,([]++pa)++pv,⟨[]++pa,pv,trodAll_append (hargs _ (fun _ _=>rfl)) (hres _ _ _),hvars _ (fun _ _=>rfl),rfl,?_,?_⟩,?_⟩
 ·
  intro b off hp
  have hp' :MemPlace.cell b off∈before:=by rw [hps];simpa using hp
  have h1:=hz b off hp'
  have h2:=hlt _ hp'
  rw [← h1]
  exact hb.frozen h2
 ·
  intro ha
  have:=hn ha
  rw [hps] at this
  simpa using this
 ·
  intro p hp _
  rw [hps]
  simpa using hp
theorem ji {t:TypeId} (hl:laidOutB P=true) (hr:P.readableRec t=true) (hrow:t<P.types.size) {W W' :World} {v:Value} {d:DataW H} {ps:List MemPlace} {sp:Nat→Bool}
  (h:DataW.Trod enc P W 0 (fun _=>true) true t v d ps) (hb:Below W.heap.size W W') (hlt: ∀ x∈ps,x.block<W.heap.size) (hs: ∀ x∈ps,sp x.block=true):DataW.Trod enc P W' 0 sp true t v d ps:=
 WideElems.Trod_stays hl hr hrow h (fun x hx=>hb.same (hlt x hx)) hs
end
theorem Mt:ownKnob Tryz.prog.godebug=none:=by kernel_rfl
theorem lz:laidOutB Tryz.prog=true:=by kernel_rfl
section
variable {H:Type} {enc:TypeId × Value→H} {w:World} {base:Nat} {spare:Nat→Bool} {held:Bool}
theorem E9 {α:Type} {enc:α→List Value} {m:Nat} (hm: ∀ a,(enc a).length=m) (w:World) (g o:Nat): ∀ (L:List α),(∀ (i:Nat) (a:α),L[i]? =some a→Cells w g (o+i*m) (enc a))→Cells w g o (L.flatMap enc):=by
 intro L h j v hv
 by_cases hm0:m=0
 ·
  have:(L.flatMap enc).length=0:=by rw [aQ hm,hm0,Nat.mul_zero]
  rw [P5 (by omega)] at hv
  cases hv
 have hlen:(L.flatMap enc).length=L.length*m:=aQ hm L
 have hj:j<(L.flatMap enc).length:=(Pk.1 hv).1
 have hi:j / m<L.length:=by rw [Nat.div_lt_iff_lt_mul (by omega)];omega
 have hk:j % m<m:=Nat.mod_lt _ (by omega)
 have he:j / m*m+j % m=j:=by rw [Nat.mul_comm];exact Nat.div_add_mod j m
 have h1:=l9 hm L (j / m) (j % m) hi hk
 rw [he,hv] at h1
 have h2:=h (j / m) L[j / m] (O5 hi) (j % m) v h1.symm
 rw [show o+j / m*m+j % m=o+j by omega] at h2
 exact h2
theorem HJ {α:Type} [Inhabited α] {encA:α→List Value} {ok:α→Prop} {P:Program} {t e m fuel:Nat} {cs:List Value} {x:DataW H × List MemPlace} (ht:P.underlying t=some (.slice e)) (hm:P.cellsOf e=m) (hm0:0<m) (hlenA: ∀ a,(encA a).length=m)
  (helem: ∀ (n:Nat) (cs:List Value) (y:DataW H × List MemPlace),DataW.trod enc P w 0 spare held n e cs=some y→ ∃ a,cs=encA a∧ok a) (h:DataW.trod enc P w 0 spare held fuel t cs=some x):
  ∃ (v:Value) (L:List α),cs= [v]∧Reads w v L.length (L.flatMap encA)∧ ∀ a∈L,ok a:=by
 rcases open_slice ht h with ⟨h0,_⟩|⟨a,len,cap,mm,n,D,Pl,h0,hb,hl,hmx,hmm,_,hx⟩
 ·
  exact ⟨_,[],h0,⟨none,0,rfl,Ph _,Pb _,fun h=>by cases h⟩,fun _ h=>by cases h⟩
 ·
  have hlm:len≤mm:=by rw [hmm];split<;>omega
  obtain ⟨F,hF⟩:=choose_lt (α:=α) (n:=len) (p:=fun i nd=>w.cells? 0 (a.add (i*m)) m=some (encA nd)∧ok nd) (fun i hi=>by
   obtain ⟨cs',h1,h2⟩:=hx i (by omega)
   rw [hm] at h1
   obtain ⟨nd,rfl,hw⟩:=helem _ _ _ h2
   exact ⟨nd,h1,hw⟩)
  have hlen:((List.range len).map F).length=len:=by simp
  refine ⟨_,(List.range len).map F,h0,⟨some a,cap,by rw [hlen],by omega,hmx,fun hpos=> ?_⟩,fun n hn=> ?_⟩
  rotate_left
  ·
   obtain ⟨i,hi,rfl⟩:=Py.1 hn
   exact (hF i (RX.1 hi)).2
  rw [hlen] at hpos
  obtain ⟨g,o,spot⟩:=a
  have hspot:spot=none:=by
   obtain ⟨_,_,h3⟩:=World.cells?_some (hF 0 (by omega)).1
   have h4' :=h3 0 hm0
   rw [O5 (by rw [hlenA];exact hm0)] at h4'
   have h4:=World.cell?_spot h4'
   simpa [Addr.add] using h4
  subst hspot
  have hcell: ∀ (i:Nat) (nd:α),((List.range len).map F)[i]? =some nd→Cells w g (o+i*m) (encA nd):=by
   intro i nd hnd k v hv
   have hil:i<len:=by have:=(Pk.1 hnd).1;omega
   have hnd' :F i=nd:=by simpa [hil] using hnd
   subst hnd'
   have hk:k<m:=by have:=(Pk.1 hv).1;rwa [hlenA] at this
   obtain ⟨_,_,h3⟩:=World.cells?_some (hF i hil).1
   have:=h3 k hk
   rw [hv,ee,ee] at this
   exact this
  refine ⟨g,o,rfl,?_,E9 hlenA w g o _ hcell⟩
  obtain ⟨u,hu⟩: ∃ u,(encA (F 0))[0]? =some u:=⟨_,O5 (by rw [hlenA];exact hm0)⟩
  have h5:=hcell 0 (F 0) (by simp [hpos]) 0 u hu
  simp only [World.cell?] at h5
  split at h5
  ·
   rename_i h6
   exact (PL.1 h6).1
  ·
   cases h5
theorem nC {n:Nat} {c:Value} {x:DataW H × List MemPlace} (h:DataW.trod enc Tryz.prog w base spare held n 3 [c]=some x): ∃ a,c= .int .i64 a∧I64 a:=by
 obtain ⟨a0,q0,_,w0⟩:=DataW.trod_int Tryz.underlying3 h
 simp only [List.cons.injEq,and_true] at q0
 exact ⟨a0,q0,bounds_i64 w0⟩
theorem Nn {n:Nat} {c:Value} {x:DataW H × List MemPlace} (h:DataW.trod enc Tryz.prog w base spare held n 9 [c]=some x): ∃ a,c= .string a:=by
 obtain ⟨a0,q0,_⟩:=DataW.trod_string Tryz.underlying9 h
 simp only [List.cons.injEq,and_true] at q0
 exact ⟨a0,q0⟩
def okF (a:Rf):Prop:=I64 a.col∧I64 a.row
def okR (r:Rct):Prop:=I64 r.c1∧I64 r.r1∧I64 r.c2∧I64 r.r2
def OB (p:Pu):Prop:=I64 p.col∧I64 p.row
set_option maxRecDepth 100000 in
theorem Jk {fuel:Nat} {cs:List Value} {x:DataW H × List MemPlace} (h:DataW.trod enc Tryz.prog w base spare held fuel 24 cs=some x): ∃ v:Rf,cs=aw v∧okF v:=by
 obtain ⟨xs,n,_,_,hlen,hxl,hf⟩:=DataW.trod_struct Tryz.underlying24 h
 have eS:Tryz.prog.cellsOf 24=2:=by kernel_rfl
 have eI:Tryz.prog.cellsOf 3=1:=by kernel_rfl
 rw [eS] at hlen
 match cs,hlen,xs,hxl with
 | [c0,c1],_,[x0,x1],_=>
  have h0:DataW.trod enc Tryz.prog w base spare held n 3 ((([c0,c1]:List Value).drop 0).take (Tryz.prog.cellsOf 3))=some x0:=hf 0 _ rfl
  rw [eI] at h0
  obtain ⟨a0,rfl,w0⟩:=nC (c:=c0) h0
  have h1:DataW.trod enc Tryz.prog w base spare held n 3 ((([Value.int .i64 a0,c1]:List Value).drop 1).take (Tryz.prog.cellsOf 3))=some x1:=hf 1 _ rfl
  rw [eI] at h1
  obtain ⟨a1,rfl,w1⟩:=nC (c:=c1) h1
  exact ⟨⟨a0,a1⟩,rfl,w0,w1⟩
set_option maxRecDepth 100000 in
theorem GY {fuel:Nat} {cs:List Value} {x:DataW H × List MemPlace} (h:DataW.trod enc Tryz.prog w base spare held fuel 53 cs=some x): ∃ v:Rct,cs=aH v∧okR v:=by
 obtain ⟨xs,n,_,_,hlen,hxl,hf⟩:=DataW.trod_struct Tryz.underlying53 h
 have eS:Tryz.prog.cellsOf 53=4:=by kernel_rfl
 have eI:Tryz.prog.cellsOf 3=1:=by kernel_rfl
 rw [eS] at hlen
 match cs,hlen,xs,hxl with
 | [c0,c1,c2,c3],_,[x0,x1,x2,x3],_=>
  have h0:DataW.trod enc Tryz.prog w base spare held n 3 ((([c0,c1,c2,c3]:List Value).drop 0).take (Tryz.prog.cellsOf 3))=some x0:=hf 0 _ rfl
  rw [eI] at h0
  obtain ⟨a0,rfl,w0⟩:=nC (c:=c0) h0
  have h1:DataW.trod enc Tryz.prog w base spare held n 3 ((([Value.int .i64 a0,c1,c2,c3]:List Value).drop 1).take (Tryz.prog.cellsOf 3))=some x1:=hf 1 _ rfl
  rw [eI] at h1
  obtain ⟨a1,rfl,w1⟩:=nC (c:=c1) h1
  have h2:DataW.trod enc Tryz.prog w base spare held n 3 ((([Value.int .i64 a0,.int .i64 a1,c2,c3]:List Value).drop 2).take (Tryz.prog.cellsOf 3))=some x2:=hf 2 _ rfl
  rw [eI] at h2
  obtain ⟨a2,rfl,w2⟩:=nC (c:=c2) h2
  have h3:DataW.trod enc Tryz.prog w base spare held n 3 ((([Value.int .i64 a0,.int .i64 a1,.int .i64 a2,c3]:List Value).drop 3).take (Tryz.prog.cellsOf 3))=some x3:=hf 3 _ rfl
  rw [eI] at h3
  obtain ⟨a3,rfl,w3⟩:=nC (c:=c3) h3
  exact ⟨⟨a0,a1,a2,a3⟩,rfl,w0,w1,w2,w3⟩
set_option maxRecDepth 100000 in
theorem Jl {fuel:Nat} {cs:List Value} {x:DataW H × List MemPlace} (h:DataW.trod enc Tryz.prog w base spare held fuel 114 cs=some x): ∃ v:Pu,cs=tA v∧OB v:=by
 obtain ⟨xs,n,_,_,hlen,hxl,hf⟩:=DataW.trod_struct Tryz.underlying114 h
 have eS:Tryz.prog.cellsOf 114=3:=by kernel_rfl
 have eI:Tryz.prog.cellsOf 3=1:=by kernel_rfl
 have eT:Tryz.prog.cellsOf 9=1:=by kernel_rfl
 rw [eS] at hlen
 match cs,hlen,xs,hxl with
 | [c0,c1,c2],_,[x0,x1,x2],_=>
  have h0:DataW.trod enc Tryz.prog w base spare held n 3 ((([c0,c1,c2]:List Value).drop 0).take (Tryz.prog.cellsOf 3))=some x0:=hf 0 _ rfl
  rw [eI] at h0
  obtain ⟨a0,rfl,w0⟩:=nC (c:=c0) h0
  have h1:DataW.trod enc Tryz.prog w base spare held n 3 ((([Value.int .i64 a0,c1,c2]:List Value).drop 1).take (Tryz.prog.cellsOf 3))=some x1:=hf 1 _ rfl
  rw [eI] at h1
  obtain ⟨a1,rfl,w1⟩:=nC (c:=c1) h1
  have h2:DataW.trod enc Tryz.prog w base spare held n 9 ((([Value.int .i64 a0,.int .i64 a1,c2]:List Value).drop 2).take (Tryz.prog.cellsOf 9))=some x2:=hf 2 _ rfl
  rw [eT] at h2
  obtain ⟨a2,rfl⟩:=Nn (c:=c2) h2
  exact ⟨⟨a0,a1,a2⟩,rfl,w0,w1⟩
instance:Inhabited Pu:=⟨⟨0,0,ay⟩⟩
instance:Inhabited Rct:=⟨⟨0,0,0,0⟩⟩
set_option maxRecDepth 100000 in
theorem yf {α:Type} [Inhabited α] {encA:α→List Value} {ok:α→Prop} {t e m:Nat} {v:Value} {d:DataW H} {p:List MemPlace} (ht:Tryz.prog.underlying t=some (.slice e)) (hm:Tryz.prog.cellsOf e=m) (hm0:0<m) (hlenA: ∀ a,(encA a).length=m)
  (helem: ∀ (n:Nat) (cs:List Value) (y:DataW H × List MemPlace),DataW.trod enc Tryz.prog w 0 spare held n e cs=some y→ ∃ a,cs=encA a∧ok a)
  (hv:Value.okWide Tryz.prog w .any base t v) (h:DataW.Trod enc Tryz.prog w 0 spare held t v d p): ∃ L:List α,Reads w v L.length (L.flatMap encA)∧ ∀ a∈L,ok a:=by
 obtain ⟨fuel,hf⟩:=h
 have hc:v.cells.toList= [v]:=by
  obtain ⟨a,n,c,rfl⟩:=okWide_slice ht hv
  rfl
 rw [hc] at hf
 obtain ⟨v',L,q,h1,h2⟩:=HJ ht hm hm0 hlenA helem hf
 simp only [List.cons.injEq,and_true] at q
 subst q
 exact ⟨L,h1,h2⟩
set_option maxRecDepth 100000 in
theorem HK {v:Value} {d:DataW H} {p:List MemPlace} (hv:Value.okWide Tryz.prog w .any base 22 v) (h:DataW.Trod enc Tryz.prog w 0 spare held 22 v d p): ∃ L:List Pu,Reads w v L.length (L.flatMap tA)∧ ∀ a∈L,OB a:=
 yf Tryz.underlying22 (by kernel_rfl) (by decide) yG (fun _ _ _ h=>Jl h) hv h
set_option maxRecDepth 100000 in
theorem EM {v:Value} {d:DataW H} {p:List MemPlace} (hv:Value.okWide Tryz.prog w .any base 25 v) (h:DataW.Trod enc Tryz.prog w 0 spare held 25 v d p): ∃ L:List Rct,Reads w v L.length (L.flatMap aH)∧ ∀ a∈L,okR a:=
 yf Tryz.underlying25 (by kernel_rfl) (by decide) kO (fun _ _ _ h=>GY h) hv h
set_option maxRecDepth 100000 in
theorem Ci {v:Value} {d:DataW H} {p:List MemPlace} (hv:Value.okWide Tryz.prog w .any base 24 v) (h:DataW.Trod enc Tryz.prog w 0 spare held 24 v d p): ∃ r:Rf,v= .agg (aw r).toArray∧okF r:=by
 obtain ⟨fuel,hf⟩:=h
 obtain ⟨cs,rfl,_⟩:=okWide_struct Tryz.underlying24 hv
 obtain ⟨r,e,hr⟩:=Jk hf
 exact ⟨r,by rw [← e];simp [Value.cells],hr⟩
end
end Go.SL
namespace Go.SL
open Go Go.Proofs Go.Proofs.YtlnecnbfmnfigaaGreatDoor Go.ChangeShapes Go.WideShapes Go.ChangeAt Go.RowKit Go.Deep
def rp:List (List UInt8):= [[],[35,68,73,86,47,48,33],[35,86,65,76,85,69,33],[35,78,85,77,33],[35,78,47,65],[35,82,69,70,33],[35,67,89,67,76,69,33],[35,68,69,78,73,69,68]]
def v7:List (String × DataW Unit):= [("louvre/val.words",Rows.laid_louvre_val_words)]
theorem AO:(Rows.laid_louvre_val_words:DataW Unit)= .agg (rp.map fun l=> .lit (.string l)):=rfl
theorem IL:cM=rp.map fun l=>⟨l.toArray⟩:=rfl
set_option maxRecDepth 100000 in
theorem w6 {W:World} (h:laidMetH Tryz.prog v7 W):Words W:=by
 rw [MakeChecks.laidMetH_plain _ _ _ (by kernel_rfl)] at h
 obtain ⟨ps,⟨g,t,cs,fuel,p,q,hg,ht,hv,hd,_,_⟩,_⟩:=h
 obtain rfl:=Option.some.inj ((show Tryz.prog.globalNamed "louvre/val.words" =some 0 by kernel_rfl).symm.trans hg)
 obtain rfl:=Option.some.inj ((show (Tryz.prog.globals[0]?).map (·.type)=some 328 by kernel_rfl).symm.trans ht)
 rw [AO] at hd
 obtain ⟨xs,m,_,ex,_,hl,hel⟩:=DataW.trod_array Tryz.underlying328 hd
 have cS:Tryz.prog.cellsOf 9=1:=by kernel_rfl
 have hcell: ∀ (j:Nat) (v:Value),(cM.map Value.string)[j]? =some v→W.cell? ⟨0,0+j,none⟩=some v:=by
  intro j v hjv
  have hj:j<8:=by
   have:=(Pk.1 hjv).1
   simpa [cM] using this
  have hE:=hel j hj
  rw [cS,QD,O5 (by omega)] at hE
  obtain ⟨s,e1,e2,_⟩:=DataW.trod_string Tryz.underlying9 hE
  have e3:(xs.map (·.1))=rp.map fun l=> .lit (.string l):=(DataW.agg.inj (Prod.mk.inj ex).1).symm
  have hwl:rp.length=8:=rfl
  have e4:(xs.map (·.1))[j]? =(rp.map fun l=>(DataW.lit (.string l):DataW Unit))[j]? :=by rw [e3]
  obtain ⟨u,hu⟩: ∃ u,rp[j]? =some u:=⟨_,O5 (by rw [hwl];exact hj)⟩
  rw [Pw,Pw,O5 (by omega:j<xs.length),hu,e2] at e4
  simp only [Qb,Option.some.injEq,DataW.lit.injEq,Lit.string.injEq] at e4
  have hs:s=⟨u.toArray⟩:=by
   obtain ⟨d⟩:=s
   subst e4
   rfl
  have hvv:v= .string s:=by
   rw [IL,QQ,Pw,hu] at hjv
   simp only [Qb,Option.some.injEq,Function.comp] at hjv
   rw [← hjv,hs]
  rw [hvv,Pn,World.var?_cell hg hv j]
  have:cs.toList[j]? =some (.string s):=by
   have h0:((cs.toList.drop j).take 1)[0]? =some (.string s):=by rw [e1];rfl
   simpa using h0
  simpa using this
 refine ⟨?_,hcell⟩
 have h5:=hcell 0 _ rfl
 simp only [World.cell?] at h5
 split at h5
 ·
  rename_i h6
  exact (PL.1 h6).1
 ·
  cases h5
end Go.SL
