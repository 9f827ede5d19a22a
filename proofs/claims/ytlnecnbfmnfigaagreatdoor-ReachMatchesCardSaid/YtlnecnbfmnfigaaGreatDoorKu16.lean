/-
  Lemmas and walks, put together: C7 D1 D2 D3 S1 S2 S3 S4 D4.
-/
import Derived.Shelf.SlSortCmp.NoneTotal
import Derived.Test.YtlnecnbfmnfigaaGreatDoorKu15
set_option linter.unusedSimpArgs false
set_option linter.unusedVariables false
set_option maxRecDepth 20000
namespace Go.SL
open Go Go.Proofs
attribute [local irreducible] W WL WQ WG WA WX WLI WR WT VOp RW thn blk bZ scp bA bV ck FnAt FnIn FnP
theorem FV (p2 p3 p4:Value) (w0:World) (H:List Blk):FnD Tryz.prog 200 [p2,p3,p4] .returning w0 H H:=by
 refine OD Tryz.func200 rfl rfl Tryz.ntmps200 rfl rfl (.inl ⟨rfl,rfl⟩) ?_
 repeat' (first|(apply aj;exact rfl;apply Lh;exact rfl)|refine sT ?_|refine sM fun _=> ?_|(refine sC ?_ ?_<;>intro hb<;>try omega)|fail)
 all_goals exact ⟨by first|exact .inl rfl|exact .inr rfl,.refl _⟩
theorem FW (g2 g3 g4:Nat) (x2 x3 x4:Value) (e:Int × Int) (w0:World) (R:List Blk):
  FnD Tryz.prog 200 [.pointer (some ⟨g2,0,none⟩),.pointer (some ⟨g3,0,none⟩),.pointer (some ⟨g4,0,none⟩)] (.panicking (jI (zY e))) w0
   (.box g2 69 [x2]:: .box g3 3 [x3]:: .box g4 33 [x4]::R)
   (.box g2 69 [.slice none 0 0]:: .box g3 3 [.int .i64 e.1]:: .box g4 33 [.int .i64 e.2]::R):=by
 refine OD Tryz.func200 rfl rfl Tryz.ntmps200 rfl rfl (.inr rfl) ?_
 repeat' (first|(apply aj;exact rfl;apply Lg;exact rfl)|(apply aj;exact rfl;apply zm;exact rfl;exact rfl)|(rename_i g;refine Ba (id:=7) [⟨4,g2,69,x2,.slice none 0 0⟩,⟨5,g3,3,x3,.int .i64 e.1⟩,⟨6,g4,33,x4,.int .i64 e.2⟩] (.box g 286 [.int .i64 e.1,.int .i64 e.2]::R) (by kernel_rfl) (by kernel_rfl) rfl mS ?_)|(apply K4;exact rfl;exact rfl;(exact vC))|(refine ow [] [⟨5,g3,3,x3,.int .i64 e.1⟩,⟨6,g4,33,x4,.int .i64 e.2⟩] ⟨4,g2,69,x2,.slice none 0 0⟩ rfl rfl rfl rfl rfl rfl ?_)|(refine ow [⟨4,g2,69,x2,.slice none 0 0⟩] [⟨6,g4,33,x4,.int .i64 e.2⟩] ⟨5,g3,3,x3,.int .i64 e.1⟩ rfl rfl rfl rfl rfl rfl ?_)|(refine ow [⟨4,g2,69,x2,.slice none 0 0⟩,⟨5,g3,3,x3,.int .i64 e.1⟩] [] ⟨6,g4,33,x4,.int .i64 e.2⟩ rfl rfl rfl rfl rfl rfl ?_)|apply zf|refine sT ?_|refine sG ?_|refine sM fun _=> ?_|(refine sC ?_ ?_<;>intro hb<;>try omega)|fail)
 refine ⟨.inr rfl,?_⟩
 simp only [PB,P3,BoxT.post,O3,O4]
 exact mS
def bT (x:List Tk × Int × Int) (fin:Int):List Nd × Int × Int:=
 if x.2.2≠0 then ([],x.2.1,x.2.2)
 else match bD fin (20*x.1.length+40) (.level 1) ⟨x.1,[]⟩ with
  |none=>([],0,0)
  |some (.error (a,e))=>([],a,e)
  |some (.ok (_,p))=>
   if (hdT fin p.l).kind≠0 then ([],(hdT fin p.l).at_,4)
   else if dB p.out≠0 then ([],0,dB p.out)
   else (p.out,0,0)
theorem Br {tk:List Int→Option (Tk × Nat)} {l:List Int} (f:Nat): ∀ (i:Nat) (r:List Tk),bo tk l f i= .ok r→r.length≤f:=by
 induction f with
 |zero=>intro i r h;simp only [bo,Except.ok.injEq] at h;subst h;exact Ph _
 |succ f ih=>
  intro i r h
  simp only [bo] at h
  split at h
  ·
   cases h;exact Pb _
  ·
   split at h
   ·
    exact Sj (ih _ _ h)
   ·
    split at h
    ·
     cases h
    ·
     rename_i t n _
     cases hr:bo tk l f (i+n) with
     |error e=>rw [hr] at h;cases h
     |ok r' =>
      rw [hr] at h
      cases h
      exact Nat.succ_le_succ (ih _ _ hr)
theorem nD (tk:List Int→Option (Tk × Nat)) (l:List Int):(bw tk l).1.length≤256:=by
 unfold bw
 split
 ·
  exact Pb _
 ·
  split
  ·
   exact Pb _
  ·
   split
   ·
    rename_i h
    have:=Br _ _ _ h
    dsimp only
    omega
   ·
    exact Pb _
theorem At.start (toks:List Tk) (A:Option Nat) (cap:Nat):At toks A cap ⟨toks,[]⟩ (sl A toks.length cap):=
 ⟨0,Pb _,rfl,Ph _,A.map fun g=>⟨g,0,none⟩,by simp [sl],fun _=>by simp⟩
def FO (A:Option Nat) (cap:Nat) (r:List Nd × Int × Int):Value:= .tuple #[sl A r.1.length cap,.int .i64 r.2.1,.int .i64 r.2.2]
set_option maxHeartbeats 4000000 in
theorem Fw (a:ByteArray) (w:World) (hW:Words w) (r:List Nd × Int × Int) (hr:r=bT (bw dA (ap a)) (a.size:Int)):
  FnAt Tryz.prog 152 [.string a] w fun v H=> ∃ A cap,v=FO A cap r∧H= [.own A 157 11 r.1.length cap (r.1.flatMap bg)]:=by
 refine L8 Tryz.func152 rfl Tryz.ntmps152 rfl ?_
 have htl:=nD dA (ap a)
 have hT:=fun w' (hm:Σ' H,Mem w w' H)=>Iw a w' (hW.next hm.2)
 obtain ⟨⟨toks,at0,e0⟩,hx⟩: ∃ x,bw dA (ap a)=x:=⟨_,rfl⟩
 rw [hx] at hr htl
 simp only [hx,FP] at hT
 dsimp only at htl
 refine xY 157 11 ?_
 refine xY 157 11 ?_
 refine Jv (fun e a w _ h=>Kn h) ?_
 obtain ⟨r1,hr1,_⟩:=rM (a.size:Int) (20*toks.length+40) (.level 1) ⟨toks,[]⟩ ⟨by omega,by omega⟩ (by simp [Job.c])
 have hP: ∀ (A:Option Nat) (cap g:Nat) (R:List Blk),toks.length≤cap→FnP Tryz.prog 201 [.pointer (some ⟨g,0,none⟩)] w (pB g (sl A toks.length cap) A cap (a.size:Int) toks none 0 []++R) (PR toks A cap (a.size:Int) g R r1) (PD R r1):=fun A cap g R hc=>
  (HG (20*toks.length+40)).2.2.2.2 toks A cap (a.size:Int) g ⟨toks,[]⟩ (sl A toks.length cap) none 0 r1 R w hc (by omega) (At.start toks A cap) hr1
 obtain ⟨ff,hff⟩: ∃ ff,20*toks.length+40=ff:=⟨_,rfl⟩
 rw [hff] at hr1
 repeat' (first|(apply aS (f:=199);exact rfl;exact rfl;exact fun w' hm=>hT w' ⟨_,hm⟩;rintro _ _ ⟨A,cap,rfl,rfl⟩)|(rename_i g2 g3 g4;refine Jw (cs:= [_,_,_]) rfl rfl ?_)|(refine Jv (fun e a w _ h=>Kn h) ?_)|(refine Nq (fun e a w h=>NJ h) ?_)|(rename_i g2 g3 g4;refine Ba (id:=3) [⟨2,g2,69,.slice none 0 0,.slice none 0 0⟩,⟨3,g3,3,.int .i64 at0,.int .i64 at0⟩,⟨4,g4,33,.int .i64 e0,.int .i64 e0⟩] [.own none 157 11 0 0 []] (by kernel_rfl) (by kernel_rfl) rfl mS ?_)|(refine ow [] [⟨3,g3,3,.int .i64 at0,.int .i64 at0⟩,⟨4,g4,33,.int .i64 e0,.int .i64 e0⟩] ⟨2,g2,69,.slice none 0 0,.slice none 0 0⟩ rfl rfl rfl rfl rfl rfl ?_)|(refine ow [⟨2,g2,69,.slice none 0 0,.slice none 0 0⟩] [⟨4,g4,33,.int .i64 e0,.int .i64 e0⟩] ⟨3,g3,3,.int .i64 at0,.int .i64 at0⟩ rfl rfl rfl rfl rfl rfl ?_)|(refine ow [⟨2,g2,69,.slice none 0 0,.slice none 0 0⟩,⟨3,g3,3,.int .i64 at0,.int .i64 at0⟩] [] ⟨4,g4,33,.int .i64 e0,.int .i64 e0⟩ rfl rfl rfl rfl rfl rfl ?_)|(refine FE ⟨3,g3,3,.int .i64 at0,.int .i64 at0⟩ (.tail _ (.head _)) (f:=60) (j:=3) rfl (by decide+kernel) rfl rfl rfl ?_)|(refine FE ⟨4,g4,33,.int .i64 e0,.int .i64 e0⟩ (.tail _ (.tail _ (.head _))) (f:=60) (j:=4) rfl (by decide+kernel) rfl rfl rfl ?_)|apply zf|(apply aj;exact rfl;apply mB;exact rfl)|(apply aj;exact rfl;apply dr;exact rfl)|(apply GF (f:=201);exact rfl;exact rfl;infer_instance;exact rfl;rename_i gp;exact FnP.own (A:=A) pK (fun hcap=>FnP.msub (hP A cap _ _ hcap) (MSub.pick pK (MSub.pick pK (MSub.pick pK (MSub.refl _))))))|(rintro _ _ ⟨rfl,n,p',lv',B',cb',rfl,h2,rfl⟩;obtain ⟨u,hu⟩: ∃ u,hdT (a.size:Int) p'.l=u:=⟨_,rfl⟩)|(rintro _ _ ⟨e,rfl,rfl,h3⟩)|(apply aa (f:=202);exact rfl;exact rfl;(intro w' hm';exact At.head' (B:=B') (cb:=cb') (out:=p'.out) (fin:=(a.size:Int)) h2 hu (MSub.pick pK (MSub.pick pK (MSub.pick pK (MSub.nil _)))) w' hm'))|(apply aa (f:=153);exact rfl;exact rfl;(intro w' hm';exact Dr p'.out _ w' (Reads.of_own (A:=B') hm' pK)))|(refine bS (f:=203) rfl rfl (jy _ _ _ _ _ (fun _ _=>False)) ?_ ?_)|(exact fun _ _ h=>h.elim)|(rintro _ _ ⟨rfl,rfl⟩)|refine sT ?_|refine sP ?_|refine sG ?_|refine sM fun _=> ?_|(refine sC ?_ ?_<;>intro hb<;>try omega)|fail)
 ·
  have hr' :r=([],at0,e0):=by rw [hr];simp [bT,hb]
  subst hr'
  simp only [PB,P3,BoxT.post,O3,O4]
  exact qx (.inl rfl) rfl rfl pK rfl pK rfl pK (H' := [.own none 157 11 0 0 []]) mS ⟨none,0,rfl,rfl⟩
 ·
  rename_i he0 gp _ u0 hu0 g1
  have hr' :r=([],u0.at_,4):=by rw [hr];simp [bT,hff,hr1,hu0,hb,Classical.not_not.1 he0]
  subst hr'
  refine ⟨_,.box g2 69 [.slice none 0 0]:: .box g3 3 [.int .i64 at0]:: .box g4 33 [.int .i64 e0]:: [.own none 157 11 0 0 []],_,rfl,?_,FW g2 g3 g4 _ _ _ (u0.at_,4) w _,qx (.inl rfl) rfl rfl pK rfl pK rfl pK (H' := [.own none 157 11 0 0 []]) mS ⟨none,0,rfl,rfl⟩⟩
  simp only [O8,O3,O4,pB]
  exact mS
 ·
  rename_i he0 gp _ g1 hb1
  have hr' :r=([],0,dB p'.out):=by rw [hr];simp [bT,hff,hr1,hu,Classical.not_not.1 hb1,hb,Classical.not_not.1 he0]
  subst hr'
  exact ⟨.returning,_,_,rfl,.refl _,FV _ _ _ _ _,qx (.inl rfl) rfl rfl pK rfl pK rfl pK (H' := [.own none 157 11 0 0 []]) mS ⟨none,0,rfl,rfl⟩⟩
 ·
  rename_i he0 gp _ g1 hb1
  have hr' :r=(p'.out,0,0):=by rw [hr];simp [bT,hff,hr1,hu,Classical.not_not.1 hb1,Classical.not_not.1 hb,Classical.not_not.1 he0]
  subst hr'
  exact ⟨.returning,_,_,rfl,.refl _,FV _ _ _ _ _,qx (.inl rfl) rfl rfl pK rfl pK rfl pK (H' := [.own B' 157 11 p'.out.length cb' (p'.out.flatMap bg)]) mS ⟨B',cb',rfl,rfl⟩⟩
 ·
  have hr' :r=([],e.1,e.2):=by rw [hr];simp [bT,hff,hr1,Classical.not_not.1 hb]
  subst hr'
  refine ⟨_,.box g2 69 [.slice none 0 0]:: .box g3 3 [.int .i64 at0]:: .box g4 33 [.int .i64 e0]:: [.own none 157 11 0 0 []],_,rfl,MSub.trans ?_ h3,FW g2 g3 g4 _ _ _ e w _,qx (.inl rfl) rfl rfl pK rfl pK rfl pK (H' := [.own none 157 11 0 0 []]) mS ⟨none,0,rfl,rfl⟩⟩
  exact mS
def kP (a b:ByteArray):ByteArray × Bool:=if (ap a).take b.size=ap b then (sub a b.size a.size,true) else (a,false)
theorem Mm (a b:ByteArray) (ha:a.size≤1000000) (w:World):aF Tryz.prog 188 [.string a,.string b] w (.tuple #[.string (kP a b).1,.bool (kP a b).2]):=by
 refine aA Tryz.func188 rfl Tryz.ntmps188 rfl ?_
 have hp:=pg a b
 unfold kP
 by_cases h:(ap a).take b.size=ap b
 ·
  rw [if_pos h]
  rw [decide_eq_true h] at hp
  have hb:b.size≤a.size:=by
   have:=congrArg List.length h
   rw [Pr,au,au] at this
   omega
  repeat' (first|(apply aa;exact rfl;exact rfl;(intro w hm;exact hp w))|refine sT ?_|refine sT2 ?_|refine sM fun _=> ?_|(refine sC ?_ ?_<;>intro hb<;>try omega)|fail)
  all_goals exact cN eIO rfl rfl rfl (.refl _) rfl
 ·
  rw [if_neg h]
  rw [decide_eq_false h] at hp
  repeat' (first|(apply aa;exact rfl;exact rfl;(intro w hm;exact hp w))|refine sT ?_|refine sT2 ?_|refine sM fun _=> ?_|(refine sC ?_ ?_<;>intro hb<;>try omega)|fail)
  all_goals exact cN eIO rfl rfl rfl (.refl _) rfl
theorem Kq (a b:ByteArray) (ha:a.size≤1000000) (w:World):aF Tryz.prog 150 [.string a,.string b] w (.tuple #[.string (kP a b).1,.bool (kP a b).2]):=by
 refine aA Tryz.func150 rfl Tryz.ntmps150 rfl ?_
 repeat' (first|(apply aa;exact rfl;exact rfl;(intro w hm;exact Mm a b ha w))|refine sT ?_|refine sM fun _=> ?_|(refine sC ?_ ?_<;>intro hb<;>try omega)|fail)
 all_goals exact cN eIO rfl rfl rfl (.refl _) rfl
def Lz (b:ByteArray):Vl × Bool:=(bR,decide (b=ay))
def vB:ByteArray:=⟨#[39]⟩
def Lw (b:ByteArray):Vl × Bool:=(⟨3,0,(kP b vB).1⟩,(kP b vB).2)
def Jj (b:ByteArray):Vl × Bool:=(jc ⟨3,0,b⟩,decide ((jc ⟨3,0,b⟩).kind=2))
def DR (b:ByteArray):Vl × Bool:=(gF (iN b).1,decide ((iN b).2=0) && decide ((iN b).1≤5))
def GW (b:ByteArray):Vl × Bool:=if (gR (ap b)).2=3 then (gF 3,true) else (vX (gR (ap b)).1,decide ((gR (ap b)).2=0))
def Bn (x:Vl × Bool):Value:= .tuple #[.agg (dN x.1).toArray,.bool x.2]
theorem Ly (b:ByteArray) (g:Nat) (w:World) (hr:Ro w g 0 [.string b]):aF Tryz.prog 189 [.pointer (some ⟨g,0,none⟩)] w (Bn (Lz b)):=by
 refine aA Tryz.func189 rfl Tryz.ntmps189 rfl ?_
 have hm:Mem w w []:=Mem.refl w
 repeat' (first|(rename_i g1;refine kW (id:=1) 3 [.box g1 155 (dN bR)] (by kernel_rfl) (by kernel_rfl) rfl ?_)|(apply AV;exact rfl;(intro D ht;apply aN (o:=0) (off:=0);exact hr;exact rfl;exact rfl);exact fun _=>rfl)|(apply sv;exact rfl;exact rfl;exact pK;(iterate 3 exact rfl);decide;exact .refl _)|refine sT ?_|refine sG ?_|refine sM fun _=> ?_|(refine sC ?_ ?_<;>intro hb<;>try omega)|fail)
 all_goals ((refine lI ?_);rfl)
theorem Lt (b:ByteArray) (hb:b.size≤1000000) (g:Nat) (w:World) (hr:Ro w g 0 [.string b]):aF Tryz.prog 190 [.pointer (some ⟨g,0,none⟩)] w (Bn (Lw b)):=by
 refine aA Tryz.func190 rfl Tryz.ntmps190 rfl ?_
 repeat' (first|(apply aj;exact rfl;apply aN (o:=0) (off:=0);exact hr;exact rfl;exact rfl)|(apply aa;exact rfl;exact rfl;(intro w hm;exact Kq b vB hb w))|refine sT ?_|refine sM fun _=> ?_|(refine sC ?_ ?_<;>intro hb<;>try omega)|fail)
 all_goals ((refine lI ?_);rfl)
theorem Ls (b:ByteArray) (hb:b.size≤1000000) (g:Nat) (w:World) (hr:Ro w g 0 [.string b]):aF Tryz.prog 191 [.pointer (some ⟨g,0,none⟩)] w (Bn (Jj b)):=by
 refine aA Tryz.func191 rfl Tryz.ntmps191 rfl ?_
 have hT:=fun w' =>Iy ⟨3,0,b⟩ rfl hb w'
 unfold Jj
 generalize jc ⟨3,0,b⟩=v at hT
 repeat' (first|(apply aj;exact rfl;apply aN (o:=0) (off:=0);exact hr;exact rfl;exact rfl)|(apply aa;exact rfl;exact rfl;(intro w hm;exact hT w))|(rename_i g1 g2;refine qd (id:=2) (g:=g1) (T:=155) (xs' :=dN v) (R:= [.box g2 155 (dN v)]) (fun D=> [if D 4 then .int .u8 v.kind else .int .u8 0,if D 4 then .int .i64 v.num else .int .i64 0,if D 4 then .string v.text else .string ay]) (by kernel_rfl) (by kernel_rfl) pK rfl (by intro D hD;simp [hD 4 (by decide),dN]) ?_)|refine sT ?_|refine sG ?_|refine sM fun _=> ?_|(refine sC ?_ ?_<;>intro hb<;>try omega)|fail)
 all_goals ((refine lI ?_);rfl)
theorem Ln (b:ByteArray) (hb:b.size≤1000000) (g:Nat) (w:World) (hr:Ro w g 0 [.string b]) (hW:Words w):aF Tryz.prog 193 [.pointer (some ⟨g,0,none⟩)] w (Bn (DR b)):=by
 refine aA Tryz.func193 rfl Tryz.ntmps193 rfl ?_
 unfold DR
 have hC:=fun (w' :World) (h:Words w')=>ME b hb w' h
 generalize iN b=x at hC
 obtain ⟨c,e⟩:=x
 repeat' (first|(apply aj;exact rfl;apply aN (o:=0) (off:=0);exact hr;exact rfl;exact rfl)|(apply aa (f:=194);exact rfl;exact rfl;(intro w' hm';exact hC w' (hW.next hm')))|(apply aa (f:=195);exact rfl;exact rfl;(intro w' hm';exact mY c w'))|refine sT ?_|refine sM fun _=> ?_|(refine sC ?_ ?_<;>intro hb<;>try omega)|fail)
 all_goals ((refine lI ?_);simp_all [Bn,dN])
theorem Lm (b:ByteArray) (hb:b.size≤1000000) (g:Nat) (w:World) (hr:Ro w g 0 [.string b]):aF Tryz.prog 196 [.pointer (some ⟨g,0,none⟩)] w (Bn (GW b)):=by
 refine aA Tryz.func196 rfl Tryz.ntmps196 rfl ?_
 unfold GW
 have hC:=fun (w' :World)=>tB b hb w'
 generalize gR (ap b)=x at hC
 obtain ⟨n,e⟩:=x
 repeat' (first|(apply aj;exact rfl;apply aN (o:=0) (off:=0);exact hr;exact rfl;exact rfl)|(apply aa;exact rfl;exact rfl;(intro w hm;exact hC w))|(apply aa (f:=195);exact rfl;exact rfl;(intro w' hm';exact mY 3 w'))|(apply aa (f:=198);exact rfl;exact rfl;(intro w' hm';exact MB n w'))|refine sT ?_|refine sM fun _=> ?_|(refine sC ?_ ?_<;>intro hb<;>try omega)|fail)
 all_goals ((refine lI ?_);simp_all [Bn,dN])
def Gg:List Nat:= [189,190,191,193,196]
def uS:List (ByteArray→Vl × Bool):= [Lz,Lw,Jj,DR,GW]
def eW (b:ByteArray):List (ByteArray→Vl × Bool)→Vl
 | []=>⟨3,0,b⟩
 |t::r=>if (t b).2 then (t b).1 else eW b r
def sj (b:ByteArray):Vl:=eW b uS
theorem Jm (b:ByteArray) (hb:b.size≤1000000) (g k:Nat) (hk:k<5): ∃ f t,uS.drop k=t::uS.drop (k+1)∧(Gg.map fun f=>Value.func (.func f) #[] #[.pointer (some ⟨g,0,none⟩)])[k]? =some (.func (.func f) #[] #[.pointer (some ⟨g,0,none⟩)])∧Callable Tryz.prog f∧
  ∀ w,Ro w g 0 [.string b]→Words w→aF Tryz.prog f [.pointer (some ⟨g,0,none⟩)] w (Bn (t b)):=by
 rcases (by omega:k=0∨k=1∨k=2∨k=3∨k=4) with rfl|rfl|rfl|rfl|rfl
 ·
  exact ⟨_,_,rfl,rfl,inferInstance,fun w hr _=>Ly b g w hr⟩
 ·
  exact ⟨_,_,rfl,rfl,inferInstance,fun w hr _=>Lt b hb g w hr⟩
 ·
  exact ⟨_,_,rfl,rfl,inferInstance,fun w hr _=>Ls b hb g w hr⟩
 ·
  exact ⟨_,_,rfl,rfl,inferInstance,fun w hr hW=>Ln b hb g w hr hW⟩
 ·
  exact ⟨_,_,rfl,rfl,inferInstance,fun w hr _=>Lm b hb g w hr⟩
set_option maxHeartbeats 1000000 in
theorem Df (b:ByteArray) (hb:b.size≤1000000) (w:World) (hW:Words w):aF Tryz.prog 151 [.string b] w (.agg (dN (sj b)).toArray):=by
 refine aA Tryz.func151 rfl Tryz.ntmps151 rfl ?_
 repeat' (first|refine sT ?_|refine sS ?_|refine sM fun _=> ?_|(refine sC ?_ ?_<;>intro hb<;>try omega)|fail)
 rename_i g1 g2 g3
 refine ax [1,2,13,14] rfl (fun x:Nat × Vl=> [(4,.bool false),(15,.int .i64 (x.1:Int))]) (fun x=> [.own (some g3) 275 1 5 5 (Gg.map fun f=>Value.func (.func f) #[] #[.pointer (some ⟨g1,0,none⟩)]),.box g2 155 (dN x.2),.box g1 9 [.string b]]) (fun x=>x.1≤5∧sj b=eW b (uS.drop x.1)) (fun x=>5 - x.1) (0,bR) ⟨by omega,rfl⟩ sB mS ?_
 rintro ⟨k,v⟩ ⟨hk,hkt⟩
 dsimp only at hk hkt ⊢
 by_cases hk5:k<5
 ·
  obtain ⟨f,t,r1,r2,r3,r4⟩:=Jm b hb g1 k hk5
  rw [r1,eW] at hkt
  obtain ⟨⟨v',is⟩,ht⟩: ∃ x,t b=x:=⟨_,rfl⟩
  rw [ht] at hkt r4
  cases is with
  |true=>
   rw [if_pos rfl] at hkt
   repeat' (first|(apply aj;exact rfl;apply ag (j:=k);exact rfl;exact rfl;exact hk5)|(apply aj;exact rfl;apply aC (off:=0+k*1);exact rfl;exact pK;(rw [Pn,QD];exact r2))|(apply iP;exact rfl;exact rfl;exact r3;exact rfl;(intro w' hm;exact r4 w' (Ro.of_box hm pK) (hW.next hm)))|refine sT ?_|refine sS ?_|refine sN ?_|refine sM fun _=> ?_|(refine sC ?_ ?_<;>intro hb<;>try omega)|fail)
   all_goals (rw [hkt];(refine eRC ?_);rfl)
  |false=>
   rw [if_neg (by simp)] at hkt
   repeat' (first|(apply aj;exact rfl;apply ag (j:=k);exact rfl;exact rfl;exact hk5)|(apply aj;exact rfl;apply aC (off:=0+k*1);exact rfl;exact pK;(rw [Pn,QD];exact r2))|(apply iP;exact rfl;exact rfl;exact r3;exact rfl;(intro w' hm;exact r4 w' (Ro.of_box hm pK) (hW.next hm)))|refine sT ?_|refine sS ?_|refine sN ?_|refine sM fun _=> ?_|(refine sC ?_ ?_<;>intro hb<;>try omega)|fail)
   refine ⟨(k+1,v'),?_,(by first|omega|(dsimp only;omega)),sB,sB,mS⟩
   exact ⟨hk5,hkt⟩
 ·
  have e:k=5:=by omega
  subst e
  have hkt:sj b=⟨3,0,b⟩:=hkt
  rw [hkt]
  repeat' (first|refine sT ?_|refine sS ?_|refine sN ?_|refine sM fun _=> ?_|(refine sC ?_ ?_<;>intro hb<;>try omega)|fail)
  all_goals first|(exfalso;omega)|((refine eRC ?_);rfl)
theorem NI {a:ByteArray} {i:Nat} (h:i<a.size):jF (sub a i (i+1))=if bL (bat a i) then 0 else 4:=by
 have h1:ap (sub a i (i+1))= [bat a i]:=by
  rw [eF,bn h,Nat.add_sub_cancel_left]
  rfl
 have h2:(sub a i (i+1)).size=1:=by rw [cD a (by omega)];omega
 simp only [jF,h2,nN,h1]
 cases h:bL (bat a i)<;>simp [h]
structure Mn where
 formula:Bool
 v:Vl
 tree:List Nd
def eqB:ByteArray:=⟨#[61]⟩
def rl:Mn:=⟨false,bR,[]⟩
def ofP (b:ByteArray):Mn × Int × Int:=
 if 256<b.size then (rl,0,5)
 else match (ap b).findIdx? (fun c=> !bL c) with
  |some i=>(rl,(i:Int),4)
  |none=>
   if (kP b eqB).2=false then (⟨false,sj b,[]⟩,0,0)
   else match bT (bw dA (ap (kP b eqB).1)) ((kP b eqB).1.size:Int) with
    |(t,at_,e)=>if e≠0 then (rl,IntKind.i64.wrap (at_+1),e) else (⟨true,bR,t⟩,0,0)
def z7 (m:Mn) (tv:Value):List Value:= [.bool m.formula,.int .u8 m.v.kind,.int .i64 m.v.num,.string m.v.text,tv]
def ofV (A:Option Nat) (cap:Nat) (r:Mn × Int × Int):Value:= .tuple #[.agg (z7 r.1 (sl A r.1.tree.length cap)).toArray,.int .i64 r.2.1,.int .i64 r.2.2]
set_option maxHeartbeats 2000000 in
theorem MR (b:ByteArray) (w:World) (hW:Words w):FnAt Tryz.prog 110 [.string b] w fun v H=> ∃ A cap,v=ofV A cap (ofP b)∧H= [.own A 157 11 (ofP b).1.tree.length cap ((ofP b).1.tree.flatMap bg)]:=by
 refine aA Tryz.func110 rfl Tryz.ntmps110 rfl ?_
 refine aK 157 11 ?_
 unfold ofP
 by_cases hlen:256<b.size
 ·
  rw [if_pos hlen]
  repeat' (first|refine sT ?_|refine sS ?_|refine sT2 ?_|refine sM fun _=> ?_|(refine sC ?_ ?_<;>intro hb<;>try omega)|fail)
  all_goals first
   |(exfalso;omega)
   |exact fZ (.inl rfl) rfl rfl pK rfl rfl rfl (H' := [.own none 157 11 0 0 []]) mS ⟨none,0,rfl,rfl⟩
 rw [if_neg hlen]
 repeat' (first|refine sT ?_|refine sS ?_|refine sT2 ?_|refine sM fun _=> ?_|(refine sC ?_ ?_<;>intro hb<;>try omega)|fail)
 all_goals try (exfalso;omega)
 rename_i g2
 refine ax [0,2,14] rfl (fun i:Nat=> [(15,.int .i64 (i:Int))]) (fun _=> [.box g2 204 [.bool false,.int .u8 0,.int .i64 0,.string ay,.slice none 0 0],.own none 157 11 0 0 []]) (fun i=>i≤b.size∧ ∀ j,j<i→bL (bat b j)=true) (fun i=>b.size - i) 0 ⟨by omega,fun j h=>by omega⟩ sB mS ?_
 rintro i ⟨hi,hpl⟩
 by_cases hlt:i<b.size
 ·
  have hg:=NI hlt
  have hG:=fun w=>CK (sub b i (i+1)) w
  rw [hg] at hG
  by_cases hc:bL (bat b i)=true
  ·
   rw [if_pos hc] at hG
   repeat' (first|(apply aj;exact rfl;apply fW;(iterate 3 exact rfl);exact ⟨by omega,by omega⟩)|(apply aa;exact rfl;exact rfl;(intro w hm;exact hG w))|refine sT ?_|refine sS ?_|refine sT2 ?_|refine sN ?_|refine sM fun _=> ?_|(refine sC ?_ ?_<;>intro hb<;>try omega)|fail)
   all_goals try (exfalso;omega)
   refine ⟨i+1,?_,(by first|omega|(dsimp only;omega)),sB,sB,mS⟩
   refine ⟨hlt,fun j hj=> ?_⟩
   rcases (by omega:j<i∨j=i) with h|rfl
   ·
    exact hpl j h
   ·
    exact hc
  ·
   rw [if_neg hc] at hG
   repeat' (first|(apply aj;exact rfl;apply fW;(iterate 3 exact rfl);exact ⟨by omega,by omega⟩)|(apply aa;exact rfl;exact rfl;(intro w hm;exact hG w))|refine sT ?_|refine sS ?_|refine sT2 ?_|refine sN ?_|refine sM fun _=> ?_|(refine sC ?_ ?_<;>intro hb<;>try omega)|fail)
   all_goals try (exfalso;omega)
   have hf:(ap b).findIdx? (fun c=> !bL c)=some i:=n8 hlt (by simp [hc]) fun j hj=>by rw [hpl j hj];rfl
   rw [hf]
   exact fZ (.inl rfl) rfl rfl pK rfl rfl rfl (H' := [.own none 157 11 0 0 []]) mS ⟨none,0,rfl,rfl⟩
 ·
  have e:i=b.size:=by omega
  subst e
  have hf:(ap b).findIdx? (fun c=> !bL c)=none:=mM fun j hj=>by rw [hpl j hj];rfl
  rw [hf]
  dsimp only
  have hcut:=fun w=>Kq b eqB (by omega) w
  obtain ⟨⟨rest,is⟩,hx⟩: ∃ x,kP b eqB=x:=⟨_,rfl⟩
  rw [hx] at hcut ⊢
  cases is with
  |false=>
   rw [if_pos rfl]
   repeat' (first|(apply aa;exact rfl;exact rfl;(intro w hm;exact hcut w))|(apply aa (f:=151);exact rfl;exact rfl;(intro w' hm';exact Df b (by omega) w' (hW.next hm')))|refine sT ?_|refine sS ?_|refine sT2 ?_|refine sN ?_|refine sM fun _=> ?_|(refine sC ?_ ?_<;>intro hb<;>try omega)|fail)
   all_goals try (exfalso;omega)
   exact fZ (.inl rfl) rfl rfl pK rfl rfl rfl (H' := [.own none 157 11 0 0 []]) mS ⟨none,0,rfl,rfl⟩
  |true=>
   rw [if_neg (by simp)]
   dsimp only
   have hF:=fun (w' :World) (h:Words w')=>Fw rest w' h _ rfl
   obtain ⟨⟨t,at0,e0⟩,hr⟩: ∃ x,bT (bw dA (ap rest)) (rest.size:Int)=x:=⟨_,rfl⟩
   simp only [hr,FO] at hF
   rw [hr]
   dsimp only
   by_cases he:e0≠0
   ·
    rw [if_pos he]
    repeat' (first|(apply aa;exact rfl;exact rfl;(intro w hm;exact hcut w))|(apply aS (f:=152);exact rfl;exact rfl;(intro w' hm';exact hF w' (hW.next hm'));rintro _ _ ⟨A,cap,rfl,rfl⟩)|(apply aj;exact rfl;apply uN;exact rfl;exact rfl)|refine sT ?_|refine sS ?_|refine sT2 ?_|refine sN ?_|refine sM fun _=> ?_|(refine sC ?_ ?_<;>intro hb<;>try omega)|fail)
    all_goals try (exfalso;omega)
    exact fZ (.inl rfl) rfl rfl pK rfl rfl rfl (H' := [.own none 157 11 0 0 []]) mS ⟨none,0,rfl,rfl⟩
   ·
    rw [if_neg he]
    repeat' (first|(apply aa;exact rfl;exact rfl;(intro w hm;exact hcut w))|(apply aS (f:=152);exact rfl;exact rfl;(intro w' hm';exact hF w' (hW.next hm'));rintro _ _ ⟨A,cap,rfl,rfl⟩)|(apply aj;exact rfl;apply uN;exact rfl;exact rfl)|refine sT ?_|refine sS ?_|refine sT2 ?_|refine sN ?_|refine sM fun _=> ?_|(refine sC ?_ ?_<;>intro hb<;>try omega)|fail)
    all_goals try (exfalso;omega)
    exact fZ (.inl rfl) rfl rfl pK rfl rfl rfl (H' := [.own A 157 11 t.length cap (t.flatMap bg)]) mS ⟨A,cap,rfl,rfl⟩
def gO (a b:Rf):Int:=if bp a b then -1 else if bp b a then 1 else 0
end Go.SL
namespace Go.Proofs
open Go Go.Shelf Go.RowKit Go.Lib Go.Sort Go.SL
set_option maxHeartbeats 1000000 in
theorem Tryz.lessX (a b:Rf) (W:World):Calls Tryz.prog 133 #[.agg #[.int .i64 a.col,.int .i64 a.row],.agg #[.int .i64 b.col,.int .i64 b.row]] W fun e w' =>e= .returned (.bool (bp a b))∧ ∃ q os',w' =grow (W.drewN q) os' :=by
 go_enter Tryz.func133,Tryz.ntmps133
 go_wp2
 all_goals
  rename_i h
  go_ret
  refine ⟨?_,0,_,by rw [alloc_eq_grow,alloc_eq_grow,grow_grow];rfl⟩
  first
   |(congr 2;simp_all [bp];done)
   |(congr 2;simp only [bp];simp;omega)
   |trace_state
def Lays (W w' :World):Prop:= ∃ q os',w' =grow (W.drewN q) os'
theorem Lays.refl (W:World):Lays W W:=⟨0,#[],by simp [grow,World.drewN]⟩
theorem Lays.alloc {W X:World} (h:Lays W X) (o:Obj):Lays W (X.alloc o):=by
 obtain ⟨q,os,rfl⟩:=h
 refine ⟨q,os.push o,?_⟩
 show ({ W with heap:=(W.heap++os).push o,drawn:=W.drawn+q }:World)={ W with heap:=W.heap++os.push o,drawn:=W.drawn+q }
 rw [Array.append_push]
theorem Lays.grow {W X:World} (h:Lays W X) (q2:Nat) (os2:Array Obj):Lays W (Go.Sort.grow (X.drewN q2) os2):=by
 obtain ⟨q,os,rfl⟩:=h
 refine ⟨q+q2,os++os2,?_⟩
 show ({ W with heap:=(W.heap++os)++os2,drawn:=W.drawn+q+q2 }:World)={ W with heap:=W.heap++(os++os2),drawn:=W.drawn+(q+q2) }
 rw [Array.append_assoc,Qf]
set_option maxHeartbeats 1000000 in
theorem Tryz.orderX (a b:Rf) (W:World):Calls Tryz.prog 91 #[.agg #[.int .i64 a.col,.int .i64 a.row],.agg #[.int .i64 b.col,.int .i64 b.row]] W fun e w' =>e= .returned (.int .i64 (gO a b))∧ ∃ q os',w' =grow (W.drewN q) os' :=by
 unfold gO
 have c1: ∀ q os,(grow (((W.alloc (Obj.cells #[Value.int IntKind.i64 a.col,Value.int IntKind.i64 a.row] 24)).alloc (Obj.cells #[Value.int IntKind.i64 b.col,Value.int IntKind.i64 b.row] 24)).drewN q) os).cell? ⟨W.heap.size,0,none⟩=some (.int .i64 a.col):=fun q os=>by
  refine cell_grown (by show W.heap.size<((W.heap.push _).push _).size;rw [PX,PX];omega) ?_ q os
  have e: ∀ o1 o2:Obj,((W.alloc o1).alloc o2).heap[W.heap.size]? =some o1:=fun o1 o2=>by
   show ((W.heap.push o1).push o2)[W.heap.size]? =_
   rw [Qd,if_neg (by rw [PX];omega),Qd,if_pos rfl]
  simp only [World.cell?,e]
  rfl
 have c2: ∀ q os,(grow (((W.alloc (Obj.cells #[Value.int IntKind.i64 a.col,Value.int IntKind.i64 a.row] 24)).alloc (Obj.cells #[Value.int IntKind.i64 b.col,Value.int IntKind.i64 b.row] 24)).drewN q) os).cell? ⟨W.heap.size,1,none⟩=some (.int .i64 a.row):=fun q os=>by
  refine cell_grown (by show W.heap.size<((W.heap.push _).push _).size;rw [PX,PX];omega) ?_ q os
  have e: ∀ o1 o2:Obj,((W.alloc o1).alloc o2).heap[W.heap.size]? =some o1:=fun o1 o2=>by
   show ((W.heap.push o1).push o2)[W.heap.size]? =_
   rw [Qd,if_neg (by rw [PX];omega),Qd,if_pos rfl]
  simp only [World.cell?,e]
  rfl
 have c3: ∀ q os,(grow (((W.alloc (Obj.cells #[Value.int IntKind.i64 a.col,Value.int IntKind.i64 a.row] 24)).alloc (Obj.cells #[Value.int IntKind.i64 b.col,Value.int IntKind.i64 b.row] 24)).drewN q) os).cell? ⟨W.heap.size+1,0,none⟩=some (.int .i64 b.col):=fun q os=>by
  refine cell_grown (by show W.heap.size+1<((W.heap.push _).push _).size;rw [PX,PX];omega) ?_ q os
  have e: ∀ o1 o2:Obj,((W.alloc o1).alloc o2).heap[W.heap.size+1]? =some o2:=fun o1 o2=>by
   show ((W.heap.push o1).push o2)[W.heap.size+1]? =_
   rw [Qd,if_pos (by rw [PX])]
  simp only [World.cell?,e]
  rfl
 have c4: ∀ q os,(grow (((W.alloc (Obj.cells #[Value.int IntKind.i64 a.col,Value.int IntKind.i64 a.row] 24)).alloc (Obj.cells #[Value.int IntKind.i64 b.col,Value.int IntKind.i64 b.row] 24)).drewN q) os).cell? ⟨W.heap.size+1,1,none⟩=some (.int .i64 b.row):=fun q os=>by
  refine cell_grown (by show W.heap.size+1<((W.heap.push _).push _).size;rw [PX,PX];omega) ?_ q os
  have e: ∀ o1 o2:Obj,((W.alloc o1).alloc o2).heap[W.heap.size+1]? =some o2:=fun o1 o2=>by
   show ((W.heap.push o1).push o2)[W.heap.size+1]? =_
   rw [Qd,if_pos (by rw [PX])]
  simp only [World.cell?,e]
  rfl
 go_enter Tryz.func91,Tryz.ntmps91
 go_wp2_with (go_at_call 133;refine (Tryz.lessX _ _ _).mono ?_;rintro e w' ⟨rfl,q,os,rfl⟩)
 all_goals
  go_ret
  exact ⟨rfl,by first|exact (((Lays.refl W).alloc _).alloc _).grow _ _|exact ((((Lays.refl W).alloc _).alloc _).grow _ _).grow _ _⟩
end Go.Proofs
namespace Go.Proofs
open Go Go.Shelf Go.RowKit Go.Lib Go.Sort Go.SL
def Tryz.sortRf_ren:Go.Shelf.Ren:=⟨fun|6=>90|15=>123|14=>132|28=>171|29=>172|20=>174|21=>175|22=>176|23=>177|24=>178|25=>179|26=>180|27=>181|46=>226|47=>221|48=>222|49=>227|50=>228|57=>262|n=>n,fun|22=>32|24=>24|25=>167|3=>3|39=>65|0=>0|53=>264|55=>62|4=>4|46=>257|45=>256|50=>261|5=>5|9=>9|66=>305|70=>309|76=>353|77=>354|n=>n,fun|n=>n⟩
theorem Tryz.sortRf:Go.Proofs.SlLaysF0.n6 Tryz.prog Tryz.sortRf_ren:={
 mixed:=by kernel_rfl
 f6:=⟨Tryz.f90.name,by decide,Tryz.func90.trans (congrArg some (by kernel_rfl))⟩
 f14:=⟨Tryz.f132.name,by decide,Tryz.func132.trans (congrArg some (by kernel_rfl))⟩
 f15:=Tryz.func123.trans (congrArg some (by kernel_rfl))
 f20:=⟨Tryz.f174.name,by decide,Tryz.func174.trans (congrArg some (by kernel_rfl))⟩
 f21:=⟨Tryz.f175.name,by decide,Tryz.func175.trans (congrArg some (by kernel_rfl))⟩
 f22:=⟨Tryz.f176.name,by decide,Tryz.func176.trans (congrArg some (by kernel_rfl))⟩
 f23:=⟨Tryz.f177.name,by decide,Tryz.func177.trans (congrArg some (by kernel_rfl))⟩
 f24:=⟨Tryz.f178.name,by decide,Tryz.func178.trans (congrArg some (by kernel_rfl))⟩
 f25:=⟨Tryz.f179.name,by decide,Tryz.func179.trans (congrArg some (by kernel_rfl))⟩
 f26:=⟨Tryz.f180.name,by decide,Tryz.func180.trans (congrArg some (by kernel_rfl))⟩
 f27:=⟨Tryz.f181.name,by decide,Tryz.func181.trans (congrArg some (by kernel_rfl))⟩
 f28:=Tryz.func171.trans (congrArg some (by kernel_rfl))
 f29:=Tryz.func172.trans (congrArg some (by kernel_rfl))
 f46:=⟨Tryz.f226.name,by decide,Tryz.func226.trans (congrArg some (by kernel_rfl))⟩
 f47:=Tryz.func221.trans (congrArg some (by kernel_rfl))
 f48:=Tryz.func222.trans (congrArg some (by kernel_rfl))
 f49:=⟨Tryz.f227.name,by decide,Tryz.func227.trans (congrArg some (by kernel_rfl))⟩
 f50:=⟨Tryz.f228.name,by decide,Tryz.func228.trans (congrArg some (by kernel_rfl))⟩
 f57:=⟨Tryz.f262.name,by decide,Tryz.func262.trans (congrArg some (by kernel_rfl))⟩
 t0:=Tryz.underlying0
 a0:=Tryz.isAgg0
 z0:=Tryz.sizeOf0
 v0:=Tryz.zeroValue0
 t3:=Tryz.underlying3
 a3:=Tryz.isAgg3
 z3:=Tryz.sizeOf3
 v3:=Tryz.zeroValue3
 t4:=Tryz.underlying4
 a4:=Tryz.isAgg4
 z4:=Tryz.sizeOf4
 v4:=Tryz.zeroValue4
 t5:=Tryz.underlying5
 a5:=Tryz.isAgg5
 z5:=Tryz.sizeOf5
 v5:=Tryz.zeroValue5
 t9:=Tryz.underlying9
 a9:=Tryz.isAgg9
 z9:=Tryz.sizeOf9
 v9:=Tryz.zeroValue9
 t22:=Tryz.underlying32
 a22:=Tryz.isAgg32
 z22:=Tryz.sizeOf32
 v22:=Tryz.zeroValue32
 t25:=Tryz.underlying167
 a25:=Tryz.isAgg167
 z25:=Tryz.sizeOf167
 v25:=Tryz.zeroValue167
 t39:=Tryz.underlying65
 a39:=Tryz.isAgg65
 z39:=Tryz.sizeOf65
 v39:=Tryz.zeroValue65
 t45:=Tryz.underlying256
 a45:=Tryz.isAgg256
 z45:=Tryz.sizeOf256
 v45:=Tryz.zeroValue256
 t46:=Tryz.underlying257
 a46:=Tryz.isAgg257
 z46:=Tryz.sizeOf257
 v46:=Tryz.zeroValue257
 t50:=Tryz.underlying261
 a50:=Tryz.isAgg261
 z50:=Tryz.sizeOf261
 v50:=Tryz.zeroValue261
 t53:=Tryz.underlying264
 a53:=Tryz.isAgg264
 z53:=Tryz.sizeOf264
 v53:=Tryz.zeroValue264
 t55:=Tryz.underlying62
 a55:=Tryz.isAgg62
 z55:=Tryz.sizeOf62
 v55:=Tryz.zeroValue62
 t66:=Tryz.underlying305
 a66:=Tryz.isAgg305
 z66:=Tryz.sizeOf305
 v66:=Tryz.zeroValue305
 t70:=Tryz.underlying309
 a70:=Tryz.isAgg309
 z70:=Tryz.sizeOf309
 v70:=Tryz.zeroValue309
 t76:=Tryz.underlying353
 a76:=Tryz.isAgg353
 z76:=Tryz.sizeOf353
 v76:=Tryz.zeroValue353
 t77:=Tryz.underlying354
 a77:=Tryz.isAgg354
 z77:=Tryz.sizeOf354
 v77:=Tryz.zeroValue354 }
theorem gV (x y:Rf):ltOf gO x y=bp x y:=by
 unfold ltOf gO
 cases h1:bp x y<;>cases h2:bp y x<;>simp
theorem MK:SWO (ltOf gO):={
 irrefl x:=by rw [gV];simp [bp]
 trans x y z h1 h2:=by rw [gV] at*;simp [bp] at*;omega
 ntrans x y z h1 h2:=by rw [gV] at*;simp [bp] at*;omega }
theorem Jn (x y:Rf) (h1:ltOf gO x y=false) (h2:ltOf gO y x=false):x=y:=by
 rw [gV] at h1 h2
 obtain ⟨a,b⟩:=x
 obtain ⟨c,d⟩:=y
 simp [bp] at h1 h2
 simp
 omega
instance:Inhabited Rf:=⟨⟨0,0⟩⟩
theorem Tryz.sortRf_calls (blk off cap:Nat) (d:Array Rf) (w:World) (hH:HoldsK aw 2 w blk off d) (hblk:blk<w.heap.size) (hsz:d.size<4611686018427387904):
  Calls Tryz.prog 90 #[.slice (some ⟨blk,off,none⟩) d.size cap,.func (.func 91) #[] #[]] w fun e w' =>
   e= .returned (.tuple #[])∧ ∃ n os,w' =sortWorldK aw 2 w blk off n (d.toList.mergeSort fun x y=> !(ltOf gO) y x).toArray os:=by
 have eg: ∀ args w,(callFunc 91 args).run Tryz.prog w= .ok (.enter 91 args) w:=enters_of Tryz.func91 (by kernel_rfl) rfl
 exact AnyQ.slices_SortFunc_total Tryz.sortRf 2 (fun w=>by have h:=Tryz.underlying24;show (isAgg 24).run _ w=_;simp [isAgg,run_underlying h]) (fun w=>by obtain ⟨i,h1,h2⟩:=(inferInstance:Size Tryz.prog 24 2).out;show (Go.sizeOf 24).run _ w=_;simp [Go.sizeOf,typeInfo,h1,h2]) aw (fun _=>rfl) (fun x v hv=>by simp [aw] at hv;rcases hv with rfl|rfl<;>rfl) gO MK 91 #[] blk off cap d w eg (fun _ _ _ _ x y=>Tryz.orderX x y _) hH hblk hsz Jn
end Go.Proofs
namespace Go.SL
open Go Go.Proofs Go.Sort Go.Shelf
def sortRf (L:List Rf):List Rf:=L.mergeSort fun x y=> !(bp y x)
theorem CP (L:List Rf) (j:Nat) (h:j<L.length*2):(L.flatMap aw)[j]? =some ((flatK aw 2 L.toArray)[j]!):=by
 rw [get_flatK _ _ _ _ (by simpa using h)]
 have h1:j / 2<L.length:=by omega
 have h2:j % 2<2:=Nat.mod_lt _ (by omega)
 have h3:=l9 dO L (j / 2) (j % 2) h1 h2
 rw [show j / 2*2+j % 2=j by omega] at h3
 rw [h3]
 have h4:L.toArray[j / 2]! =L[j / 2]:=by simp [h1]
 rw [h4,O5 (by rw [dO];exact h2)]
 congr 1
 rw [getElem!_pos _ _ (by rw [dO];exact h2)]
theorem Eb (w:World) (g n:Nat) (d:Array Rf) (os:Array Obj):w.grownBy (sortWorldK aw 2 w g 0 n d os) (some g):={
 os:=rfl
 tape:=rfl
 output:=rfl
 size:=by
  show w.heap.size≤((w.heap.modify g _)++os).size
  rw [Array.size_append,RQ]
  omega
 block k hk hne:=by
  show ((w.heap.modify g _)++os)[k]? =_
  rw [Qr (by rw [RQ];exact hk),RC,if_neg (fun e=>hne (by rw [e]))] }
theorem G9 (w:World) (g n:Nat) (d:Array Rf) (os:Array Obj) (c:Array Value) (T:TypeId) (fr:Nat × Nat) (h:w.heap[g]? =some (.cells c T fr)):
  (sortWorldK aw 2 w g 0 n d os).heap[g]? =some (.cells (putCells id 0 (flatK aw 2 d) c) T fr):=by
 have hlt:g<w.heap.size:=(PL.1 h).1
 show ((w.heap.modify g _)++os)[g]? =_
 rw [Qr (by rw [RQ];exact hlt),RC,if_pos rfl,h]
 rfl
theorem Hz (L:List Rf) (xs junk:List Value) (hl:xs.length=L.length*2):putCells id 0 (flatK aw 2 L.toArray) (xs++junk).toArray=(L.flatMap aw++junk).toArray:=by
 have hfl:(L.flatMap aw).length=L.length*2:=aQ dO L
 apply Array.ext_getElem?
 intro j
 simp only [putCells,Array.getElem?_mapIdx,PY,size_flatK,QR,Pb,true_and,Pn,Qz]
 by_cases hj:j<L.length*2
 ·
  rw [PJ (by omega),PJ (by omega),CP L j hj,O5 (by omega)]
  simp [hj]
 ·
  rw [PQ (by omega),PQ (by omega),hl,hfl]
  simp [hj]
theorem BA (L:List Rf) (g cap:Nat) (hL:L.length≤1000000) (R:List Blk) (w0:World):
  FnIn Tryz.prog 90 [sl (some g) L.length cap,.func (.func 91) #[] #[]] w0 (.own (some g) 24 2 L.length cap (L.flatMap aw)::R) fun v H=>v= .tuple #[]∧H= .own (some g) 24 2 L.length cap ((sortRf L).flatMap aw)::R:=by
 intro w hm
 obtain ⟨⟨h1,h2,h3,junk,h4,h5⟩,hk⟩:=hm.on _ O7
 have hlt:g<w.heap.size:=(PL.1 h5).1
 have hH:HoldsK aw 2 w g 0 L.toArray:=by
  intro j hj
  simp only [size_flatK,QR] at hj
  have hc:(L.flatMap aw++junk).toArray[j]? =some (flatK aw 2 L.toArray)[j]! :=by
   rw [PY,PJ (by omega),CP L j hj]
  constructor
  ·
   simp only [World.cell?,Pn,h5]
   exact hc
  ·
   simp [World.frozen?,h5]
 have hs:=Tryz.sortRf_calls g 0 cap L.toArray w hH hlt (by simp;omega)
 have hsz:L.toArray.size=L.length:=by simp
 rw [hsz] at hs
 refine hs.mono ?_
 rintro e w' ⟨rfl,n,os,rfl⟩
 have hlen:(sortRf L).length=L.length:=by simp [sortRf]
 have heq:(L.toArray.toList.mergeSort fun x y=> !(ltOf gO) y x)=sortRf L:=by
  simp only [sortRf,gV]
 rw [heq]
 refine ⟨_,_,rfl,hm.upd (Eb _ _ _ _ _) (b' := .own (some g) 24 2 L.length cap ((sortRf L).flatMap aw)) ?_ fun k hk=> .inl hk,rfl,rfl⟩
 have hfl:((sortRf L).flatMap aw).length=L.length*2:=by rw [aQ dO,hlen]
 refine ⟨hfl,h2,h3,junk,by rw [O2,hfl,← h1,← O2];exact h4,?_⟩
 rw [G9 _ _ _ _ _ _ _ _ h5,Hz (sortRf L) _ _ (by rw [hlen];exact h1)]
theorem zw (L:List Rf) (A:Option Nat) (cap:Nat) (hL:L.length≤1000000) (R:List Blk) (w0:World):
  FnIn Tryz.prog 90 [sl A L.length cap,.func (.func 91) #[] #[]] w0 (.own A 24 2 L.length cap (L.flatMap aw)::R) fun v H=>v= .tuple #[]∧H= .own A 24 2 L.length cap ((sortRf L).flatMap aw)::R:=by
 cases A with
 |some g=>exact BA L g cap hL R w0
 |none=>
  intro w hm
  obtain ⟨⟨h1,h2,h3,h4⟩,_⟩:=hm.on _ O7
  obtain ⟨h5,h6⟩:=h4
  have hnil:L= []:=QM.1 h5
  subst hnil
  subst h6
  refine Calls.mono (AnyF.slices_SortFunc_none Tryz.sortRf none 0 _ w) ?_
  rintro e w' ⟨rfl,rfl⟩
  exact ⟨_,_,rfl,hm,rfl,by simp [sortRf]⟩
end Go.SL
namespace Go.SL
open Go Go.Proofs
attribute [local irreducible] W WL WQ WG WA WX WLI WR WT VOp RW thn blk bZ scp bA bV ck FnAt FnIn FnP
def aO (a:Rf):Value:= .agg (aw a).toArray
def gB (gg gm:Nat) (es:List (Rf × Value × Nat)) (clock:Nat):List Blk:= [.box gg 165 [.map (some gm)],.obj gm (cw aO es clock)]
def f7 (es:List (Rf × Value × Nat)):List Rf:=sortRf (es.map fun e=>e.1)
theorem jt {L M:List Rf} (h:L.Perm M):sortRf L=sortRf M:=by
 have hp: ∀ L:List Rf,(sortRf L).Pairwise fun x y=>(!(bp y x))=true:=fun L=>
  List.pairwise_mergeSort (le:=fun x y=> !(bp y x)) (fun a b c h1 h2=>by simp [bp] at*;omega) (fun a b=>by simp [bp];omega) L
 refine List.Perm.eq_of_pairwise (fun a b _ _ h1 h2=> ?_) (hp L) (hp M) (((SA L _).trans h).trans (SA M _).symm)
 exact Jn a b (by rw [gV];simpa using h2) (by rw [gV];simpa using h1)
set_option maxHeartbeats 1000000 in
theorem oo (gg gm clock:Nat) (es:List (Rf × Value × Nat)) (hok:MapOk es clock) (hlen:es.length≤1000000) (R:List Blk) (w0:World):
  FnIn Tryz.prog 28 [.pointer (some ⟨gg,0,none⟩)] w0 (gB gg gm es clock++R) fun v H=> ∃ A cap,v=sl A es.length cap∧H= .own A 24 2 es.length cap ((f7 es).flatMap aw)::(gB gg gm es clock++R):=by
 refine bM Tryz.func28 rfl Tryz.ntmps28 rfl ?_
 refine aK 24 2 ?_
 repeat' (first|(apply aj;exact rfl;apply dr;exact rfl)|(apply mz (enc:=aO);exact rfl;exact rfl;exact pK;intro gi)|refine sT ?_|refine sS ?_|refine sM fun _=> ?_|(refine sC ?_ ?_<;>intro hb<;>try omega)|fail)
 refine ax [11] rfl (fun x:List (Rf × Value × Nat) × Option Nat × Nat=> [(3,sl x.2.1 x.1.length x.2.2)]) (fun x=> .obj gi (l3 gm clock (x.1.map fun e=>e.2.2)):: .own x.2.1 24 2 x.1.length x.2.2 ((x.1.map fun e=>e.1).flatMap aw)::(gB gg gm es clock++R)) (fun x=>Vis es x.1) (fun x=>es.length - x.1.length) ([],none,0) (Vis.nil es) sB (.refl _) ?_
 rintro ⟨vis,A,cap⟩ hv
 dsimp only at hv ⊢
 have hvl:=hv.len
 have hml:(vis.map fun e=>e.1).length=vis.length:=Ps _
 have hS:=fun R' =>zw (vis.map fun e=>e.1) A cap (by omega) R' w0
 rw [hml] at hS
 repeat' (first|(apply m9 (enc:=aO);exact rfl;exact rfl;exact pK;exact pK;exact hok;intro e he hne)|(intro hall)|(apply aj;exact rfl;apply zo (enc:=aO);exact rfl;exact pK;exact pK;exact he;exact hok)|(apply bU;(iterate 3 exact rfl);(repeat first|exact .hd|apply Sel.tl|apply In.tl);(intro w hm;exact hm.cells_own (by (repeat first|exact .hd|apply Sel.tl|apply In.tl)));exact rfl;(simp [Value.oneCell',sl]);omega;(simp only [maxLen];omega);(intro A2 cap2 hA2))|(apply ak (f:=90);exact rfl;exact rfl;exact FnIn.msub (hS _) (MSub.pick pK (MSub.refl _));rintro _ _ ⟨rfl,rfl⟩)|refine sT ?_|refine sS ?_|refine sM fun _=> ?_|(refine sC ?_ ?_<;>intro hb<;>try omega)|fail)
 ·
  refine ⟨(vis++ [e],A2,cap2),hv.step he hne,?_,?_,sB,?_⟩
  ·
   have:=hv.lt he hne
   simp only [O2,O6]
   omega
  ·
   simp only [O2,O6]
   exact sB
  ·
   simp only [P4,PB,P3,O2,O6,Pj,Pd,Pq,Pa]
   exact mS
 ·
  have hperm:=hv.perm hok hall
  have hl:vis.length=es.length:=hperm.length_eq
  have hf:f7 es=sortRf (vis.map fun e=>e.1):=jt (hperm.symm.map _)
  refine bK eIO rfl rfl (H' := .own A 24 2 es.length cap ((f7 es).flatMap aw)::(gB gg gm es clock++R)) ?_ ⟨A,cap,by rw [hl],rfl⟩
  rw [hf,← hl]
  exact mS
end Go.SL
