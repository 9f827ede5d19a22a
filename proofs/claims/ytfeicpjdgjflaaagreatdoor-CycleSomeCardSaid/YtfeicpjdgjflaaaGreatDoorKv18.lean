/-
  Lemmas and walks, put together: C7 Lq D2 Oq Gp Lr Pl R1 R4 Rw Pl8 Cg R2.
-/
import Derived.Test.YtfeicpjdgjflaaaGreatDoorKv14
import Derived.Test.YtfeicpjdgjflaaaGreatDoorKv17
set_option linter.unusedSimpArgs false
set_option linter.unusedVariables false
set_option maxRecDepth 20000
set_option maxHeartbeats 16000000
namespace Go.SL
open Go Go.Proofs
attribute [local irreducible] W WL WQ WG WA WX WLI WR WT VOp RW thn blk bg scp aS aV bi FnAt FnIn FnP
theorem Kq (p2 p3 p4:Value) (w0:World) (H:List Blk):FnD Tryz.prog 226 [p2,p3,p4] .returning w0 H H:=by
 refine U1 Tryz.func226 rfl rfl Tryz.ntmps226 rfl rfl (.inl ⟨rfl,rfl⟩) ?_;repeat' (first|apply ai;exact rfl;apply QK;exact rfl|refine sT ?_|refine sM fun _=>?_|refine sC ?_ ?_<;>intro hb<;>try omega|fail)
 all_goals exact ⟨by first|exact .inl rfl|exact .inr rfl,.refl _⟩
theorem Kr (g2 g3 g4:Nat) (x2 x3 x4:Value) (e:Int × Int) (w0:World) (R:List Blk):
 FnD Tryz.prog 226 [.pointer (some ⟨g2,0,none⟩),.pointer (some ⟨g3,0,none⟩),.pointer (some ⟨g4,0,none⟩)] (.panicking (kO (DR e))) w0
  (.box g2 122 [x2]:: .box g3 3 [x3]:: .box g4 31 [x4]::R)
  (.box g2 122 [.slice none 0 0]:: .box g3 3 [.int .i64 e.1]:: .box g4 31 [.int .i64 e.2]::R):=by
 refine U1 Tryz.func226 rfl rfl Tryz.ntmps226 rfl rfl (.inr rfl) ?_;repeat' (first|apply ai;exact rfl;apply QJ;exact rfl|apply ai;exact rfl;apply C8;exact rfl;exact rfl|rename_i g;refine ER (id:=7) [⟨4,g2,122,x2,.slice none 0 0⟩,⟨5,g3,3,x3,.int .i64 e.1⟩,⟨6,g4,31,x4,.int .i64 e.2⟩] (.box g 334 [.int .i64 e.1,.int .i64 e.2]::R) (by kernel_rfl) (by kernel_rfl) rfl mS ?_|apply Qy;exact rfl;exact rfl;exact vC|refine qC [] [⟨5,g3,3,x3,.int .i64 e.1⟩,⟨6,g4,31,x4,.int .i64 e.2⟩] ⟨4,g2,122,x2,.slice none 0 0⟩ rfl rfl rfl rfl rfl rfl ?_|refine qC [⟨4,g2,122,x2,.slice none 0 0⟩] [⟨6,g4,31,x4,.int .i64 e.2⟩] ⟨5,g3,3,x3,.int .i64 e.1⟩ rfl rfl rfl rfl rfl rfl ?_|refine qC [⟨4,g2,122,x2,.slice none 0 0⟩,⟨5,g3,3,x3,.int .i64 e.1⟩] [] ⟨6,g4,31,x4,.int .i64 e.2⟩ rfl rfl rfl rfl rfl rfl ?_|apply CV|refine sT ?_|refine sG ?_|refine sM fun _=>?_|refine sC ?_ ?_<;>intro hb<;>try omega|fail)
 refine ⟨.inr rfl,?_⟩;simp only [VU,Wv,BoxT.post,Vp,Vq];exact mS
def bZ (x:List Tk × Int × Int) (fin:Int):List Nd × Int × Int:=
 if x.2.2≠0 then ([],x.2.1,x.2.2)
 else match bK fin (20*x.1.length+40) (.level 1) ⟨x.1,[]⟩ with
  |none=>([],0,0)
  |some (.error (a,e))=>([],a,e)
  |some (.ok (_,p))=>
   if (hdT fin p.l).kind≠0 then ([],(hdT fin p.l).at_,4)
   else if eD p.out≠0 then ([],0,eD p.out)
   else (p.out,0,0)
theorem Fa {tk:List Int→Option (Tk × Nat)} {l:List Int} (f:Nat): ∀ (i:Nat) (r:List Tk),bB tk l f i= .ok r→r.length≤f:=by
 induction f with
 |zero=>intro i r h;simp only [bB,Except.ok.injEq] at h;subst h;exact VA _
 |succ f ih=>
  intro i r h;simp only [bB] at h;split at h
  ·cases h;exact Vt _
  ·split at h
   ·exact X7 (ih _ _ h)
   ·split at h
    ·cases h
    ·rename_i t n _
     cases hr:bB tk l f (i+n) with
     |error e=>rw [hr] at h;cases h
     |ok r' =>
      rw [hr] at h;cases h;exact Nat.succ_le_succ (ih _ _ hr)
theorem pR (tk:List Int→Option (Tk × Nat)) (l:List Int):(bG tk l).1.length≤256:=by
 unfold bG;split
 ·exact Vt _
 ·split
  ·exact Vt _
  ·split
   ·rename_i h;have:=Fa _ _ _ h;dsimp only;omega
   ·exact Vt _
theorem At.start (toks:List Tk) (A:Option Nat) (cap:Nat):At toks A cap ⟨toks,[]⟩ (sl A toks.length cap):=
 ⟨0,Vt _,rfl,VA _,A.map fun g=>⟨g,0,none⟩,by simp [sl],fun _=>by simp⟩
def Kh (A:Option Nat) (cap:Nat) (r:List Nd × Int × Int):Value:= .tuple #[sl A r.1.length cap,.int .i64 r.2.1,.int .i64 r.2.2]
theorem JW (a:ByteArray) (w:World) (hW:Words w) (r:List Nd × Int × Int) (hr:r=bZ (bG eB (ap a)) (a.size:Int)):
 FnAt Tryz.prog 161 [.string a] w fun v H=> ∃ A cap,v=Kh A cap r∧H= [.own A 132 11 r.1.length cap (r.1.flatMap bu)]:=by
 refine R0 Tryz.func161 rfl Tryz.ntmps161 rfl ?_;have htl:=pR eB (ap a);have hT:=fun w' (hm:Σ' H,Mem w w' H)=>Ni a w' (hW.next hm.2);obtain ⟨⟨toks,at0,e0⟩,hx⟩: ∃ x,bG eB (ap a)=x:=⟨_,rfl⟩;rw [hx] at hr htl;simp only [hx,Ki] at hT;dsimp only at htl;refine BF 132 11 ?_;refine BF 132 11 ?_;refine Oo (fun e a w _ h=>PP h) ?_;obtain ⟨r1,hr1,_⟩:=uZ (a.size:Int) (20*toks.length+40) (.level 1) ⟨toks,[]⟩ ⟨by omega,by omega⟩ (by simp [Job.c]);have hP: ∀ (A:Option Nat) (cap g:Nat) (R:List Blk),toks.length≤cap→FnP Tryz.prog 227 [.pointer (some ⟨g,0,none⟩)] w (pB g (sl A toks.length cap) A cap (a.size:Int) toks none 0 []++R) (PR toks A cap (a.size:Int) g R r1) (PD R r1):=fun A cap g R hc=>
  (Mf (20*toks.length+40)).2.2.2.2 toks A cap (a.size:Int) g ⟨toks,[]⟩ (sl A toks.length cap) none 0 r1 R w hc (by omega) (At.start toks A cap) hr1
 obtain ⟨ff,hff⟩: ∃ ff,20*toks.length+40=ff:=⟨_,rfl⟩;rw [hff] at hr1;repeat' (first|apply aJ (f:=225);exact rfl;exact rfl;exact fun w' hm=>hT w' ⟨_,hm⟩;rintro _ _ ⟨A,cap,rfl,rfl⟩|rename_i g2 g3 g4;refine Ot (cs:= [_,_,_]) rfl rfl ?_|refine Oo (fun e a w _ h=>PP h) ?_|refine TH (fun e a w h=>Ug h) ?_|rename_i g2 g3 g4;refine ER (id:=3) [⟨2,g2,122,.slice none 0 0,.slice none 0 0⟩,⟨3,g3,3,.int .i64 at0,.int .i64 at0⟩,⟨4,g4,31,.int .i64 e0,.int .i64 e0⟩] [.own none 132 11 0 0 []] (by kernel_rfl) (by kernel_rfl) rfl mS ?_|refine qC [] [⟨3,g3,3,.int .i64 at0,.int .i64 at0⟩,⟨4,g4,31,.int .i64 e0,.int .i64 e0⟩] ⟨2,g2,122,.slice none 0 0,.slice none 0 0⟩ rfl rfl rfl rfl rfl rfl ?_|refine qC [⟨2,g2,122,.slice none 0 0,.slice none 0 0⟩] [⟨4,g4,31,.int .i64 e0,.int .i64 e0⟩] ⟨3,g3,3,.int .i64 at0,.int .i64 at0⟩ rfl rfl rfl rfl rfl rfl ?_|refine qC [⟨2,g2,122,.slice none 0 0,.slice none 0 0⟩,⟨3,g3,3,.int .i64 at0,.int .i64 at0⟩] [] ⟨4,g4,31,.int .i64 e0,.int .i64 e0⟩ rfl rfl rfl rfl rfl rfl ?_|refine J3 ⟨3,g3,3,.int .i64 at0,.int .i64 at0⟩ (.tail _ (.head _)) (f:=60) (j:=3) rfl (by decide+kernel) rfl rfl rfl ?_|refine J3 ⟨4,g4,31,.int .i64 e0,.int .i64 e0⟩ (.tail _ (.tail _ (.head _))) (f:=60) (j:=4) rfl (by decide+kernel) rfl rfl rfl ?_|apply CV|apply ai;exact rfl;apply oK;exact rfl|apply ai;exact rfl;apply eO;exact rfl|apply Ld (f:=227);exact rfl;exact rfl;infer_instance;exact rfl;rename_i gp;exact FnP.own (A:=A) pK (fun hcap=>FnP.msub (hP A cap _ _ hcap) (MSub.pick pK (MSub.pick pK (MSub.pick pK (MSub.refl _)))))|rintro _ _ ⟨rfl,n,p',lv',B',cb',rfl,h2,rfl⟩;obtain ⟨u,hu⟩: ∃ u,hdT (a.size:Int) p'.l=u:=⟨_,rfl⟩|rintro _ _ ⟨e,rfl,rfl,h3⟩|apply ag (f:=228);exact rfl;exact rfl;intro w' hm';exact At.head' (B:=B') (cb:=cb') (out:=p'.out) (fin:=(a.size:Int)) h2 hu (MSub.pick pK (MSub.pick pK (MSub.pick pK (MSub.nil _)))) w' hm'|apply ag (f:=162);exact rfl;exact rfl;intro w' hm';exact HH p'.out _ w' (Reads.of_own (A:=B') hm' pK)|refine bY (f:=229) rfl rfl (kC _ _ _ _ _ (fun _ _=>False)) ?_ ?_|exact fun _ _ h=>h.elim|rintro _ _ ⟨rfl,rfl⟩|refine sT ?_|refine sP ?_|refine sG ?_|refine sM fun _=>?_|refine sC ?_ ?_<;>intro hb<;>try omega|fail)
 ·have hr' :r=([],at0,e0):=by rw [hr];simp [bZ,hb]
  subst hr';simp only [VU,Wv,BoxT.post,Vp,Vq];exact tI (.inl rfl) rfl rfl pK rfl pK rfl pK (H' := [.own none 132 11 0 0 []]) mS ⟨none,0,rfl,rfl⟩
 ·rename_i he0 gp _ u0 hu0 g1;have hr' :r=([],u0.at_,4):=by rw [hr];simp [bZ,hff,hr1,hu0,hb,Classical.not_not.1 he0]
  subst hr';refine ⟨_,.box g2 122 [.slice none 0 0]:: .box g3 3 [.int .i64 at0]:: .box g4 31 [.int .i64 e0]:: [.own none 132 11 0 0 []],_,rfl,?_,Kr g2 g3 g4 _ _ _ (u0.at_,4) w _,tI (.inl rfl) rfl rfl pK rfl pK rfl pK (H' := [.own none 132 11 0 0 []]) mS ⟨none,0,rfl,rfl⟩⟩;simp only [Vz,Vp,Vq,pB];exact mS
 ·rename_i he0 gp _ g1 hb1;have hr' :r=([],0,eD p'.out):=by rw [hr];simp [bZ,hff,hr1,hu,Classical.not_not.1 hb1,hb,Classical.not_not.1 he0]
  subst hr';exact ⟨.returning,_,_,rfl,.refl _,Kq _ _ _ _ _,tI (.inl rfl) rfl rfl pK rfl pK rfl pK (H' := [.own none 132 11 0 0 []]) mS ⟨none,0,rfl,rfl⟩⟩
 ·rename_i he0 gp _ g1 hb1;have hr' :r=(p'.out,0,0):=by rw [hr];simp [bZ,hff,hr1,hu,Classical.not_not.1 hb1,Classical.not_not.1 hb,Classical.not_not.1 he0]
  subst hr';exact ⟨.returning,_,_,rfl,.refl _,Kq _ _ _ _ _,tI (.inl rfl) rfl rfl pK rfl pK rfl pK (H' := [.own B' 132 11 p'.out.length cb' (p'.out.flatMap bu)]) mS ⟨B',cb',rfl,rfl⟩⟩
 ·have hr' :r=([],e.1,e.2):=by rw [hr];simp [bZ,hff,hr1,Classical.not_not.1 hb]
  subst hr';refine ⟨_,.box g2 122 [.slice none 0 0]:: .box g3 3 [.int .i64 at0]:: .box g4 31 [.int .i64 e0]:: [.own none 132 11 0 0 []],_,rfl,MSub.trans ?_ h3,Kr g2 g3 g4 _ _ _ e w _,tI (.inl rfl) rfl rfl pK rfl pK rfl pK (H' := [.own none 132 11 0 0 []]) mS ⟨none,0,rfl,rfl⟩⟩;exact mS
theorem fZ (c:Int):aL c=true↔48≤c∧c≤57:=by simp [aL]
theorem jv (c:Int):cz c=true↔(65≤c∧c≤90)∨(97≤c∧c≤122):=by simp [cz]
theorem RN (c:Int):cz c=false↔ ¬ ((65≤c∧c≤90)∨(97≤c∧c≤122)):=by rw [← jv];simp
theorem GA (c:Int):cz (upC c)=cz c:=by
 rw [V3,jv,jv,upC];by_cases h:97≤c∧c≤122
 ·rw [if_pos h];omega
 ·rw [if_neg h]
theorem PO (c:Int):aL (upC c)=aL c:=by
 rw [V3,fZ,fZ,upC];by_cases h:97≤c∧c≤122
 ·rw [if_pos h];omega
 ·rw [if_neg h]
theorem QM (c:Int):upC (upC c)=upC c:=by
 simp only [upC];split
 ·rw [if_neg (by omega)]
 ·rfl
theorem QN {c:Int} (h:aL c=true):upC c=c:=by
 simp only [aL,VP,decide_eq_true_eq] at h;rw [upC,if_neg (by omega)]
theorem tB: ∀ l:List Int,(l.map upC).takeWhile cz=(l.takeWhile cz).map upC
 | []=>rfl
 |c::r=>by
  simp only [VU,List.takeWhile_cons,GA];split
  ·rw [tB r];rfl
  ·rfl
theorem uu: ∀ l:List Int,(l.map upC).dropWhile cz=(l.dropWhile cz).map upC
 | []=>rfl
 |c::r=>by
  simp only [VU,List.dropWhile_cons,GA];split
  ·rw [uu r]
  ·rfl
theorem wA: ∀ (l:List Int) (v:Int),bI (l.map upC) v=bI l v
 | [],_=>rfl
 |c::r,v=>by simp only [VU,bI,QM,wA r]
theorem P5: ∀ l:List Int,(l.map upC).all aL=l.all aL
 | []=>rfl
 |c::r=>by simp only [VU,XM,PO,P5 r]
theorem yX: ∀ {l:List Int},l.all aL=true→l.map upC=l
 | [],_=>rfl
 |c::r,h=>by
  simp only [XM,VP] at h;simp only [VU,QN h.1,yX h.2]
theorem RT (l:List Int):((l.map upC).head? =some 48)↔(l.head? =some 48):=by
 cases l with
 |nil=>simp
 |cons c r=>
  simp only [VU,List.head?_cons,Option.some.injEq,upC];split<;>omega
theorem P9 (l:List Int):cX (l.map upC)=cX l:=by
 unfold cX;simp only [tB,uu,List.map_eq_nil_iff,RT,P5,wA];split
 ·rfl
 ·rename_i h;have hd:(l.dropWhile cz).all aL=true:=by
   cases hh:(l.dropWhile cz).all aL with
   |true=>rfl
   |false=>exact absurd (.inr (.inr (.inr hh))) h
  rw [yX hd]
theorem u4 {p:Int→Bool}: ∀ {l:List Int} {n:Nat},n≤aK p l→aK p (l.take n)=n
 | [],n,h=>by simp [aK] at h;subst h;rfl
 |c::r,0,_=>rfl
 |c::r,n+1,h=>by
  simp only [aK] at h;split at h
  ·rename_i hc;simp only [WS,aK,hc,if_true];rw [u4 (by omega)]
  ·omega
theorem tG {p:Int→Bool}: ∀ {l:List Int} {n:Nat},aK p l≤n→aK p (l.take n)=aK p l
 | [],n,_=>by simp
 |c::r,0,h=>by
  simp only [aK] at h;split at h
  ·omega
  ·rename_i hc;simp [aK,hc]
 |c::r,n+1,h=>by
  simp only [aK] at h ⊢;simp only [WS,aK];split at h
  ·rename_i hc;simp only [hc,if_true];rw [tG (by omega)]
  ·rename_i hc;simp [hc]
theorem qb {l:List Int} (h:cI l≠0): ∃ r,l=46::r∧cI l=aK aL r:=by
 cases l with
 |nil=>exact absurd rfl h
 |cons c r=>
  by_cases hc:c=46
  ·subst hc;exact ⟨r,rfl,rfl⟩
  ·exact absurd (oW hc) h
theorem Hh {l:List Int} {w p:Nat} (hw:aK aL l=w) (hp:cI (l.drop w)=p) (h0:w≠0) (h4:p≤4):
 jf (l.take (if p=0 then w else w+1+p))=if dx<bP (l.take w++(l.drop (w+1)).take p++List.replicate (4 - p) 48) 0 then (0,3) else (bP (l.take w++(l.drop (w+1)).take p++List.replicate (4 - p) 48) 0,0):=by
 have hwl:w≤l.length:=hw ▸ cH aL l;obtain ⟨c,r,rfl⟩: ∃ c r,l=c::r:=by
  cases l with
  |nil=>simp [aK] at hw;omega
  |cons c r=>exact ⟨c,r,rfl⟩
 have hc:aL c=true:=lT (c::r) 0 c (by omega) rfl;have hc45:c≠45:=by simp only [aL,VP,decide_eq_true_eq] at hc;omega
 have hneg: ∀ n,0<n→decide (((c::r).take n).head? =some 45)=false:=by
  intro n hn
  cases n with
  |zero=>omega
  |succ n=>simp [hc45]
 by_cases hp0:p=0
 ·subst hp0;rw [if_pos rfl];unfold jf;have hrun:aK aL ((c::r).take w)=w:=u4 (by omega);have hdrop:((c::r).take w).drop w= []:=by rw [YI,VQ];omega
  have htt:((c::r).take w).take w=(c::r).take w:=by rw [List.take_take,Nat.min_self]
  simp only [hneg w (by omega),V2,if_false,hrun,hdrop,htt];simp [h0]
 ·rw [if_neg hp0];obtain ⟨q,hq,hq2⟩:=qb (l:=(c::r).drop w) (by omega);have hpq:aK aL q=p:=by omega
  have hpl:p≤q.length:=hpq ▸ cH aL q;have hlen:(c::r).length=w+1+q.length:=by
   have:=congrArg List.length hq;rw [VS] at this;simp only [Vw] at this ⊢;omega
  have hd1:(c::r).drop (w+1)=q:=by
   rw [← Xi,hq];rfl
  have hrun:aK aL ((c::r).take (w+1+p))=w:=by rw [tG (by omega)];exact hw
  have hdrop:((c::r).take (w+1+p)).drop w=46::q.take p:=by
   rw [List.drop_take,hq,show w+1+p - w=p+1 by omega];rfl
  have htt:((c::r).take (w+1+p)).take w=(c::r).take w:=by rw [List.take_take,Xs (by omega)]
  have hrp:aK aL (q.take p)=p:=u4 (by omega);have hlp:(q.take p).length=p:=by rw [VQ];omega
  unfold jf;simp only [hneg (w+1+p) (by omega),V2,if_false,hrun,hdrop,htt,List.tail_cons,hrp,hd1];have hfrac:(decide (1<(46::q.take p).length) && (decide ((46::q.take p).head? =some 46) && decide (p+1=(46::q.take p).length)))=true:=by
   simp only [Vw,hlp,List.head?_cons,decide_true,Wp,WO];simp;omega
  simp only [hfrac,if_true];have h5:(q.take p++ [48,48,48,48,48]).getD 4 0=48:=by
   rw [VX,VW (by omega),hlp];rcases (by omega:p=1∨p=2∨p=3∨p=4) with rfl|rfl|rfl|rfl<;>rfl
  have h6:(q.take p++ [48,48,48,48,48]).take 4=q.take p++List.replicate (4 - p) 48:=by
   rw [List.take_append,hlp,Wl (by omega)];rcases (by omega:p=1∨p=2∨p=3∨p=4) with rfl|rfl|rfl|rfl<;>rfl
  rw [if_neg (by simp [h0])];simp only [h5,h6];rw [if_neg (show ¬ (53:Int)≤48 by decide),Int.add_zero,VC]
theorem yN (l:List Int):iw l=(mM l).map fun x=>(⟨1,x.1,aB,aZ,0⟩,x.2):=by
 unfold iw mM;dsimp only;split
 ·rfl
 ·rename_i h;have h0:aK aL l≠0:=fun e=>h (.inl e);have h4:cI (l.drop (aK aL l))≤4:=by
   rcases WY 4 (cI (l.drop (aK aL l))) with h4|h4
   ·exact absurd (.inr h4) h
   ·exact h4
  rw [Hh rfl rfl h0 h4];split
  ·rfl
  ·rfl
theorem E4 (m:List Int):m9 (34::34::m)=(m9 m).map (34:: ·):=by
 rw [m9.eq_def];simp
theorem Fg: ∀ (n:Nat) (l:List Int),l.length≤n→mD l=(du l).bind fun k=>(m9 (l.take k)).map fun t=>(t,k+1):=by
 intro n
 induction n with
 |zero=>intro l h;have:l= []:=Wo (by omega);subst this;rfl
 |succ n ih=>
  intro l h
  cases l with
  |nil=>rfl
  |cons c r=>
   simp only [Vw] at h;by_cases hc:c=34
   ·subst hc
    cases r with
    |nil=>rfl
    |cons d r' =>
     simp only [Vw] at h;by_cases hd:d=34
     ·subst hd;rw [mD.eq_def,du.eq_def];simp only [ne_eq,not_true,if_false,if_true];rw [ih r' (by omega)]
      cases hk:du r' with
      |none=>rfl
      |some k=>
       simp only [Wq,Option.bind_some];rw [WS,WS,E4];cases m9 (r'.take k)<;>rfl
     ·rw [mD.eq_def,du.eq_def];simp [hd,m9]
   ·rw [mD.eq_def,mV hc];simp only [ne_eq,hc,not_false_eq_true,if_true];rw [ih r (by omega)]
    cases hk:du r with
    |none=>rfl
    |some k=>
     simp only [Wq,Option.bind_some];rw [WS,uU hc];cases m9 (r.take k)<;>rfl
theorem M0: ∀ (n:Nat) (l:List Int) (k:Nat),l.length≤n→du l=some k→l[k]? =some 34∧ ∃ t,m9 (l.take k)=some t∧t.length≤k:=by
 intro n
 induction n with
 |zero=>intro l k h hk;have:l= []:=Wo (by omega);subst this;cases hk
 |succ n ih=>
  intro l k h hk
  cases l with
  |nil=>cases hk
  |cons c r=>
   simp only [Vw] at h;by_cases hc:c=34
   ·subst hc
    cases r with
    |nil=>cases hk;exact ⟨rfl,[],rfl,VA _⟩
    |cons d r' =>
     simp only [Vw] at h;by_cases hd:d=34
     ·subst hd;rw [du.eq_def] at hk;simp only [ne_eq,not_true,if_false,if_true] at hk
      cases hk' :du r' with
      |none=>rw [hk'] at hk;cases hk
      |some j=>
       rw [hk'] at hk;cases hk;obtain ⟨h1,t,h2,h3⟩:=ih r' j (by omega) hk';refine ⟨h1,34::t,?_,by simp only [Vw];omega⟩;rw [WS,WS,E4,h2];rfl
     ·rw [du.eq_def] at hk;simp [hd] at hk;subst hk;exact ⟨rfl,[],rfl,VA _⟩
   ·rw [mV hc] at hk
    cases hk' :du r with
    |none=>rw [hk'] at hk;cases hk
    |some j=>
     rw [hk'] at hk;cases hk;obtain ⟨h1,t,h2,h3⟩:=ih r j (by omega) hk';refine ⟨h1,c::t,?_,by simp only [Vw];omega⟩;rw [WS,uU hc,h2];rfl
theorem Od {r:List Int} (hp:(34::r).all (fun c=>bR c)=true) (hl:r.length≤256):pT (34::r)=(mD r).map fun x=>(⟨2,0,mkB x.1,aZ,0⟩,x.2+1):=by
 unfold pT;rw [Fg r.length r (VA _)];simp only [Xf,ne_eq,not_true,if_false,YK,WH]
 cases hk:du r with
 |none=>rfl
 |some k=>
  obtain ⟨h1,t,h2,h3⟩:=M0 r.length r k (VA _) hk;obtain ⟨hkl,h1⟩:=VI.1 h1;have e1:(34::r).take (k+2)=34::r.take (k+1):=rfl;have e2:r.take (k+1)=r.take k++ [34]:=by rw [Vu hkl,h1]
  have hall:(34::r.take (k+1)).all (fun c=>bR c)=true:=by
   rw [← e1];rw [WK] at hp ⊢;exact fun x hx=>hp x (WV hx)
  have e3:iL (34::r.take (k+1))=(t,0):=by
   unfold iL;rw [hall];rw [if_neg (by rw [e2];simp [List.getLast?_cons])];have:((34::r.take (k+1)).drop 1).dropLast=r.take k:=by rw [YK,WH,e2,List.dropLast_concat]
   rw [this,h2];simp only;rw [if_neg (by omega)]
  simp only [e1,e3,Option.bind_some,h2,Wq];simp
theorem N0 (l:List Int):upW l=(l.take (aK dI l)).map upC:=rfl
theorem Va (l:List Int):cX (upW l)=cX (l.take (aK dI l)):=by rw [N0,P9]
def kQ (l:List Int):Option (Tk × Nat):=match mR l with
 |some x=>some x
 |none=>jG l
theorem zt {l:List Int} (h:l.headD 0≠35): ∀ (ns:List (List Int)) (k:Int),(∀ s∈ns,s.head? =some 35)→mg l ns k=none
 | [],_,_=>rfl
 |s::r,k,hs=>by
  have h1:=hs s Vr;rw [mg,if_neg,zt h r _ fun s hs' =>hs s (Vv _ hs')];intro e
  cases s with
  |nil=>cases h1
  |cons a s=>
   cases h1
   cases l with
   |nil=>cases e
   |cons c l=>
    simp only [Vw,WS,VU,List.cons.injEq] at e;simp only [Xf] at h;have:=e.1;simp only [upC] at this;split at this<;>omega
theorem pw {l:List Int} (h:l.headD 0≠35):mR l=none:=by
 unfold mR;rw [zt h fw 1 (by decide)]
 rfl
def tR:List Int:= [60,62,43,45,42,47,94,38,61,37]
theorem yJ {l:List Int} (h:l.headD 0∉tR): ∀ ns:List (List Int × Int),(∀ s∈ns,∃ c,s.1.head? =some c∧c∈tR)→opL l ns=none
 | [],_=>rfl
 |(s,k)::r,hs=>by
  obtain ⟨a,h1,h2⟩:=hs (s,k) Vr;rw [opL,if_neg,yJ h r fun s hs' =>hs s (Vv _ hs')];intro e
  cases s with
  |nil=>cases h1
  |cons b s=>
   cases h1
   cases l with
   |nil=>cases e
   |cons c l=>
    simp only [Vw,WS,List.cons.injEq] at e;simp only [Xf] at h;exact h (e.1 ▸ h2)
theorem rY {l:List Int} (h:l.headD 0∉tR) (h1:l.headD 0≠40) (h2:l.headD 0≠41) (h3:l.headD 0≠44):jG l=none:=by
 unfold jG;rw [yJ h gI (by decide)];simp only [h1,h2,h3,if_false]
theorem Dx {l:List Int} (h:aL (l.headD 0)=false):iw l=none:=by
 unfold iw;have:aK aL l=0:=by
  cases l with
  |nil=>rfl
  |cons c r=>simp only [Xf] at h;simp [aK,h]
 simp [this]
theorem xZ {l:List Int} (h:l.headD 0≠34):pT l=none:=by
 unfold pT;rw [if_pos h]
theorem rP {l:List Int} (h:cz (l.headD 0)=false):jm l=none:=by
 unfold jm;rw [if_pos h]
def bN (l:List Int):Option (Tk × Nat):=
 if aL (l.headD 0) then (mM l).map fun x=>(⟨1,x.1,aB,aZ,0⟩,x.2)
 else if l.headD 0=34 then (mD l.tail).map fun x=>(⟨2,0,mkB x.1,aZ,0⟩,x.2+1)
 else if cz (l.headD 0) then jm l
 else kQ l
theorem wt (c:Int):c∈tR↔c=60∨c=62∨c=43∨c=45∨c=42∨c=47∨c=94∨c=38∨c=61∨c=37:=by simp [tR]
theorem LC {l:List Int} (hp:l.all (fun c=>bR c)=true) (hl:l.length≤256):eB l=bN l:=by
 have hF:eB l=match iw l with
  |some x=>some x
  |none=>match pT l with
   |some x=>some x
   |none=>match jm l with
    |some x=>some x
    |none=>kQ l:=by
  unfold eB pY pu kQ;cases iw l<;>simp only [pu];cases pT l<;>simp only;cases jm l<;>simp only;cases mR l<;>simp only;cases jG l<;>rfl
 rw [hF];unfold bN;by_cases h1:aL (l.headD 0)=true
 ·have h1' :=(fZ _).1 h1;rw [if_pos h1,← yN,xZ (by omega),rP ((RN _).2 (by omega)),kQ,pw (by omega),rY (by rw [wt];omega) (by omega) (by omega) (by omega)];cases iw l<;>rfl
 ·rw [if_neg h1];have h1' :aL (l.headD 0)=false:=by simpa using h1
  rw [Dx h1'];by_cases h2:l.headD 0=34
  ·rw [if_pos h2]
   cases l with
   |nil=>cases h2
   |cons c r=>
    simp only [Xf] at h2;subst h2;rw [Od hp (by simp only [Vw] at hl;omega),List.tail_cons,rP (by rw [Xf];decide),kQ,pw (by rw [Xf];decide),rY (by rw [Xf];decide) (by rw [Xf];decide) (by rw [Xf];decide) (by rw [Xf];decide)];cases mD r<;>rfl
  ·rw [if_neg h2,xZ h2];by_cases h3:cz (l.headD 0)=true
   ·have h3' :=(jv _).1 h3;rw [if_pos h3,kQ,pw (by omega),rY (by rw [wt];omega) (by omega) (by omega) (by omega)];cases jm l<;>rfl
   ·rw [if_neg h3,rP (by simpa using h3)]
theorem Ih {l:List Int} (hp:l.all (fun c=>bR c)=true) (hl:l.length≤256): ∀ f i,bB eB l f i=bB bN l f i:=by
 intro f
 induction f with
 |zero=>intro i;rfl
 |succ f ih=>
  intro i;simp only [bB];have h1:(l.drop i).all (fun c=>bR c)=true:=by
   rw [WK] at hp ⊢;exact fun x hx=>hp x (XK hx)
  rw [LC h1 (by rw [VS];omega)];simp only [ih]
theorem Ig (l:List Int):bG eB l=bG bN l:=by
 unfold bG;split
 ·rfl
 ·rename_i hl
  cases h:l.findIdx? (fun c=> !bR c) with
  |some i=>rfl
  |none=>
   simp only;rw [Ih _ (by omega)];rw [Wm] at h;rw [WK];intro x hx;have:=h x hx;simpa using this
theorem Ue {a:ByteArray} {i:Nat} (h:i<a.size):kL (sub a i (i+1))=if bR (bat a i) then 0 else 4:=by
 have h1:ap (sub a i (i+1))= [bat a i]:=by
  rw [fK,bA h,Nat.add_sub_cancel_left]
  rfl
 have h2:(sub a i (i+1)).size=1:=by rw [cP a (by omega)];omega
 simp only [kL,h2,p8,h1];cases h:bR (bat a i)<;>simp [h]
structure Mn where
 formula:Bool
 v:Vl
 tree:List Nd
def eqB:ByteArray:=⟨#[61]⟩
def uJ:Mn:=⟨false,bX,[]⟩
def ofP (b:ByteArray):Mn × Int × Int:=
 if 256<b.size then (uJ,0,5)
 else match (ap b).findIdx? (fun c=> !bR c) with
  |some i=>(uJ,(i:Int),4)
  |none=>
   if (mh b eqB).2=false then (⟨false,vN b,[]⟩,0,0)
   else match bZ (bG eB (ap (mh b eqB).1)) ((mh b eqB).1.size:Int) with
    |(t,at_,e)=>if e≠0 then (uJ,IntKind.i64.wrap (at_+1),e) else (⟨true,bX,t⟩,0,0)
def DX (m:Mn) (tv:Value):List Value:= [.bool m.formula,.int .u8 m.v.kind,.int .i64 m.v.num,.string m.v.text,tv]
def ofV (A:Option Nat) (cap:Nat) (r:Mn × Int × Int):Value:= .tuple #[.agg (DX r.1 (sl A r.1.tree.length cap)).toArray,.int .i64 r.2.1,.int .i64 r.2.2]
theorem SX (b:ByteArray) (w:World) (hW:Words w):FnAt Tryz.prog 99 [.string b] w fun v H=> ∃ A cap,v=ofV A cap (ofP b)∧H= [.own A 132 11 (ofP b).1.tree.length cap ((ofP b).1.tree.flatMap bu)]:=by
 refine aA Tryz.func99 rfl Tryz.ntmps99 rfl ?_;refine aI 132 11 ?_;unfold ofP;by_cases hlen:256<b.size
 ·rw [if_pos hlen];repeat' (first|refine zZF ?_|refine sM fun _=>?_|refine sC ?_ ?_<;>intro hb<;>try omega|fail)
  all_goals first
   |omega
   |exact iF (.inl rfl) rfl rfl pK rfl rfl rfl (H' := [.own none 132 11 0 0 []]) mS ⟨none,0,rfl,rfl⟩
 rw [if_neg hlen];repeat' (first|refine zZF ?_|refine sM fun _=>?_|refine sC ?_ ?_<;>intro hb<;>try omega|fail)
 all_goals try omega
 rename_i g2;refine ay [0,2,14] rfl (fun i:Nat=> [(15,.int .i64 (i:Int))]) (fun _=> [.box g2 191 [.bool false,.int .u8 0,.int .i64 0,.string aB,.slice none 0 0],.own none 132 11 0 0 []]) (fun i=>i≤b.size∧ ∀ j,j<i→bR (bat b j)=true) (fun i=>b.size - i) 0 ⟨by omega,fun j h=>by omega⟩ sB mS ?_;rintro i ⟨hi,hpl⟩;by_cases hlt:i<b.size
 ·have hg:=Ue hlt;have hG:=fun w=>GN (sub b i (i+1)) w;rw [hg] at hG;by_cases hc:bR (bat b i)=true
  ·rw [if_pos hc] at hG;repeat' (first|apply ai;exact rfl;apply iD;(iterate 3 exact rfl);exact ⟨by omega,by omega⟩|apply ag;exact rfl;exact rfl;intro w hm;exact hG w|refine zZC ?_|refine sM fun _=>?_|refine sC ?_ ?_<;>intro hb<;>try omega|fail)
   all_goals try omega
   refine ⟨i+1,?_,(by first|omega|dsimp only;omega),sB,sB,mS⟩;refine ⟨hlt,fun j hj=> ?_⟩;rcases (by omega:j<i∨j=i) with h|rfl
   ·exact hpl j h
   ·exact hc
  ·rw [if_neg hc] at hG;repeat' (first|apply ai;exact rfl;apply iD;(iterate 3 exact rfl);exact ⟨by omega,by omega⟩|apply ag;exact rfl;exact rfl;intro w hm;exact hG w|refine zZC ?_|refine sM fun _=>?_|refine sC ?_ ?_<;>intro hb<;>try omega|fail)
   all_goals try omega
   have hf:(ap b).findIdx? (fun c=> !bR c)=some i:=qu hlt (by simp [hc]) fun j hj=>by rw [hpl j hj];rfl
   rw [hf];exact iF (.inl rfl) rfl rfl pK rfl rfl rfl (H' := [.own none 132 11 0 0 []]) mS ⟨none,0,rfl,rfl⟩
 ·have e:i=b.size:=by omega
  subst e;have hf:(ap b).findIdx? (fun c=> !bR c)=none:=oZ fun j hj=>by rw [hpl j hj];rfl
  rw [hf];dsimp only;have hcut:=fun w=>PV b eqB (by omega) w;obtain ⟨⟨rest,is⟩,hx⟩: ∃ x,mh b eqB=x:=⟨_,rfl⟩;rw [hx] at hcut ⊢
  cases is with
  |false=>
   rw [if_pos rfl];repeat' (first|apply ag;exact rfl;exact rfl;intro w hm;exact hcut w|apply ag (f:=160);exact rfl;exact rfl;intro w' hm';exact Hl b (by omega) w' (hW.next hm')|refine zZC ?_|refine sM fun _=>?_|refine sC ?_ ?_<;>intro hb<;>try omega|fail)
   all_goals try omega
   exact iF (.inl rfl) rfl rfl pK rfl rfl rfl (H' := [.own none 132 11 0 0 []]) mS ⟨none,0,rfl,rfl⟩
  |true=>
   rw [if_neg (by simp)];dsimp only;have hF:=fun (w' :World) (h:Words w')=>JW rest w' h _ rfl;obtain ⟨⟨t,at0,e0⟩,hr⟩: ∃ x,bZ (bG eB (ap rest)) (rest.size:Int)=x:=⟨_,rfl⟩;simp only [hr,Kh] at hF;rw [hr];dsimp only;by_cases he:e0≠0
   ·rw [if_pos he];repeat' (first|apply ag;exact rfl;exact rfl;intro w hm;exact hcut w|apply aJ (f:=161);exact rfl;exact rfl;intro w' hm';exact hF w' (hW.next hm');rintro _ _ ⟨A,cap,rfl,rfl⟩|apply ai;exact rfl;apply xT;exact rfl;exact rfl|refine zZC ?_|refine sM fun _=>?_|refine sC ?_ ?_<;>intro hb<;>try omega|fail)
    all_goals try omega
    exact iF (.inl rfl) rfl rfl pK rfl rfl rfl (H' := [.own none 132 11 0 0 []]) mS ⟨none,0,rfl,rfl⟩
   ·rw [if_neg he];repeat' (first|apply ag;exact rfl;exact rfl;intro w hm;exact hcut w|apply aJ (f:=161);exact rfl;exact rfl;intro w' hm';exact hF w' (hW.next hm');rintro _ _ ⟨A,cap,rfl,rfl⟩|apply ai;exact rfl;apply xT;exact rfl;exact rfl|refine zZC ?_|refine sM fun _=>?_|refine sC ?_ ?_<;>intro hb<;>try omega|fail)
    all_goals try omega
    exact iF (.inl rfl) rfl rfl pK rfl rfl rfl (H' := [.own A 132 11 t.length cap (t.flatMap bu)]) mS ⟨A,cap,rfl,rfl⟩
def ofR (b:ByteArray):Mn × Int × Int:=
 if 256<b.size then (uJ,0,5)
 else match (ap b).findIdx? (fun c=> !bR c) with
  |some i=>(uJ,(i:Int),4)
  |none=>
   if (ap b).headD 0≠61 then (⟨false,zN b,[]⟩,0,0)
   else match bZ (bG bN (ap (sub b 1 b.size))) ((sub b 1 b.size).size:Int) with
    |(t,at_,e)=>if e≠0 then (uJ,IntKind.i64.wrap (at_+1),e) else (⟨true,bX,t⟩,0,0)
theorem DM {b:ByteArray} (h: ¬ 256<b.size) (hp:(ap b).findIdx? (fun c=> !bR c)=none):kL b=0:=by
 rw [Wm] at hp;unfold kL;rw [p8];have:(ap b).all bR=true:=by
  rw [WK];intro c hc;simpa using hp c hc
 simp [h,this]
theorem OP (b:ByteArray):ofP b=ofR b:=by
 unfold ofP ofR;by_cases h1:256<b.size
 ·rw [if_pos h1,if_pos h1]
 rw [if_neg h1,if_neg h1]
 cases hf:(ap b).findIdx? (fun c=> !bR c) with
 |some i=>rfl
 |none=>
  dsimp only;have hq:ap eqB= [61]:=rfl;have hs:eqB.size=1:=rfl;have h61:(ap b).take 1= [61]↔(ap b).headD 0=61:=by cases ap b<;>simp
  have hcut:mh b eqB=if (ap b).headD 0=61 then (sub b 1 b.size,true) else (b,false):=by
   unfold mh;rw [hq,hs];by_cases h:(ap b).headD 0=61
   ·rw [if_pos (h61.2 h),if_pos h]
   ·rw [if_neg (fun h' =>h (h61.1 h')),if_neg h]
  rw [hcut];by_cases h2:(ap b).headD 0=61
  ·rw [if_pos h2,if_neg (by simp),if_neg (show ¬ ((ap b).headD 0≠61) from fun h=>h h2),Ig]
  ·rw [if_neg h2,if_pos rfl,if_pos h2,MX (DM h1 hf)]
abbrev Gr:=List (Rf × List Nd × List Us)
def au (G:Gr):List Rf:=G.map fun e=>e.1
def SortG (G:Gr):Prop:=G.Pairwise fun x y=>bn x.1 y.1=true
def mP (G:Gr) (a:Rf):Option (List Nd × List Us):=(G.find? fun e=>decide (e.1=a)).map fun e=>e.2
def AP (G:Gr) (a:Rf):Gr:=G.filter fun e=>decide (e.1≠a)
def wV (G:Gr) (a:Rf) (x:List Nd × List Us):Gr:=G.filter (fun e=>bn e.1 a)++(a,x)::G.filter fun e=>bn a e.1
def iM (G:Gr) (a:Rf):List Nd:=((mP G a).map fun x=>x.1).getD []
def aU (G:Gr) (a:Rf):List Us:=((mP G a).map fun x=>x.2).getD []
def isG (G:Gr) (a:Rf):Bool:=(mP G a).isSome
def bH (us:List Us) (r:Rct):Bool:=us.any (lS r)
def eU (G:Gr) (r:Rct):List Rf:=if jr r≠0 then [] else (G.filter fun e=>bH e.2.2 r).map fun e=>e.1
def gC (us:List Us) (a:Rf):Bool:=us.any fun u=>kE u.rect a
def cF (G:Gr):List (Rf × Rf):=G.flatMap fun e=>(G.filter fun f=>gC e.2.2 f.1).map fun f=>(e.1,f.1)
def gL (G:Gr) (a:Rf) (b:ByteArray):Gr × Int:=
 if a.valid=false then (G,3)
 else if (ofP b).2.2≠0 then (G,(ofP b).2.2)
 else if (ofP b).1.formula=false then (AP G a,0)
 else (wV G a ((ofP b).1.tree,fp (ofP b).1.tree),0)
theorem nZ {a b:Rf}:bn a b=true↔a.row<b.row∨(a.row=b.row∧a.col<b.col):=by simp [bn]
theorem nY (a:Rf):bn a a=false:=by simp [bn]
theorem wB {a b c:Rf} (h:bn a b=true) (k:bn b c=true):bn a c=true:=by
 rw [nZ] at*;omega
theorem kD {a b:Rf} (h:bn a b=true):bn b a=false:=by
 rw [← Bool.not_eq_true,nZ];rw [nZ] at h;omega
theorem GD {a b:Rf} (h:a≠b):bn a b=true∨bn b a=true:=by
 rw [nZ,nZ];rcases Int.lt_trichotomy a.row b.row with h1|h1|h1
 ·exact .inl (.inl h1)
 ·rcases Int.lt_trichotomy a.col b.col with h2|h2|h2
  ·exact .inl (.inr ⟨h1,h2⟩)
  ·refine absurd ?_ h;obtain ⟨a1,a2⟩:=a;obtain ⟨b1,b2⟩:=b;simp only at h1 h2;subst h1 h2;rfl
  ·exact .inr (.inr ⟨h1.symm,h2⟩)
 ·exact .inr (.inl h1)
theorem l7 {a b:Rf} (h:bn a b=true):a≠b:=by
 rintro rfl;rw [nY] at h;cases h
theorem SortG.nodup {G:Gr} (h:SortG G):(au G).Nodup:=by
 rw [au,List.Nodup,X8];exact h.imp fun h=>l7 h
theorem BA:SortG []:=List.Pairwise.nil
theorem uX {G:Gr} (h:SortG G) (a:Rf):SortG (AP G a):=h.filter _
theorem uW {G:Gr} (h:SortG G) (a:Rf) (x:List Nd × List Us):SortG (wV G a x):=by
 refine Xk.2 ⟨h.filter _,Wt.2 ⟨fun e he=> ?_,h.filter _⟩,fun e he f hf=> ?_⟩
 ·exact (Wx.1 he).2
 ·have h1:=(Wx.1 he).2;rcases VN.1 hf with rfl|hf
  ·exact h1
  ·exact wB h1 (Wx.1 hf).2
theorem LK {G:Gr} (h:SortG G) (a:Rf) (b:ByteArray):SortG (gL G a b).1:=by
 unfold gL;split
 ·exact h
 ·split
  ·exact h
  ·split
   ·exact uX h a
   ·exact uW h a _
theorem yS {G:Gr} {a:Rf} {x:List Nd × List Us} {e:Rf × List Nd × List Us}:e∈wV G a x↔e=(a,x)∨(e∈G∧e.1≠a):=by
 simp only [wV,VH,VN,Wx];constructor
 ·rintro (⟨h1,h2⟩|rfl|⟨h1,h2⟩)
  ·exact .inr ⟨h1,l7 h2⟩
  ·exact .inl rfl
  ·exact .inr ⟨h1,(l7 h2).symm⟩
 ·rintro (rfl|⟨h1,h2⟩)
  ·exact .inr (.inl rfl)
  ·rcases GD h2 with h|h
   ·exact .inl ⟨h1,h⟩
   ·exact .inr (.inr ⟨h1,h⟩)
theorem yT {G:Gr} {a:Rf} {e:Rf × List Nd × List Us}:e∈AP G a↔e∈G∧e.1≠a:=by simp [AP]
theorem l6 {G:Gr} (h:SortG G) {a:Rf} {x:List Nd × List Us}:mP G a=some x↔(a,x)∈G:=by
 constructor
 ·intro hl;obtain ⟨e,he,rfl⟩:=Ws.1 hl;have h1:=Y1 he;have h2:=X0 he;simp only [decide_eq_true_eq] at h1;subst h1;exact h2
 ·intro hm;have hn:=h.nodup
  cases hf:G.find? fun e=>decide (e.1=a) with
  |none=>
   rw [Yr] at hf;exact absurd (hf _ hm) (by simp)
  |some e=>
   have h1:=Y1 hf;have h2:=X0 hf;simp only [decide_eq_true_eq] at h1;have:=pd (fun e:Rf × List Nd × List Us=>e.1) hn h2 hm h1;rw [mP,hf,this];rfl
theorem Jj {G:Gr} {a:Rf}:mP G a=none↔ ∀ e∈G,e.1≠a:=by
 rw [mP,Option.map_eq_none_iff,Yr];simp
theorem GJ {G:Gr} (h:SortG G):(au G).Pairwise fun x y=>bn x y=true:=by
 rw [au,X8];exact h
theorem Az {L:List Rf} (h:L.Pairwise fun x y=>bn x y=true):sortRf L=L:=by
 refine List.mergeSort_of_pairwise ?_;exact h.imp fun h=>by rw [kD h];rfl
def Chain:List Tk→Prop
 | []=>True
 |t::r=>(1≤t.kind∧t.kind≤11)∧(t.kind=7→(r.headD dY).kind=9)∧Chain r
theorem Ju {l:List Int} {t:Tk} {n:Nat} (h:mR l=some (t,n)):t.kind=4:=by
 unfold mR at h;obtain ⟨x,_,hx⟩:=Ws.1 h;cases hx;rfl
theorem Iu {l:List Int} {t:Tk} {n:Nat} (h:jG l=some (t,n)):8≤t.kind∧t.kind≤11:=by
 unfold jG at h;split at h
 ·cases h;simp
 ·split at h
  ·cases h;simp
  ·split at h
   ·cases h;simp
   ·split at h
    ·cases h;simp
    ·cases h
theorem Ir {l:List Int} {t:Tk} {n:Nat} (h:kQ l=some (t,n)):(1≤t.kind∧t.kind≤11)∧t.kind≠7:=by
 unfold kQ at h;split at h
 ·rename_i x hx;cases h;have:=Ju hx;omega
 ·have:=Iu h;omega
theorem HO {l:List Int} {t:Tk} {n:Nat} (h:jm l=some (t,n)):(1≤t.kind∧t.kind≤11)∧(t.kind=7→(l.drop n).headD 0=40):=by
 unfold jm at h;split at h
 ·cases h
 ·split at h
  ·rename_i h1;cases h;exact ⟨by simp,fun _=>h1⟩
  ·split at h
   ·cases h;simp
   ·split at h
    ·cases h;simp
    ·split at h
     ·cases h
     ·split at h
      ·cases h;simp only;split<;>simp
      ·cases h;simp
theorem Fe {l:List Int} {t:Tk} {n:Nat} (h:bN l=some (t,n)):(1≤t.kind∧t.kind≤11)∧(t.kind=7→(l.drop n).headD 0=40):=by
 unfold bN at h;split at h
 ·obtain ⟨x,_,hx⟩:=Ws.1 h;cases hx;simp
 ·split at h
  ·obtain ⟨x,_,hx⟩:=Ws.1 h;cases hx;simp
  ·split at h
   ·exact HO h
   ·have:=Ir h;exact ⟨this.1,fun e=>absurd e this.2⟩
theorem pS (l:List Int):Fits l (bN l):=by
 intro t n h;by_cases hd:aL (l.headD 0)=true
 ·unfold bN at h;rw [if_pos hd,← yN] at h;exact wu l t n h
 ·unfold bN at h;rw [if_neg hd] at h;split at h
  ·rename_i hq
   cases l with
   |nil=>cases hq
   |cons c r=>
    obtain ⟨⟨x,m⟩,hx,he⟩:=Ws.1 h;cases he;rw [List.tail_cons,Fg r.length r (VA _)] at hx;obtain ⟨k,hk,hk2⟩:=Option.bind_eq_some_iff.1 hx;obtain ⟨y,_,hy⟩:=Ws.1 hk2;cases hy;have:=rf r.length r k (VA _) hk;simp only [Vw];omega
  ·split at h
   ·exact Be l t n h
   ·unfold kQ at h;split at h
    ·rename_i x hx;cases h;exact Co l t n hx
    ·exact BC l t n h
theorem Fb {l:List Int} (h:l.headD 0=40): ∃ n,bN l=some (⟨9,0,aB,aZ,0⟩,n):=by
 unfold bN;rw [h,if_neg (by decide),if_neg (by decide),if_neg (by decide),kQ,pw (by omega)];simp only;unfold jG;rw [yJ (by rw [h];decide) gI (by decide)];simp only [h,if_true];exact ⟨1,rfl⟩
theorem Dc {l:List Int} {f i:Nat} {r:List Tk} (h:bB bN l (f+1) i= .ok r) (h1:(l.drop i).headD 0=40):(r.headD dY).kind=9:=by
 simp only [bB] at h
 cases hd:l.drop i with
 |nil=>rw [hd] at h1;cases h1
 |cons c q=>
  rw [hd] at h1 h;simp only [Xf] at h1;subst h1;obtain ⟨n,hn⟩:=Fb (l:=40::q) rfl;simp only [hn] at h;rw [if_neg (by decide)] at h
  cases hr:bB bN l f (i+n) with
  |error e=>rw [hr] at h;cases h
  |ok r' =>rw [hr] at h;cases h;rfl
theorem Aq {l:List Int}: ∀ (f i:Nat) (r:List Tk),l.length - i≤f→bB bN l f i= .ok r→Chain r:=by
 intro f
 induction f with
 |zero=>intro i r _ h;cases h;trivial
 |succ f ih=>
  intro i r hf h;simp only [bB] at h
  cases hd:l.drop i with
  |nil=>rw [hd] at h;cases h;trivial
  |cons c q=>
   rw [hd] at h;have hlen:(l.drop i).length=q.length+1:=by rw [hd];rfl
   rw [VS] at hlen;simp only at h;split at h
   ·exact ih (i+1) r (by omega) h
   ·cases ht:bN (c::q) with
    |none=>rw [ht] at h;cases h
    |some x=>
     obtain ⟨t,n⟩:=x;rw [ht] at h;simp only at h;have hfit:=pS _ t n ht
     cases hr:bB bN l f (i+n) with
     |error e=>rw [hr] at h;cases h
     |ok r' =>
      rw [hr] at h;cases h;have hk:=Fe ht;refine ⟨hk.1,fun h7=> ?_,ih (i+n) r' (by omega) hr⟩;have h40:=hk.2 h7;rw [← hd,Xi] at h40
      cases f with
      |zero=>
       have:l.drop (i+n)= []:=by rw [YI];omega
       rw [this] at h40;cases h40
      |succ f=>exact Dc hr h40
theorem Ak (l:List Int):Chain (bG bN l).1:=by
 unfold bG;split
 ·trivial
 ·split
  ·trivial
  ·split
   ·rename_i r hr;exact Aq _ _ _ (by omega) hr
   ·trivial
theorem Chain.drop: ∀ {l:List Tk} (k:Nat),Chain l→Chain (l.drop k)
 |l,0,h=>h
 | [],k+1,h=>h
 |_::_,k+1,h=>Chain.drop k h.2.2
theorem Chain.name {l:List Tk} {fin:Int} (h:Chain l) (h7:(hdT fin l).kind=7):(hdT fin l.tail).kind=9:=by
 cases l with
 |nil=>cases h7
 |cons t r=>
  have h9:=h.2.1 h7
  cases r with
  |nil=>cases h9
  |cons u r=>exact h9
theorem Chain.kind {l:List Tk} {fin:Int} (h:Chain l):(hdT fin l).kind=0↔l= []:=by
 cases l with
 |nil=>exact ⟨fun _=>rfl,fun _=>rfl⟩
 |cons t r=>
  have:=h.1;constructor
  ·intro e;simp only [hdT,Xf] at e;omega
  ·intro e;cases e
inductive Rc (G:Gr):Rf→Rct→Prop
 |use {c:Rf} {r:Rct} (hc:c∈au G) (h:bH (aU G c) r=true):Rc G c r
 |via {c d:Rf} {r:Rct} (hc:c∈au G) (hd:d∈au G) (h:bH (aU G c) (dU d.col d.row)=true) (k:Rc G d r):Rc G c r
theorem Rc.trans {G:Gr} {c d:Rf} {r:Rct} (h:Rc G c (dU d.col d.row)) (hd:d∈au G) (k:Rc G d r):Rc G c r:=by
 generalize hq:dU d.col d.row=q at h
 induction h with
 |use hc h=>subst hq;exact .via hc hd h k
 |via hc he h _ ih=>exact .via hc he h (ih hq)
open Classical in
open Classical in
open Classical in
noncomputable def js (G:Gr) (a b:Rf):Bool:=decide (Rc G a (dU b.col b.row))
open Classical in
open Classical in
attribute [local irreducible] WC ceP
section
variable {w0:World} {s:aC} {H:List Blk} {ty t' :TypeId} {x y:Operand}
theorem Ll {a b:Vl} {c:Bool} (h:decide (a=b)=c) (hx:ev s x=some (.agg (eZ a).toArray)) (hy:ev s y=some (.agg (eZ b).toArray)):VOp Tryz.prog w0 s H (.binOp .eql 130 x y t') ty (.bool c):=by
 have h1:=H8 (w0:=w0) (H:=H) (ty:=ty) (t' :=t') hx hy;rwa [KM,h] at h1
theorem Bo {a b:Rf} {c:Bool} (h:decide (a=b)=c) (hx:ev s x=some (.agg (aw a).toArray)) (hy:ev s y=some (.agg (aw b).toArray)):VOp Tryz.prog w0 s H (.binOp .eql 35 x y t') ty (.bool c):=by
 have h1:=NU (w0:=w0) (H:=H) (ty:=ty) (t' :=t') hx hy;rwa [qY,h] at h1
end
theorem yo (a b:Rf) (w:World):aF Tryz.prog 104 [.agg (aw a).toArray,.agg (aw b).toArray] w (.bool (bn a b)):=by
 refine aA Tryz.func104 rfl Tryz.ntmps104 rfl ?_;repeat' (first|refine sT ?_|refine sM fun _=>?_|refine sC ?_ ?_<;>intro hb<;>try omega|fail)
 all_goals ((refine rT1 ?_);((try simp only [← Int.not_lt] at*);simp_all [bn, -Int.not_lt, -Int.not_le,← Int.not_lt]))
theorem ij (a:Rf) (w:World):aF Tryz.prog 106 [.agg (aw a).toArray] w (.agg (bz (dU a.col a.row)).toArray):=by
 refine aA Tryz.func106 rfl Tryz.ntmps106 rfl ?_;repeat' (first|refine sT ?_|refine sM fun _=>?_|refine sC ?_ ?_<;>intro hb<;>try omega|fail)
 all_goals ((refine eRC ?_);rfl)
theorem ko {a:ByteArray} {i:Nat} (h:a.size≤i):bat a i=0:=by
 rw [bat,VX,VJ (by rw [az];exact h)];rfl
theorem p7 (a:ByteArray) (ha:a.size≤1000000) (i:Nat) (w:World):aF Tryz.prog 357 [.string a,.int .i64 (i:Int)] w (.bool (aL (bat a i))):=by
 refine aA Tryz.func357 rfl Tryz.ntmps357 rfl ?_;have h0:=fun h:a.size≤i=>ko h;generalize hc:bat a i=c at h0;repeat' (first|apply ai;exact rfl;apply bk (j:=i);exact rfl;exact rfl;omega|rw [hc]|refine zZE ?_|refine sM fun _=>?_|refine sC ?_ ?_<;>intro hb<;>try omega|fail)
 all_goals ((refine rT1 ?_);(try rw [h0 (by omega)]);simp_all [aL];try omega)
theorem oV (a:ByteArray) (ha:a.size≤1000000) (i:Nat) (w:World):aF Tryz.prog 360 [.string a,.int .i64 (i:Int)] w (.bool (cz (bat a i))):=by
 refine aA Tryz.func360 rfl Tryz.ntmps360 rfl ?_;have h0:=fun h:a.size≤i=>ko h;generalize hc:bat a i=c at h0;repeat' (first|apply ai;exact rfl;apply bk (j:=i);exact rfl;exact rfl;omega|rw [hc]|refine zZE ?_|refine sM fun _=>?_|refine sC ?_ ?_<;>intro hb<;>try omega|fail)
 all_goals ((refine rT1 ?_);(try rw [h0 (by omega)]);simp_all [cz];try omega)
def Gz (c:Int):Int:=if cz c then upC c - 64 else 0
theorem sm (c:Int) (h0:0≤c) (h1:c<256) (w:World):aF Tryz.prog 415 [.int .u8 c] w (.int .i64 (Gz c)):=by
 refine aA Tryz.func415 rfl Tryz.ntmps415 rfl ?_;repeat' (first|apply ai (d:=10);exact rfl;apply fj (c:=c - 65);exact rfl;exact rfl;exact gG (by omega) (by omega)|apply ai (d:=20);exact rfl;apply fj (c:=c - 97);exact rfl;exact rfl;exact gG (by omega) (by omega)|apply ai (d:=11);exact rfl;apply dD (c:=c - 65);exact rfl;exact I64.wrap ⟨by omega,by omega⟩|apply ai (d:=21);exact rfl;apply dD (c:=c - 97);exact rfl;exact I64.wrap ⟨by omega,by omega⟩|apply ai (d:=12);exact rfl;apply mC;exact rfl;exact rfl;exact ⟨by omega,by omega⟩|apply ai (d:=22);exact rfl;apply mC;exact rfl;exact rfl;exact ⟨by omega,by omega⟩|refine sT ?_|refine sM fun _=>?_|refine sC ?_ ?_<;>intro hb<;>try omega|fail)
 all_goals
  (refine rT1 ?_);unfold Gz upC
  first
   |rw [if_pos ((jv c).2 (by omega)),if_pos (by omega)];congr 1;omega
   |rw [if_pos ((jv c).2 (by omega)),if_neg (by omega)];congr 1;omega
   |rw [if_neg (by rw [jv];omega)]
theorem mG (a:ByteArray) (ha:a.size≤1000000) (w:World):aF Tryz.prog 234 [.string a] w (.string (upB a)):=by
 refine aA Tryz.func234 rfl Tryz.ntmps234 rfl ?_;repeat' (first|apply oG;exact rfl;exact rfl;intro gb cap|refine sT ?_|refine sM fun _=>?_|refine sC ?_ ?_<;>intro hb<;>try omega|fail)
 refine ay [3] rfl (fun i:Nat=> [(4,.int .i64 (i:Int))]) (fun i=> [.byt gb 5 a.size cap ((((ap a).take i).map upC++(ap a).drop i).map (Value.int .u8))]) (fun i=>i≤a.size) (fun i=>a.size - i) 0 (by omega) sB ?_ ?_
 ·rw [ri];simp only [WP,Wv,Vq,WH];exact mS
 intro i hi;have hl:=az a;by_cases hlt:i<a.size
 ·have hil:i<(ap a).length:=by omega
  have hok:=o9 a (ap a)[i] (VL hil);have hget:((((ap a).take i).map upC++(ap a).drop i).map (Value.int .u8))[0+i*1]? =some (.int .u8 (ap a)[i]):=by
   rw [VG,show 0+i*1=i by omega,VW (by simp;omega)];simp [Xs (Nat.le_of_lt hil),Wz]
  have hstep:97≤(ap a)[i]∧(ap a)[i]≤122→upC (ap a)[i]=(ap a)[i] - 32:=fun h=>by rw [upC,if_pos h]
  have hsame: ¬ (97≤(ap a)[i]∧(ap a)[i]≤122)→upC (ap a)[i]=(ap a)[i]:=fun h=>by rw [upC,if_neg h]
  have hupd:=xU upC (Value.int .u8) (ap a) i hil;have hkeep: ∀ v,(((ap a).take i).map upC++(ap a).drop i).map (Value.int .u8)=v→upC (ap a)[i]=(ap a)[i]→v=(((ap a).take (i+1)).map upC++(ap a).drop (i+1)).map (Value.int .u8):=fun v hv hs=>by
   rw [← hupd,hs,← hv];rw [show 0+i*1=i by omega] at hget;obtain ⟨h1,h2⟩:=VI.1 hget;rw [← h2,Y0]
  generalize (ap a)[i]=c at hget hok hstep hsame hupd hkeep;repeat' (first|apply ai;exact rfl;apply aa;exact rfl;exact rfl;exact hlt|apply ai;exact rfl;apply lR;exact rfl;exact pK;exact hget|apply ai (d:=31);exact rfl;apply fj (c:=c - 32);exact rfl;exact rfl;exact gG (by omega) (by omega)|apply oH;exact rfl;exact rfl;exact pK;exact rfl;simp;omega|refine zZI ?_|refine sM fun _=>?_|refine sC ?_ ?_<;>intro hb<;>try omega|refine sCW ?_ ?_<;>intro hb<;>try omega|fail)
  ·rw [show 0+i*1=i by omega,← hstep ⟨by assumption,by assumption⟩,hupd];exact ⟨i+1,hlt,by omega,sB,sB,mS⟩
  ·exact ⟨i+1,hlt,by omega,sB,sB,(by rw [← hkeep _ rfl (hsame (by omega))];exact mS)⟩
  ·exact ⟨i+1,hlt,by omega,sB,sB,(by rw [← hkeep _ rfl (hsame (by omega))];exact mS)⟩
 ·have e2:i=a.size:=by omega
  subst e2;rw [Wl (by omega),VY (by omega),VB];repeat' (first|apply ai (d:=34);exact rfl;apply uQ;exact rfl;exact pK;rw [VK];omega|refine zZB ?_|refine sM fun _=>?_|refine sC ?_ ?_<;>intro hb<;>try omega|fail)
  (refine rT1 ?_)
  rfl
structure DecP (l:List Int) (neg:Bool) (fr n:Nat) (D:List Int) (r:Int):Prop where
 negE:neg=decide (l.head? =some 45)
 frE:fr=if neg then 1 else 0
 nE:n=aK aL (l.drop fr)
 pos:n≠0
 len:D.length=n+4
 at1: ∀ k,k<n→D[k]? =l[fr+k]?
 at2: ∀ k,n≤k→k<n+4→D[k]? =some (l.getD (fr+k+1) 48)
 rnd:r=l.getD (fr+n+5) 48
 end_: ∀ k,fr+n<k→k<l.length→aL (l.getD k 0)=true
 res:jf l=if dx<bP D 0+(if 53≤r then 1 else 0) then (0,3) else (if neg then -(bP D 0+(if 53≤r then 1 else 0)) else bP D 0+(if 53≤r then 1 else 0),0)
theorem Jq (l:List Int) (i k:Nat) (d:Int):(l.drop i).getD k d=l.getD (i+k) d:=by
 rw [VX,VX,Wz]
theorem DecP.dig {l:List Int} {neg:Bool} {fr n:Nat} {D:List Int} {r:Int} (h:DecP l neg fr n D r) {k:Nat} {c:Int} (hk:D[k]? =some c):48≤c∧c≤57:=by
 have hlt:k<n+4:=by
  have:=(VI.1 hk).1;rw [h.len] at this;exact this
 rcases WY k n with h1|h1
 ·rw [h.at1 k h1] at hk;refine (fZ c).1 (lT (l.drop fr) k c (by rw [← h.nE];exact h1) ?_);rw [Wz];exact hk
 ·rw [h.at2 k h1 hlt] at hk;injection hk with hk;rcases WY (fr+k+1) l.length with h2|h2
  ·have:=h.end_ (fr+k+1) (by omega) h2;rw [VX,Vo h2] at this hk;simp only [XU] at this hk;rw [hk] at this;exact (fZ c).1 this
  ·rw [VX,VJ h2] at hk;simp only [Option.getD_none] at hk;omega
theorem MW (l:List Int) (neg:Bool) (hneg:neg=decide (l.head? =some 45)) (fr:Nat) (hfr:fr=if neg then 1 else 0) (n:Nat) (hn:n=aK aL (l.drop fr)) (e:Nat) (he:e=if l[fr+n]? =some 46 then fr+n+1+aK aL (l.drop (fr+n+1)) else fr+n):
 ((n=0∨e≠l.length∨e=fr+n+1)∧jf l=(0,4))∨(n≠0∧e=l.length∧e≠fr+n+1∧ ∃ D r,DecP l neg fr n D r):=by
 have hls:(if neg then l.tail else l)=l.drop fr:=by
  subst hfr;cases neg<;>simp
 have hnl:n≤(l.drop fr).length:=hn ▸ cH aL _;rw [VS] at hnl;have hfl:fr≤l.length:=by
  subst hfr
  cases neg with
  |false=>simp
  |true=>
   have:l.head? =some 45:=of_decide_eq_true hneg.symm
   cases l with
   |nil=>cases this
   |cons=>simp
 obtain ⟨rest,hrest⟩: ∃ rest,(l.drop fr).drop n=rest:=⟨_,rfl⟩;have hr2:l.drop (fr+n)=rest:=by rw [← Xi];exact hrest
 have hrl:rest.length=l.length - (fr+n):=by rw [← hr2,VS]
 have hhead:rest.head? =l[fr+n]? :=by rw [← hr2,List.head?_drop]
 have htail:rest.tail=l.drop (fr+n+1):=by rw [← hr2,Yj]
 have hrt:aK aL rest.tail≤rest.tail.length:=cH _ _;rw [YF] at hrt;rw [← hhead,← htail] at he;obtain ⟨q,hq⟩: ∃ q,aK aL rest.tail=q:=⟨_,rfl⟩;rw [hq] at he hrt
 have hdec: ∀ fc,(decide (1<rest.length) && (decide (rest.head? =some 46) && decide (q+1=rest.length)))=fc→jf l=if n=0∨(fc=false∧rest≠ []) then (0,4)
  else if dx<bP ((l.drop fr).take n++((if fc then rest.tail else [])++ [48,48,48,48,48]).take 4) 0+(if 53≤((if fc then rest.tail else [])++ [48,48,48,48,48]).getD 4 0 then 1 else 0) then (0,3)
  else (if neg then -(bP ((l.drop fr).take n++((if fc then rest.tail else [])++ [48,48,48,48,48]).take 4) 0+(if 53≤((if fc then rest.tail else [])++ [48,48,48,48,48]).getD 4 0 then 1 else 0)) else bP ((l.drop fr).take n++((if fc then rest.tail else [])++ [48,48,48,48,48]).take 4) 0+(if 53≤((if fc then rest.tail else [])++ [48,48,48,48,48]).getD 4 0 then 1 else 0),0):=by
  intro fc hfc;unfold jf;rw [← hneg];simp only [hls,← hn,hrest,hq,hfc]
 by_cases h0:n=0
 ·left
  refine ⟨.inl h0,?_⟩;rw [hdec _ rfl,if_pos (.inl h0)]
 by_cases h46:rest.head? =some 46
 ·rw [if_pos h46] at he;have hpos:0<rest.length:=by
   cases rest with
   |nil=>cases h46
   |cons=>simp
  by_cases hfin:1<rest.length∧q+1=rest.length
  ·right
   refine ⟨h0,by omega,by omega,?_⟩;have hfrac:(decide (1<rest.length) && (decide (rest.head? =some 46) && decide (q+1=rest.length)))=true:=by simp [h46,hfin.1,hfin.2]
   have hd:=hdec _ hfrac;simp only [if_true] at hd;rw [if_neg (by simp [h0])] at hd;have hall: ∀ k,fr+n<k→k<l.length→aL (l.getD k 0)=true:=fun k h1 h2=>by
    obtain ⟨j,rfl⟩: ∃ j,k=fr+n+1+j:=⟨k - (fr+n+1),by omega⟩;have hj:j<aK aL rest.tail:=by omega
    refine lT rest.tail j _ hj ?_;rw [htail,Wz,VX,Vo h2];rfl
   have hp5: ∀ k,k<5→(rest.tail++ [48,48,48,48,48])[k]? =some (l.getD (fr+n+k+1) 48):=fun k hk=>by
    rw [show fr+n+k+1=fr+n+1+k by omega,← Jq,← htail];rw [VX];rcases WY k rest.tail.length with h|h
    ·rw [VO h,Vo h];rfl
    ·rw [VW h,VJ h];have:k - rest.tail.length<5:=by omega
     rcases (by omega:k - rest.tail.length=0∨k - rest.tail.length=1∨k - rest.tail.length=2∨k - rest.tail.length=3∨k - rest.tail.length=4) with h|h|h|h|h<;>rw [h]<;>rfl
   refine ⟨(l.drop fr).take n++(rest.tail++ [48,48,48,48,48]).take 4,(rest.tail++ [48,48,48,48,48]).getD 4 0,hneg,hfr,hn,h0,?_,?_,?_,?_,hall,hd⟩
   ·simp only [Vn,VQ,VS,Vw,WN];omega
   ·intro k hk;rw [VO (by simp;omega),Xn hk,Wz]
   ·intro k h1 h2;rw [VW (by simp;omega)];rw [VQ,VS,Xs (by omega),Xn (by omega),hp5 _ (by omega)];congr 2;omega
   ·rw [VX,hp5 4 (by omega)];rfl
  ·left
   have hfrac:(decide (1<rest.length) && (decide (rest.head? =some 46) && decide (q+1=rest.length)))=false:=by
    simp only [h46,decide_true,Wp,Xp,decide_eq_false_iff_not];omega
   refine ⟨by omega,?_⟩;rw [hdec _ hfrac,if_pos (.inr ⟨rfl,fun h=>by rw [h] at hpos;exact W0 _ hpos⟩)]
 ·rw [if_neg h46] at he;have hfrac:(decide (1<rest.length) && (decide (rest.head? =some 46) && decide (q+1=rest.length)))=false:=by simp [h46]
  have hd:=hdec _ hfrac;simp only [V2,if_false] at hd;by_cases hnil:rest= []
  ·right
   have hlen:fr+n=l.length:=by rw [hnil] at hrl;simp at hrl;omega
   refine ⟨h0,by omega,by omega,?_⟩;rw [if_neg (by simp [h0,hnil])] at hd;have hp5: ∀ k,k<5→(([]:List Int)++ [48,48,48,48,48])[k]? =some (l.getD (fr+n+k+1) 48):=fun k hk=>by
    have e0:l.getD (fr+n+k+1) 48=48:=by rw [VX,VJ (by omega)];rfl
    rw [e0];rcases (by omega:k=0∨k=1∨k=2∨k=3∨k=4) with h|h|h|h|h<;>rw [h]<;>rfl
   refine ⟨(l.drop fr).take n++(([]:List Int)++ [48,48,48,48,48]).take 4,(([]:List Int)++ [48,48,48,48,48]).getD 4 0,hneg,hfr,hn,h0,?_,?_,?_,?_,fun k h1 h2=>by omega,hd⟩
   ·simp;omega
   ·intro k hk;rw [VO (by simp;omega),Xn hk,Wz]
   ·intro k h1 h2;rw [VW (by simp;omega)];rw [VQ,VS,Xs (by omega),Xn (by omega),hp5 _ (by omega)];congr 2;omega
   ·rw [VX,hp5 4 (by omega)];rfl
  ·left
   have:0<rest.length:=XR.2 hnil;refine ⟨by omega,?_⟩;rw [hd,if_pos (.inr ⟨trivial,hnil⟩)]
theorem vo: ∀ (l:List Int) {v:Int},(∀ c∈l,48≤c)→0≤v→0≤bP l v
 | [],_,_,h=>h
 |c::r,v,hl,h=>by
  rw [bP];refine vo r (fun d hd=>hl d (Vv _ hd)) ?_;have:=hl c Vr;omega
theorem nM {p:Int→Bool}: ∀ {l:List Int} {c:Int},c∈l.take (aK p l)→p c=true
 | [],_,h=>by cases h
 |d::r,c,h=>by
  rw [aK] at h;split at h
  ·rename_i hd;rw [WS] at h;rcases VN.1 h with rfl|h
   ·exact hd
   ·exact nM h
  ·cases h
theorem Gi {l:List Int} {v:Int} {n:Nat} (h:mM l=some (v,n)):0≤v:=by
 unfold mM at h;dsimp only at h;split at h
 ·cases h
 ·split at h
  ·cases h
  ·cases h;refine vo _ (fun c hc=> ?_) (XS _);rw [VH,VH] at hc;rcases hc with (hc|hc)|hc
   ·have:=nM hc;rw [fZ] at this;exact this.1
   ·have hp:cI (l.drop (aK aL l))=0∨ ∃ r,l.drop (aK aL l)=46::r∧cI (l.drop (aK aL l))=aK aL r:=by
     by_cases h0:cI (l.drop (aK aL l))=0
     ·exact .inl h0
     ·exact .inr (qb h0)
    rcases hp with hp|⟨r,hr,hp⟩
    ·rw [hp] at hc;cases hc
    ·have hr' :l.drop (aK aL l+1)=r:=by rw [← Yj,hr];rfl
     rw [hr',hp] at hc;have:=nM hc;rw [fZ] at this;exact this.1
   ·rw [List.eq_of_mem_replicate hc];decide
theorem Cp (l:List Int): ∀ (ns:List (List Int)) {i c:Int} {n:Nat},0≤i→mg l ns i=some (c,n)→0≤c
 | [],_,_,_,_,h=>by cases h
 |s::r,i,c,n,hi,h=>by
  rw [mg] at h;split at h
  ·cases h;exact hi
  ·exact Cp l r (by omega) h
theorem Kx (l:List Int): ∀ (ns:List (List Int × Int)) {c:Int} {n:Nat},opL l ns=some (c,n)→ ∃ s∈ns,s.2=c
 | [],_,_,h=>by cases h
 |(s,k)::r,c,n,h=>by
  rw [opL] at h;split at h
  ·cases h;exact ⟨_,Vr,rfl⟩
  ·obtain ⟨x,hx,he⟩:=Kx l r h;exact ⟨x,Vv _ hx,he⟩
theorem LM {l:List Int} {t:Tk} {n:Nat} (h:kQ l=some (t,n)):0≤t.num:=by
 unfold kQ at h;split at h
 ·rename_i x hx;cases h;unfold mR at hx;obtain ⟨⟨c,m⟩,hy,hz⟩:=Ws.1 hx;cases hz;exact Cp l _ (by decide) hy
 ·unfold jG at h;split at h
  ·rename_i hx;cases h;obtain ⟨s,hs,he⟩:=Kx l _ hx;have: ∀ s∈gI,0≤s.2:=by decide
   exact he ▸ this s hs
  ·split at h
   ·cases h;simp
   ·split at h
    ·cases h;simp
    ·split at h
     ·cases h;simp
     ·cases h
theorem K6 {l:List Int} {t:Tk} {n:Nat} (h:jm l=some (t,n)):0≤t.num:=by
 unfold jm at h;split at h
 ·cases h
 ·split at h
  ·cases h;simp
  ·split at h
   ·cases h;simp
   ·split at h
    ·cases h;simp
    ·split at h
     ·cases h
     ·split at h
      ·cases h;simp
      ·cases h;simp
theorem Ii {l:List Int} {t:Tk} {n:Nat} (h:bN l=some (t,n)):0≤t.num:=by
 unfold bN at h;split at h
 ·obtain ⟨⟨v,m⟩,hy,hx⟩:=Ws.1 h;cases hx;exact Gi hy
 ·split at h
  ·obtain ⟨x,_,hx⟩:=Ws.1 h;cases hx;simp
  ·split at h
   ·exact K6 h
   ·exact LM h
theorem E9 {l:List Int}: ∀ (f i:Nat) (r:List Tk),bB bN l f i= .ok r→ ∀ t∈r,0≤t.num:=by
 intro f
 induction f with
 |zero=>intro i r h;cases h;exact fun _ h=>by cases h
 |succ f ih=>
  intro i r h;simp only [bB] at h;split at h
  ·cases h;exact fun _ h=>by cases h
  ·split at h
   ·exact ih _ _ h
   ·split at h
    ·cases h
    ·rename_i t n ht
     cases hr:bB bN l f (i+n) with
     |error e=>rw [hr] at h;cases h
     |ok r' =>
      rw [hr] at h;cases h;intro u hu;rcases VN.1 hu with rfl|hu
      ·have:=Ii ht;exact this
      ·exact ih _ _ hr u hu
theorem v7 (l:List Int): ∀ t∈(bG bN l).1,0≤t.num:=by
 unfold bG;split
 ·exact fun _ h=>by cases h
 ·split
  ·exact fun _ h=>by cases h
  ·split
   ·rename_i r hr;exact E9 _ _ _ hr
   ·exact fun _ h=>by cases h
def Wf (p:PS):Prop:=(∀ t∈p.l,0≤t.num)∧ ∀ n∈p.out,wfN n
theorem Wf.skip {p:PS} (h:Wf p):Wf p.skip:=⟨fun t ht=>h.1 t (List.mem_of_mem_tail ht),h.2⟩
theorem Wf.put {p:PS} (h:Wf p) {n:Nd} (hn:wfN n):Wf (p.put n):=⟨h.1,fun m hm=>by
 rcases VH.1 hm with hm|hm
 ·exact h.2 m hm
 ·rw [Vx.1 hm];exact hn⟩
theorem RU {fin:Int} {l:List Tk} (h: ∀ t∈l,0≤t.num):0≤(hdT fin l).num:=by
 cases l with
 |nil=>exact XS _
 |cons t r=>exact h t Vr
theorem qD (k:Int) (r:Rct) (o:Int):wfN ⟨k,bX,r,o,0,0⟩:=⟨by simp [bX],XS 0,by simp⟩
theorem Tf {t:Tk} (h:0≤t.num):wfN (o7 t):=by
 unfold o7;refine ⟨?_,XS 0,by simp⟩;simp only;split
 ·simp only;omega
 ·split
  ·simp
  ·split
   ·simp only;omega
   ·simp only;omega
theorem wW (b:ByteArray):0≤(bo b).1∧(bo b).1≤255:=by
 have hb1:=kn d9 b 0 (by omega);rw [kf] at hb1;unfold bo;split
 ·dsimp only;omega
 ·dsimp only;omega
theorem zx {fin:Int} {name:Tk} {fn:Int} {n m:Nat} {p p' :PS} (h:dX fin name fn n p=some (.ok (m,p'))) (hw:Wf p) (h0:0≤fn) (h1:fn≤255):Wf p' :=by
 unfold dX at h;dsimp only at h;split at h
 ·cases h
 ·split at h
  ·cases h
  ·split at h
   ·cases h
   ·cases h;exact hw.skip.put ⟨by simp [bX],h0,h1⟩
theorem Dg (fin:Int): ∀ (f:Nat) (j:Job) (p:PS) (n:Nat) (p' :PS),bK fin f j p=some (.ok (n,p'))→Wf p→Wf p'
 |0,_,_,_,_,h,_=>by cases h
 |f+1,j,p,n,p',h,hw=>by
  have ih:=Dg fin f
  cases j with
  |level k=>
   rw [bK] at h;split at h
   ·exact ih _ _ _ _ h hw
   ·obtain ⟨n1,p1,h1,h2⟩:=db h;exact ih _ _ _ _ h2 (ih _ _ _ _ h1 hw)
  |loop k=>
   rw [bK] at h;try dsimp only at h
   split at h
   ·obtain ⟨n1,p1,h1,h2⟩:=db h;exact ih _ _ _ _ h2 ((ih _ _ _ _ h1 hw.skip).put (qD _ _ _))
   ·cases h;exact hw
  |sign=>
   rw [bK] at h;try dsimp only at h
   split at h
   ·obtain ⟨n1,p1,h1,h2⟩:=db h;cases h2;exact (ih _ _ _ _ h1 hw.skip).put (qD _ _ _)
   ·obtain ⟨n1,p1,h1,h2⟩:=db h;split at h2
    ·obtain ⟨n2,p2,h3,h4⟩:=db h2;cases h4;exact (ih _ _ _ _ h3 (ih _ _ _ _ h1 hw).skip).put (qD _ _ _)
    ·cases h2;exact ih _ _ _ _ h1 hw
  |pct=>
   rw [bK] at h;obtain ⟨n1,p1,h1,h2⟩:=db h;exact ih _ _ _ _ h2 (ih _ _ _ _ h1 hw)
  |pctl=>
   rw [bK] at h;try dsimp only at h
   split at h
   ·exact ih _ _ _ _ h (hw.skip.put (qD _ _ _))
   ·cases h;exact hw
  |prim=>
   rw [bK] at h;try dsimp only at h
   split at h
   ·cases h;exact hw.skip.put (Tf (RU hw.1))
   ·split at h
    ·cases h;exact hw.skip.put (qD _ _ _)
    ·split at h
     ·obtain ⟨n1,p1,h1,h2⟩:=db h;split at h2
      ·cases h2
      ·cases h2;exact (ih _ _ _ _ h1 hw.skip).skip
     ·split at h
      ·split at h
       ·cases h
       ·have hb:=wW (hdT fin p.l).text;split at h
        ·cases h
        ·split at h
         ·exact zx h hw.skip.skip hb.1 hb.2
         ·obtain ⟨n1,p1,h1,h2⟩:=db h;exact zx h2 (ih _ _ _ _ h1 hw.skip.skip) hb.1 hb.2
      ·cases h
  |args fn i=>
   rw [bK] at h;try dsimp only at h
   have hgo: ∀ p0:PS,Wf p0→(if (hdT fin p0.l).kind=11 then bK fin f (.args fn (i+1)) p0.skip else some (.ok (i+1,p0)))=some (.ok (n,p'))→Wf p' :=by
    intro p0 hw0 h0;split at h0
    ·exact ih _ _ _ _ h0 hw0.skip
    ·cases h0;exact hw0
   split at h
   ·obtain ⟨n1,p1,h1,h2⟩:=db h;exact hgo p1 (ih _ _ _ _ h1 hw) h2
   ·split at h
    ·cases h
    ·exact hgo _ (hw.skip.put (qD _ _ _)) h
def kJ (G:Gr) (i k:Nat):Bool:=match (au G)[i]?,(au G)[k]? with
 |some c,some d=>bH (aU G c) (dU d.col d.row)
 |_,_=>false
def aQ (G:Gr):Nat→Nat→Nat→Bool
 |0,i,k=>kJ G i k
 |v+1,i,k=>aQ G v i k||(aQ G v i v && aQ G v v k)
section
variable {G:Gr}
theorem rk {v i k:Nat} (h:aQ G v i k=true): ∀ u,v≤u→aQ G u i k=true:=fun u hu=>by
 induction u with
 |zero=>rw [Nat.le_zero.1 hu] at h;exact h
 |succ u ih=>
  rcases WY u v with h1|h1
  ·rw [show u+1=v by omega];exact h
  ·rw [aQ,ih h1,Y3]
theorem zS: ∀ v j i k,j<v→aQ G v i j=true→aQ G v j k=true→aQ G v i k=true:=fun v=>by
 induction v with
 |zero=>intro j i k h;omega
 |succ v ih=>
  intro j i k hj h1 h2;simp only [aQ,Xt,VP] at h1 h2 ⊢;rcases WY j v with h3|h3
  ·rcases h1 with h1|⟨h1,h4⟩
   ·rcases h2 with h2|⟨h2,h5⟩
    ·exact .inl (ih j i k h3 h1 h2)
    ·exact .inr ⟨ih j i v h3 h1 h2,h5⟩
   ·rcases h2 with h2|⟨h2,h5⟩
    ·exact .inr ⟨h1,ih j v k h3 h4 h2⟩
    ·exact .inr ⟨h1,h5⟩
  ·have e:j=v:=by omega
   subst e;have h4:aQ G j i j=true:=h1.elim id fun h=>h.1;have h5:aQ G j j k=true:=h2.elim id fun h=>h.2;exact .inr ⟨h4,h5⟩
theorem pU {i k:Nat}:kJ G i k=true↔ ∃ c d,(au G)[i]? =some c∧(au G)[k]? =some d∧bH (aU G c) (dU d.col d.row)=true:=by
 unfold kJ;constructor
 ·intro h;split at h
  ·rename_i c d h1 h2;exact ⟨c,d,h1,h2,h⟩
  ·cases h
 ·rintro ⟨c,d,h1,h2,h⟩;rw [h1,h2];exact h
theorem JM: ∀ v i k,aQ G v i k=true→ ∃ c d,(au G)[i]? =some c∧(au G)[k]? =some d∧Rc G c (dU d.col d.row):=fun v=>by
 induction v with
 |zero=>
  intro i k h;obtain ⟨c,d,h1,h2,h3⟩:=pU.1 h;exact ⟨c,d,h1,h2,.use (Xz h1) h3⟩
 |succ v ih=>
  intro i k h;simp only [aQ,Xt,VP] at h;rcases h with h|⟨h1,h2⟩
  ·exact ih i k h
  ·obtain ⟨c,d,a1,a2,a3⟩:=ih _ _ h1;obtain ⟨d',e,b1,b2,b3⟩:=ih _ _ h2;rw [a2] at b1;cases b1;exact ⟨c,e,a1,b2,Rc.trans a3 (Xz a2) b3⟩
theorem Nc {c:Rf} {r:Rct} (h:Rc G c r): ∀ i k d,(au G)[i]? =some c→(au G)[k]? =some d→r=dU d.col d.row→aQ G G.length i k=true:=by
 induction h with
 |use hc ht=>
  intro i k d h1 h2 h3;subst h3;exact rk (v:=0) (pU.2 ⟨_,d,h1,h2,ht⟩) _ (Vt _)
 | @via c e r hc he ht _ ih=>
  intro i k d h1 h2 h3;obtain ⟨j,hj,hje⟩:=WJ he;have hj2:(au G)[j]? =some e:=by rw [Vo hj,hje]
  have hjl:j<G.length:=by rw [au,VK] at hj;exact hj
  exact zS _ j i k hjl (rk (v:=0) (pU.2 ⟨c,e,h1,hj2,ht⟩) _ (Vt _)) (ih j k d hj2 h2 h3)
theorem P7 {i k:Nat} {c d:Rf} (h1:(au G)[i]? =some c) (h2:(au G)[k]? =some d):aQ G G.length i k=true↔Rc G c (dU d.col d.row):=by
 constructor
 ·intro h;obtain ⟨c',d',a1,a2,a3⟩:=JM _ _ _ h;rw [h1] at a1;rw [h2] at a2;cases a1;cases a2;exact a3
 ·intro h;exact Nc h i k d h1 h2 rfl
open Classical in
open Classical in
end
def aP (G:Gr):Nx:=(List.range G.length).map fun i=>(List.range G.length).filter fun k=>kJ G i k
def pathN (X:Nx) (i k:Nat):Prop:= ∃ m∈ax X i,Rch X m k
theorem di (G:Gr):(aP G).length=G.length:=by simp [aP]
theorem qH {G:Gr} {i k:Nat} (h:kJ G i k=true):i<G.length∧k<G.length:=by
 obtain ⟨c,d,h1,h2,_⟩:=pU.1 h;have l1:=(VI.1 h1).1;have l2:=(VI.1 h2).1;rw [au,VK] at l1 l2;exact ⟨l1,l2⟩
theorem ju {G:Gr} {i k:Nat}:k∈ax (aP G) i↔kJ G i k=true:=by
 constructor
 ·intro h;have hi:=oN h;rw [di] at hi;simp [ax,aP,hi] at h;exact h.2
 ·intro h;obtain ⟨hi,hk⟩:=qH h;simp [ax,aP,hi,hk,h]
theorem tU {G:Gr}: ∀ i,∀ k∈ax (aP G) i,k<(aP G).length:=fun i k h=>by
 rw [di];exact (qH (ju.1 h)).2
theorem pathN.trans {X:Nx} {i j k:Nat} (h:pathN X i j) (r:Rch X j k):pathN X i k:=by
 obtain ⟨m,hm,h⟩:=h;exact ⟨m,hm,h.trans r⟩
theorem pathN.rch {X:Nx} {i k:Nat} (h:pathN X i k):Rch X i k:=by
 obtain ⟨m,hm,h⟩:=h;exact .step hm h
theorem JO {G:Gr}: ∀ v i k,aQ G v i k=true→pathN (aP G) i k:=fun v=>by
 induction v with
 |zero=>intro i k h;exact ⟨k,ju.2 h,.refl k⟩
 |succ v ih=>
  intro i k h;simp only [aQ,Xt,VP] at h;rcases h with h|⟨h1,h2⟩
  ·exact ih i k h
  ·exact (ih _ _ h1).trans (ih _ _ h2).rch
theorem JN {G:Gr} {m k:Nat} (r:Rch (aP G) m k): ∀ i,kJ G i m=true→aQ G G.length i k=true:=by
 induction r with
 |refl k=>intro i h;exact rk (v:=0) h _ (Vt _)
 |step h _ ih=>
  intro i hi;exact zS _ _ _ _ (qH hi).2 (rk (v:=0) hi _ (Vt _)) (ih _ (ju.1 h))
theorem gz {G:Gr} {i k:Nat}:aQ G G.length i k=true↔pathN (aP G) i k:=
 ⟨JO _ _ _,fun ⟨_,hm,r⟩=>JN r i (ju.1 hm)⟩
theorem yZ {G:Gr} {i:Nat}:aQ G G.length i i=true↔onC (aP G) i:=gz
theorem Hq {G:Gr} {i:Nat}:(aQ G G.length i i||(List.range G.length).any fun k=>aQ G G.length i k && aQ G G.length k k)=true↔fM (aP G) i:=by
 rw [Xt,Xg];constructor
 ·rintro (h|⟨k,_,h⟩)
  ·exact ⟨i,gz.1 h,.refl i⟩
  ·rw [VP] at h;exact ⟨k,gz.1 h.2,(gz.1 h.1).rch⟩
 ·rintro ⟨u,hu,r⟩
  cases r with
  |refl=>exact .inl (gz.2 hu)
  |step h r=>
   have h1:=gz.2 hu;have hl:u<G.length:=by
    obtain ⟨m,hm,_⟩:=hu;exact (qH (ju.1 hm)).1
   exact .inr ⟨u,VT.2 hl,by rw [h1,gz.2 ⟨_,h,r⟩];rfl⟩
theorem Sq {X:Nx} {i k:Nat} (h:k∈ax X i) (hc:fM X k):fM X i:=by
 obtain ⟨u,hu,r⟩:=hc;exact ⟨u,hu,.step h r⟩
theorem FC (b:Bool) (w:World):aF Tryz.prog 235 [.bool b] w (.agg (eZ (oM b)).toArray):=by
 refine aA Tryz.func235 rfl Tryz.ntmps235 rfl ?_;repeat' (first|refine sT ?_|refine sM fun _=>?_|refine sC ?_ ?_<;>intro hb<;>try omega|fail)
 all_goals ((refine eRC ?_);simp_all [oM,eZ,aB])
theorem sn (c:Int) (w:World):aF Tryz.prog 237 [.int .i64 c] w (.agg (eZ (iV c)).toArray):=by
 refine aA Tryz.func237 rfl Tryz.ntmps237 rfl ?_;repeat' (first|refine sT ?_|refine sM fun _=>?_|refine sC ?_ ?_<;>intro hb<;>try omega|fail)
 all_goals ((refine eRC ?_);simp only [iV];(first|rw [if_pos (by omega)]|rw [if_neg (by omega)]);rfl)
theorem IL (n:Int) (h: -9223372036854775808≤n) (w:World):aF Tryz.prog 239 [.int .i64 n] w (.agg (eZ (yY n)).toArray):=by
 refine aA Tryz.func239 rfl Tryz.ntmps239 rfl ?_;have hf: ∀ w,aF Tryz.prog 237 [.int .i64 3] w (.agg #[.int .u8 4,.int .i64 3,.string aB]):=fun w=>sn 3 w;repeat' (first|apply ag;exact rfl;exact rfl;intro w hm;exact hf w|refine sT ?_|refine sM fun _=>?_|refine sC ?_ ?_<;>intro hb<;>try omega|fail)
 ·(refine eRC ?_);rw [yY,if_pos (by omega)];rfl
 ·(refine eRC ?_);rw [yY,if_neg (by omega)];rfl
def Sd (c:Int):ByteArray:=if 1≤c∧c≤7 then dq.getD c.toNat aB else aB
theorem BK (c:Int) (w:World):aF Tryz.prog 302 [.int .i64 c] w (.string (Sd c)):=by
 refine aA Tryz.func302 rfl Tryz.ntmps302 rfl ?_;repeat' (first|refine zZB ?_|refine sM fun _=>?_|refine sC ?_ ?_<;>intro hb<;>try omega|fail)
 all_goals first
  |(refine rT1 ?_);subst_vars;rfl
  |(refine rT1 ?_);rw [Sd,if_neg (by omega)];rfl
theorem IQ (a:ByteArray) (ha:a.size≤1000000) (w:World):aF Tryz.prog 236 [.string a] w (.tuple #[.int .i64 (jI a).1,.int .i64 (jI a).2]):=by
 refine aA Tryz.func236 rfl Tryz.ntmps236 rfl ?_;have hU:=fun w=>mG a ha w;unfold jI;generalize upB a=u at hU;obtain ⟨X,hX⟩: ∃ X,kG u (dq.drop 1) 1=X:=⟨_,rfl⟩;rw [hX];repeat' (first|refine zZB ?_|refine sM fun _=>?_|refine sC ?_ ?_<;>intro hb<;>try omega|fail)
 refine ay [0,2,3] rfl (fun i:Nat=> [(4,.int .i64 ((i:Int)+1))]) (fun _=> []) (fun i=>i≤7∧X=kG u (dq.drop (i+1)) ((i:Int)+1)) (fun i=>7 - i) 0 ⟨by omega,hX.symm⟩ sB (.refl _) ?_;rintro i ⟨hi,hc⟩;by_cases hlt:i<7
 ·rw [vV (by omega),kG] at hc;have hN: ∀ w,aF Tryz.prog 302 [.int .i64 ((i:Int)+1)] w (.string (dq.getD (i+1) aB)):=fun w=>by
   have:=BK ((i:Int)+1) w;rw [Sd,if_pos (by omega)] at this;exact this
  generalize dq.getD (i+1) aB=x at hN hc;repeat' (first|apply ag (f:=302);exact rfl;exact rfl;intro w' hm;exact hN w'|apply ag;exact rfl;exact rfl;intro w hm;exact hU w|refine zZM ?_|refine sM fun _=>?_|refine sC ?_ ?_<;>intro hb<;>try omega|fail)
  all_goals first
   |refine dm eIO rfl rfl rfl (.nil _) ?_;rw [hc,if_pos (by assumption)];done
   | (refine ⟨i + 1, ⟨by omega, ?_⟩, by omega, ?_, ?_, .nil _⟩
      ·rw [hc,if_neg (by assumption)];rfl
      ·exact sB
      ·exact sB)
 ·have e:i=7:=by omega
  subst e;repeat' (first|refine zZB ?_|refine sM fun _=>?_|refine sC ?_ ?_<;>intro hb<;>try omega|fail)
  all_goals (refine dm eIO rfl rfl rfl (.nil _) ?_;rw [hc];rfl)
theorem II (c:Int) (h1:1≤c) (h2:c≤5) (w:World):aF Tryz.prog 385 [.agg (eZ ⟨4,c,aB⟩).toArray] w (.string (dq.getD c.toNat aB)):=by
 refine aA Tryz.func385 rfl Tryz.ntmps385 rfl ?_;have he:decide ((⟨4,c,aB⟩:Vl)=iV 7)=false:=by rw [← KM];simp [eqV,iV];omega
 have hv:rT ⟨4,c,aB⟩=0:=by
  have h6:decide (c≤6)=true:=decide_eq_true (by omega);simp [rT,xL,h1,h6]
 have hc:=fun w=>BJ ⟨4,c,aB⟩ (by dsimp only;omega) w;rw [hv] at hc;have hN:=fun w=>BK c w;rw [show Sd c=dq.getD c.toNat aB from if_pos ⟨h1,by omega⟩] at hN;repeat' (first|apply (lO (id:=1) [1] []);kernel_rfl;kernel_rfl;kernel_rfl|apply ag;exact rfl;exact rfl;intro w hm;exact sn 7 w|apply dC;(iterate 3 exact rfl);apply Ll (a:=⟨4,c,aB⟩) (b:=iV 7) he;exact rfl;exact rfl|apply ag;exact rfl;exact rfl;intro w hm;exact hc w|apply ag;exact rfl;exact rfl;intro w hm;exact hN w|refine sT ?_|refine sW ?_|refine sM fun _=>?_|refine sC ?_ ?_<;>intro hb<;>try omega|refine sCW ?_ ?_<;>intro hb<;>try omega|fail)
 all_goals ((refine rT1 ?_);rfl)
end Go.SL
