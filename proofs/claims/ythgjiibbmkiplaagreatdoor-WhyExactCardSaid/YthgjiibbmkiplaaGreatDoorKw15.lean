/-
  Lemmas and walks, put together: C6 D1 C7 D2 Gp Pl Rb Re Pl4 Pl5 Gq D11 Lu Lp Pl2 Pl6 Gu.
-/
import Derived.Test.YthgjiibbmkiplaaGreatDoorKw12
import Derived.Test.YthgjiibbmkiplaaGreatDoorKw14
set_option linter.unusedSimpArgs false
set_option linter.unusedVariables false
set_option maxRecDepth 20000
set_option maxHeartbeats 16000000
namespace Go.SL
open Go Go.Proofs
attribute [local irreducible] W WL WQ WG WA WX WLI WR WT VOp thn blk bA scp aY aX bw FnAt FnIn FnP
theorem LR (fin:Int) (f:Nat) (p:PS) (h:(hdT fin p.l).kind=7):cy fin (f+1) .prim p=GZ f (hdT fin p.l) fin p:=by
 rw [cy];dsimp only;rw [if_neg (by omega),if_neg (by omega),if_neg (by omega),if_pos h]
 rfl
theorem IJ (f:Nat) (ih: ∀ f' ≤f,POK f' (.level 1) 169 []):POK (f+1) .prim 292 []:=by
 intro toks A cap fin g p lv B cb r R w0 hc hl hat hrun;refine yR Tryz.func292 rfl Tryz.ntmps292 rfl ?_;obtain ⟨t,ht⟩: ∃ t,hdT fin p.l=t:=⟨_,rfl⟩;have hh:=fun w hm=>At.head' (fin:=fin) (g:=g) (B:=B) (cb:=cb) (out:=p.out) (H:=pB g lv A cap fin toks B cb p.out++R) (w0:=w0) hat ht (MSub.pick .hd (.pick .hd (.pick .hd (.nil _)))) w hm;by_cases h7:t.kind=7
 ·rw [LR _ _ _ (by rw [ht];exact h7),ht] at hrun;have hcl:=SF f t ih toks A cap fin g p lv B cb r;unfold DD at hcl;rw [if_pos ⟨ht,h7⟩] at hcl;repeat' (first|apply aa (f:=170);exact rfl;exact rfl;exact hh|refine bL (f:=298) rfl rfl (FnP.msub (hcl _ w0 hc hl hat hrun) (MSub.pick pK (MSub.pick pK (MSub.pick pK (MSub.refl _))))) ?_ ?_|rintro _ _ ⟨rfl,n,p',lv',B',cb',rfl,h2,rfl⟩|rintro _ _ ⟨e,rfl,rfl,h3⟩|refine zZC ?_|refine sM fun _=>?_|refine sC ?_ ?_<;>intro hb<;>try omega|fail)
  ·refine eR (B' :=B') (cb' :=cb') (by first|exact .inr rfl|exact .inl rfl) rfl rfl h2 ?_;simp only [XH,Xc,Xd,pB];exact mS
  ·exact cR rfl (MSub.trans (.drop .hd (.refl _)) h3)
 rw [cy] at hrun;dsimp only at hrun;rw [ht] at hrun;by_cases h14:1≤t.kind∧t.kind≤4
 ·rw [if_pos h14] at hrun;cases hrun;rcases (by omega:t.kind=1∨t.kind=2∨t.kind=3∨t.kind=4) with hk|hk|hk|hk
  ·repeat' first|apply aa (f:=170);exact rfl;exact rfl;exact hh|refine bL (f:=296) rfl rfl (FnP.msub (sr ⟨1,t.num,aS⟩ toks A cap fin g p _ B cb (.ok (0,p.skip.put (Dc t))) _ w0 hc hl hat (by dsimp only;rw [if_neg (by rw [ht];omega)];simp [Dc,hk])) (MSub.pick pK (MSub.pick pK (MSub.pick pK (MSub.refl _))))) ?_ ?_|rintro _ _ ⟨rfl,n,p',lv',B',cb',h,h2,rfl⟩|(rintro _ _ ⟨e,h,rfl,h3⟩;cases h)|refine zZC ?_|refine sM fun _=>?_|refine sC ?_ ?_<;>intro hb<;>try omega|fail
   all_goals first
    |omega
    | (refine eR (B' := B') (cb' := cb') (by first | exact .inr rfl | exact .inl rfl) rfl h h2 ?_
       simp only [XH,Xc,Xd,pB];exact mS)
  ·repeat' first|apply aa (f:=170);exact rfl;exact rfl;exact hh|refine bL (f:=296) rfl rfl (FnP.msub (sr ⟨3,0,t.text⟩ toks A cap fin g p _ B cb (.ok (0,p.skip.put (Dc t))) _ w0 hc hl hat (by dsimp only;rw [if_neg (by rw [ht];omega)];simp [Dc,hk])) (MSub.pick pK (MSub.pick pK (MSub.pick pK (MSub.refl _))))) ?_ ?_|rintro _ _ ⟨rfl,n,p',lv',B',cb',h,h2,rfl⟩|(rintro _ _ ⟨e,h,rfl,h3⟩;cases h)|refine zZC ?_|refine sM fun _=>?_|refine sC ?_ ?_<;>intro hb<;>try omega|fail
   all_goals first
    |omega
    | (refine eR (B' := B') (cb' := cb') (by first | exact .inr rfl | exact .inl rfl) rfl h h2 ?_
       simp only [XH,Xc,Xd,pB];exact mS)
  ·repeat' first|apply aa (f:=170);exact rfl;exact rfl;exact hh|refine bL (f:=296) rfl rfl (FnP.msub (sr ⟨2,t.num,aS⟩ toks A cap fin g p _ B cb (.ok (0,p.skip.put (Dc t))) _ w0 hc hl hat (by dsimp only;rw [if_neg (by rw [ht];omega)];simp [Dc,hk])) (MSub.pick pK (MSub.pick pK (MSub.pick pK (MSub.refl _))))) ?_ ?_|rintro _ _ ⟨rfl,n,p',lv',B',cb',h,h2,rfl⟩|(rintro _ _ ⟨e,h,rfl,h3⟩;cases h)|refine zZC ?_|refine sM fun _=>?_|refine sC ?_ ?_<;>intro hb<;>try omega|fail
   all_goals first
    |omega
    | (refine eR (B' := B') (cb' := cb') (by first | exact .inr rfl | exact .inl rfl) rfl h h2 ?_
       simp only [XH,Xc,Xd,pB];exact mS)
  ·repeat' first|apply aa (f:=170);exact rfl;exact rfl;exact hh|refine bL (f:=296) rfl rfl (FnP.msub (sr ⟨4,t.num,aS⟩ toks A cap fin g p _ B cb (.ok (0,p.skip.put (Dc t))) _ w0 hc hl hat (by dsimp only;rw [if_neg (by rw [ht];omega)];simp [Dc,hk])) (MSub.pick pK (MSub.pick pK (MSub.pick pK (MSub.refl _))))) ?_ ?_|rintro _ _ ⟨rfl,n,p',lv',B',cb',h,h2,rfl⟩|(rintro _ _ ⟨e,h,rfl,h3⟩;cases h)|refine zZC ?_|refine sM fun _=>?_|refine sC ?_ ?_<;>intro hb<;>try omega|fail
   all_goals first
    |omega
    | (refine eR (B' := B') (cb' := cb') (by first | exact .inr rfl | exact .inl rfl) rfl h h2 ?_
       simp only [XH,Xc,Xd,pB];exact mS)
 rw [if_neg h14] at hrun;by_cases h5:t.kind=5
 ·rw [if_pos h5] at hrun;cases hrun;repeat' (first|apply aa (f:=170);exact rfl;exact rfl;exact hh|apply aj (f:=266);exact rfl;exact rfl;exact hat.skip hc (c:=5) (by rw [ht];exact h5) (by decide) (MSub.pick pK (MSub.pick pK (MSub.pick pK (MSub.refl _))));rintro _ _ ⟨rfl,lv1,h1,rfl⟩|apply aj (f:=267);exact rfl;exact rfl;exact FnIn.msub (lL ⟨2,cU,t.rect,0,0,0⟩ _ _ _ _ _ _ _ _ _ (At.len hat hl) _ _) (MSub.pick pK (MSub.pick pK (MSub.pick pK (MSub.refl _))));rintro _ _ ⟨rfl,B3,cb3,rfl⟩|refine zZC ?_|refine sM fun _=>?_|refine sC ?_ ?_<;>intro hb<;>try omega|fail)
  all_goals first
   |omega
   | (refine eR (p' := p.skip.put ⟨2, cU, t.rect, 0, 0, 0⟩) (B' := B3) (cb' := cb3) (by first | exact .inr rfl | exact .inl rfl) rfl rfl (h1.put _) ?_
      simp only [XH,Xc,Xd,pB];exact mS)
 rw [if_neg h5] at hrun;by_cases h9:t.kind=9
 ·rw [if_pos h9] at hrun;obtain ⟨r1,hr1,hr2⟩:=d9 hrun;repeat' (first|apply aa (f:=170);exact rfl;exact rfl;exact hh|apply aj (f:=266);exact rfl;exact rfl;exact hat.skip hc (c:=9) (by rw [ht];exact h9) (by decide) (MSub.pick pK (MSub.pick pK (MSub.pick pK (MSub.refl _))));rintro _ _ ⟨rfl,lv1,h1,rfl⟩|refine bL (f:=169) rfl rfl (FnP.msub (ih f (Xy _) toks A cap fin g p.skip _ B cb r1 _ w0 hc hl (At1.at h1) hr1) (MSub.pick pK (MSub.pick pK (MSub.pick pK (MSub.refl _))))) ?_ ?_|rintro _ _ ⟨rfl,n,p',lv',B',cb',rfl,h2,rfl⟩|rintro _ _ ⟨e,rfl,rfl,h3⟩|(rcases hr2 with ⟨e,h,_⟩|⟨n1,p1,h,hw⟩;cases h;cases h;refine bL (f:=297) rfl rfl (FnP.msub (Cy 10 (by decide) toks A cap fin g p' _ B' cb' r _ w0 hc hl h2 hw) (MSub.pick pK (MSub.pick pK (MSub.pick pK (MSub.refl _))))) ?_ ?_)|refine zZC ?_|refine sM fun _=>?_|refine sC ?_ ?_<;>intro hb<;>try omega|fail)
  ·refine eR (B' :=B') (cb' :=cb') (by first|exact .inr rfl|exact .inl rfl) rfl rfl h2 ?_;simp only [XH,Xc,Xd,pB];exact mS
  ·exact cR rfl (MSub.trans (.drop .hd (.refl _)) h3)
  ·rcases hr2 with ⟨e',h,h5⟩|⟨n1,p1,h,h5⟩
   ·cases h;exact cR h5 (MSub.trans (.drop .hd (.refl _)) h3)
   ·cases h
 rw [if_neg h9,if_neg h7] at hrun;cases hrun;repeat' (first|apply aa (f:=170);exact rfl;exact rfl;exact hh|refine bL (f:=171) rfl rfl (jK _ _ _ _ _ (fun _ _=>False)) ?_ ?_|exact fun _ _ h=>h.elim|rintro _ _ ⟨rfl,rfl⟩|refine zZC ?_|refine sM fun _=>?_|refine sC ?_ ?_<;>intro hb<;>try omega|fail)
 all_goals first
  |omega
  | (refine cR rfl ?_
     simp only [XH,Xc,Xd,pB];exact mS)
theorem LX (f:Nat):(∀ k:Int,1≤k→k≤4→POK f (.level k) 234 [.int .i64 k])∧POK f .sign 263 []∧POK f .pct 282 []∧POK f .prim 292 []∧POK f (.level 1) 169 []:=by
 induction f using Nat.strongRecOn with
 |_ f ih=>
  cases f with
  |zero=>
   refine ⟨fun k _ _=> ?_,?_,?_,?_,?_⟩;all_goals exact fun toks A cap fin g p lv B cb r R w0 hc hl hat h=>by cases h
  |succ f=>
   have hL: ∀ k:Int,1≤k→k≤4→POK (f+1) (.level k) 234 [.int .i64 k]:=fun k h1 h4=>
    O6 f k h1 h4 (fun h3 f' hf' =>(ih f' (by omega)).1 (k+1) (by omega) (by omega)) (fun f' hf' =>(ih f' (by omega)).2.1)
   refine ⟨hL,Ru f (ih f (by omega)).2.1 (ih f (by omega)).2.2.1,IM f (ih f (by omega)).2.2.2.1,IJ f (fun f' hf' =>(ih f' (by omega)).2.2.2.2),Jd (f+1) (hL 1 (by omega) (by omega))⟩
attribute [local irreducible] RW
def mR (a b:ByteArray):ByteArray × Bool:=if (aD a).take b.size=aD b then (sub a b.size a.size,true) else (a,false)
theorem Sx (a b:ByteArray) (ha:a.size≤1000000) (w:World):aL Tryz.prog 156 [.string a,.string b] w (.tuple #[.string (mR a b).1,.bool (mR a b).2]):=by
 refine aB Tryz.func156 rfl Tryz.ntmps156 rfl ?_;have hp:=qQ a b;unfold mR;by_cases h:(aD a).take b.size=aD b
 ·rw [if_pos h];rw [decide_eq_true h] at hp;have hb:b.size≤a.size:=by
   have:=congrArg List.length h;rw [XA,aH,aH] at this;omega
  repeat' first|apply aa;exact rfl;exact rfl;intro w hm;exact hp w|refine zZE ?_|refine sM fun _=>?_|refine sC ?_ ?_<;>intro hb<;>try omega|fail
  all_goals exact di eIO rfl rfl rfl (.refl _) rfl
 ·rw [if_neg h];rw [decide_eq_false h] at hp;repeat' (first|apply aa;exact rfl;exact rfl;intro w hm;exact hp w|refine zZE ?_|refine sM fun _=>?_|refine sC ?_ ?_<;>intro hb<;>try omega|fail)
  all_goals exact di eIO rfl rfl rfl (.refl _) rfl
theorem PX (a b:ByteArray) (ha:a.size≤1000000) (w:World):aL Tryz.prog 125 [.string a,.string b] w (.tuple #[.string (mR a b).1,.bool (mR a b).2]):=by
 refine aB Tryz.func125 rfl Tryz.ntmps125 rfl ?_;repeat' (first|apply aa;exact rfl;exact rfl;intro w hm;exact Sx a b ha w|refine sT ?_|refine sM fun _=>?_|refine sC ?_ ?_<;>intro hb<;>try omega|fail)
 all_goals exact di eIO rfl rfl rfl (.refl _) rfl
def Vq (b:ByteArray):Vl × Bool:=(cU,decide (b=aS))
def IG:ByteArray:=⟨#[39]⟩
def Vp (b:ByteArray):Vl × Bool:=(⟨3,0,(mR b IG).1⟩,(mR b IG).2)
def Uk (b:ByteArray):Vl × Bool:=(kH ⟨3,0,b⟩,decide ((kH ⟨3,0,b⟩).kind=2))
def Uj (b:ByteArray):Vl × Bool:=(mL (vX b).1,decide ((vX b).2=0) && decide ((vX b).1≤5))
def Ui (b:ByteArray):Vl × Bool:=if (uV (aD b)).2=3 then (mL 3,true) else (O2 (uV (aD b)).1,decide ((uV (aD b)).2=0))
def EW (x:Vl × Bool):Value:= .tuple #[.agg (fp x.1).toArray,.bool x.2]
theorem Rq (b:ByteArray) (g:Nat) (w:World) (hr:Ro w g 0 [.string b]):aL Tryz.prog 157 [.pointer (some ⟨g,0,none⟩)] w (EW (Vq b)):=by
 refine aB Tryz.func157 rfl Tryz.ntmps157 rfl ?_;have hm:Mem w w []:=Mem.refl w;repeat' (first|rename_i g1;refine mZ (id:=1) 3 [.box g1 173 (fp cU)] (by kernel_rfl) (by kernel_rfl) rfl ?_|apply HY;exact rfl;intro D ht;apply bu (o:=0) (off:=0);exact hr;exact rfl;exact rfl;exact fun _=>rfl|apply oC;exact rfl;exact rfl;exact pK;(iterate 3 exact rfl);decide;exact .refl _|refine sT ?_|refine sG ?_|refine sM fun _=>?_|refine sC ?_ ?_<;>intro hb<;>try omega|fail)
 all_goals ((refine lB ?_);rfl)
theorem Rp (b:ByteArray) (hb:b.size≤1000000) (g:Nat) (w:World) (hr:Ro w g 0 [.string b]):aL Tryz.prog 158 [.pointer (some ⟨g,0,none⟩)] w (EW (Vp b)):=by
 refine aB Tryz.func158 rfl Tryz.ntmps158 rfl ?_;repeat' (first|apply ak;exact rfl;apply bu (o:=0) (off:=0);exact hr;exact rfl;exact rfl|apply aa;exact rfl;exact rfl;intro w hm;exact PX b IG hb w|refine sT ?_|refine sM fun _=>?_|refine sC ?_ ?_<;>intro hb<;>try omega|fail)
 all_goals ((refine lB ?_);rfl)
theorem Rm (b:ByteArray) (hb:b.size≤1000000) (g:Nat) (w:World) (hr:Ro w g 0 [.string b]):aL Tryz.prog 159 [.pointer (some ⟨g,0,none⟩)] w (EW (Uk b)):=by
 refine aB Tryz.func159 rfl Tryz.ntmps159 rfl ?_;have hT:=fun w' =>M4 ⟨3,0,b⟩ rfl hb w';unfold Uk;generalize kH ⟨3,0,b⟩=v at hT;repeat' (first|apply ak;exact rfl;apply bu (o:=0) (off:=0);exact hr;exact rfl;exact rfl|apply aa;exact rfl;exact rfl;intro w hm;exact hT w|rename_i g1 g2;refine CB (id:=2) (g:=g1) (T:=173) (xs' :=fp v) (R:= [.box g2 173 (fp v)]) (fun D=> [if D 4 then .int .u8 v.kind else .int .u8 0,if D 4 then .int .i64 v.num else .int .i64 0,if D 4 then .string v.text else .string aS]) (by kernel_rfl) (by kernel_rfl) pK rfl (by intro D hD;simp [hD 4 (by decide),fp]) ?_|refine sT ?_|refine sG ?_|refine sM fun _=>?_|refine sC ?_ ?_<;>intro hb<;>try omega|fail)
 all_goals ((refine lB ?_);rfl)
theorem Q9 (b:ByteArray) (hb:b.size≤1000000) (g:Nat) (w:World) (hr:Ro w g 0 [.string b]) (hW:Words w):aL Tryz.prog 161 [.pointer (some ⟨g,0,none⟩)] w (EW (Uj b)):=by
 refine aB Tryz.func161 rfl Tryz.ntmps161 rfl ?_;unfold Uj;have hC:=fun (w' :World) (h:Words w')=>SW b hb w' h;generalize vX b=x at hC;obtain ⟨c,e⟩:=x;repeat' (first|apply ak;exact rfl;apply bu (o:=0) (off:=0);exact hr;exact rfl;exact rfl|apply aa (f:=162);exact rfl;exact rfl;intro w' hm';exact hC w' (hW.next hm')|apply aa (f:=163);exact rfl;exact rfl;intro w' hm';exact nW c w'|refine sT ?_|refine sM fun _=>?_|refine sC ?_ ?_<;>intro hb<;>try omega|fail)
 all_goals ((refine lB ?_);simp_all [EW,fp])
theorem Q8 (b:ByteArray) (hb:b.size≤1000000) (g:Nat) (w:World) (hr:Ro w g 0 [.string b]):aL Tryz.prog 164 [.pointer (some ⟨g,0,none⟩)] w (EW (Ui b)):=by
 refine aB Tryz.func164 rfl Tryz.ntmps164 rfl ?_;unfold Ui;have hC:=fun (w' :World)=>vW b hb w';generalize uV (aD b)=x at hC;obtain ⟨n,e⟩:=x;repeat' (first|apply ak;exact rfl;apply bu (o:=0) (off:=0);exact hr;exact rfl;exact rfl|apply aa;exact rfl;exact rfl;intro w hm;exact hC w|apply aa (f:=163);exact rfl;exact rfl;intro w' hm';exact nW 3 w'|apply aa (f:=166);exact rfl;exact rfl;intro w' hm';exact SU n w'|refine sT ?_|refine sM fun _=>?_|refine sC ?_ ?_<;>intro hb<;>try omega|fail)
 all_goals ((refine lB ?_);simp_all [EW,fp])
def KH:List Nat:= [157,158,159,161,164]
def CM:List (ByteArray→Vl × Bool):= [Vq,Vp,Uk,Uj,Ui]
def qz (b:ByteArray):List (ByteArray→Vl × Bool)→Vl
 | []=>⟨3,0,b⟩
 |t::r=>if (t b).2 then (t b).1 else qz b r
def Dy (b:ByteArray):Vl:=qz b CM
theorem NY (b:ByteArray) (hb:b.size≤1000000) (g k:Nat) (hk:k<5): ∃ f t,CM.drop k=t::CM.drop (k+1)∧(KH.map fun f=>Value.func (.func f) #[] #[.pointer (some ⟨g,0,none⟩)])[k]? =some (.func (.func f) #[] #[.pointer (some ⟨g,0,none⟩)])∧Callable Tryz.prog f∧
 ∀ w,Ro w g 0 [.string b]→Words w→aL Tryz.prog f [.pointer (some ⟨g,0,none⟩)] w (EW (t b)):=by
 rcases (by omega:k=0∨k=1∨k=2∨k=3∨k=4) with rfl|rfl|rfl|rfl|rfl
 ·exact ⟨_,_,rfl,rfl,inferInstance,fun w hr _=>Rq b g w hr⟩
 ·exact ⟨_,_,rfl,rfl,inferInstance,fun w hr _=>Rp b hb g w hr⟩
 ·exact ⟨_,_,rfl,rfl,inferInstance,fun w hr _=>Rm b hb g w hr⟩
 ·exact ⟨_,_,rfl,rfl,inferInstance,fun w hr hW=>Q9 b hb g w hr hW⟩
 ·exact ⟨_,_,rfl,rfl,inferInstance,fun w hr _=>Q8 b hb g w hr⟩
theorem GR (b:ByteArray) (hb:b.size≤1000000) (w:World) (hW:Words w):aL Tryz.prog 126 [.string b] w (.agg (fp (Dy b)).toArray):=by
 refine aB Tryz.func126 rfl Tryz.ntmps126 rfl ?_;repeat' (first|refine zZB ?_|refine sM fun _=>?_|refine sC ?_ ?_<;>intro hb<;>try omega|fail)
 rename_i g1 g2 g3;refine ax [1,2,13,14] rfl (fun x:Nat × Vl=> [(4,.bool false),(15,.int .i64 (x.1:Int))]) (fun x=> [.own (some g3) 261 1 5 5 (KH.map fun f=>Value.func (.func f) #[] #[.pointer (some ⟨g1,0,none⟩)]),.box g2 173 (fp x.2),.box g1 9 [.string b]]) (fun x=>x.1≤5∧Dy b=qz b (CM.drop x.1)) (fun x=>5 - x.1) (0,cU) ⟨by omega,rfl⟩ sB mS ?_;rintro ⟨k,v⟩ ⟨hk,hkt⟩;dsimp only at hk hkt ⊢;by_cases hk5:k<5
 ·obtain ⟨f,t,r1,r2,r3,r4⟩:=NY b hb g1 k hk5;rw [r1,qz] at hkt;obtain ⟨⟨v',is⟩,ht⟩: ∃ x,t b=x:=⟨_,rfl⟩;rw [ht] at hkt r4
  cases is with
  |true=>
   rw [if_pos rfl] at hkt;repeat' (first|apply ak;exact rfl;apply ai (j:=k);exact rfl;exact rfl;exact hk5|apply ak;exact rfl;apply bB (off:=0+k*1);exact rfl;exact pK;rw [Xv,YT];exact r2|apply kv;exact rfl;exact rfl;exact r3;exact rfl;intro w' hm;exact r4 w' (Ro.of_box hm pK) (hW.next hm)|refine zZA ?_|refine sM fun _=>?_|refine sC ?_ ?_<;>intro hb<;>try omega|fail)
   all_goals (rw [hkt];refine eRC ?_;rfl)
  |false=>
   rw [if_neg (by simp)] at hkt;repeat' (first|apply ak;exact rfl;apply ai (j:=k);exact rfl;exact rfl;exact hk5|apply ak;exact rfl;apply bB (off:=0+k*1);exact rfl;exact pK;rw [Xv,YT];exact r2|apply kv;exact rfl;exact rfl;exact r3;exact rfl;intro w' hm;exact r4 w' (Ro.of_box hm pK) (hW.next hm)|refine zZA ?_|refine sM fun _=>?_|refine sC ?_ ?_<;>intro hb<;>try omega|fail)
   refine ⟨(k+1,v'),?_,(by first|omega|dsimp only;omega),sB,sB,mS⟩;exact ⟨hk5,hkt⟩
 ·have e:k=5:=by omega
  subst e;have hkt:Dy b=⟨3,0,b⟩:=hkt;rw [hkt];repeat' (first|refine zZA ?_|refine sM fun _=>?_|refine sC ?_ ?_<;>intro hb<;>try omega|fail)
  all_goals first|omega|(refine eRC ?_);rfl
theorem Km (p2 p3 p4:Value) (w0:World) (H:List Blk):FnD Tryz.prog 168 [p2,p3,p4] .returning w0 H H:=by
 refine VS Tryz.func168 rfl rfl Tryz.ntmps168 rfl rfl (.inl ⟨rfl,rfl⟩) ?_;repeat' (first|apply ak;exact rfl;apply Q6;exact rfl|refine sT ?_|refine sM fun _=>?_|refine sC ?_ ?_<;>intro hb<;>try omega|fail)
 all_goals exact ⟨by first|exact .inl rfl|exact .inr rfl,.refl _⟩
theorem Kn (g2 g3 g4:Nat) (x2 x3 x4:Value) (e:Int × Int) (w0:World) (R:List Blk):
 FnD Tryz.prog 168 [.pointer (some ⟨g2,0,none⟩),.pointer (some ⟨g3,0,none⟩),.pointer (some ⟨g4,0,none⟩)] (.panicking (jV (Dk e))) w0
  (.box g2 174 [x2]:: .box g3 3 [x3]:: .box g4 37 [x4]::R)
  (.box g2 174 [.slice none 0 0]:: .box g3 3 [.int .i64 e.1]:: .box g4 37 [.int .i64 e.2]::R):=by
 refine VS Tryz.func168 rfl rfl Tryz.ntmps168 rfl rfl (.inr rfl) ?_;repeat' (first|apply ak;exact rfl;apply Q5;exact rfl|apply ak;exact rfl;apply CE;exact rfl;exact rfl|rename_i g;refine xE (id:=7) [⟨4,g2,174,x2,.slice none 0 0⟩,⟨5,g3,3,x3,.int .i64 e.1⟩,⟨6,g4,37,x4,.int .i64 e.2⟩] (.box g 272 [.int .i64 e.1,.int .i64 e.2]::R) (by kernel_rfl) (by kernel_rfl) rfl mS ?_|apply JZ;exact rfl;exact rfl;exact vC|refine lF [] [⟨5,g3,3,x3,.int .i64 e.1⟩,⟨6,g4,37,x4,.int .i64 e.2⟩] ⟨4,g2,174,x2,.slice none 0 0⟩ rfl rfl rfl rfl rfl rfl ?_|refine lF [⟨4,g2,174,x2,.slice none 0 0⟩] [⟨6,g4,37,x4,.int .i64 e.2⟩] ⟨5,g3,3,x3,.int .i64 e.1⟩ rfl rfl rfl rfl rfl rfl ?_|refine lF [⟨4,g2,174,x2,.slice none 0 0⟩,⟨5,g3,3,x3,.int .i64 e.1⟩] [] ⟨6,g4,37,x4,.int .i64 e.2⟩ rfl rfl rfl rfl rfl rfl ?_|apply Cw|refine sT ?_|refine sG ?_|refine sM fun _=>?_|refine sC ?_ ?_<;>intro hb<;>try omega|fail)
 refine ⟨.inr rfl,?_⟩;simp only [XD,XR,BoxT.post,Xc,Xd];exact mS
def dS (x:List Tk × Int × Int) (fin:Int):List Nd × Int × Int:=
 if x.2.2≠0 then ([],x.2.1,x.2.2)
 else match cy fin (20*x.1.length+40) (.level 1) ⟨x.1,[]⟩ with
  |none=>([],0,0)
  |some (.error (a,e))=>([],a,e)
  |some (.ok (_,p))=>
   if (hdT fin p.l).kind≠0 then ([],(hdT fin p.l).at_,4)
   else if jz p.out≠0 then ([],0,jz p.out)
   else (p.out,0,0)
theorem EZ {tk:List Int→Option (Tk × Nat)} {l:List Int} (f:Nat): ∀ (i:Nat) (r:List Tk),dF tk l f i= .ok r→r.length≤f:=by
 induction f with
 |zero=>intro i r h;simp only [dF,Except.ok.injEq] at h;subst h;exact Xy _
 |succ f ih=>
  intro i r h;simp only [dF] at h;split at h
  ·cases h;exact Xn _
  ·split at h
   ·exact Nat.le_succ_of_le (ih _ _ h)
   ·split at h
    ·cases h
    ·rename_i t n _
     cases hr:dF tk l f (i+n) with
     |error e=>rw [hr] at h;cases h
     |ok r' =>
      rw [hr] at h;cases h;exact Nat.succ_le_succ (ih _ _ hr)
theorem vg (tk:List Int→Option (Tk × Nat)) (l:List Int):(fB tk l).1.length≤256:=by
 unfold fB;split
 ·exact Xn _
 ·split
  ·exact Xn _
  ·split
   ·rename_i h;have:=EZ _ _ _ h;dsimp only;omega
   ·exact Xn _
theorem At.start (toks:List Tk) (A:Option Nat) (cap:Nat):At toks A cap ⟨toks,[]⟩ (sl A toks.length cap):=
 ⟨0,Xn _,rfl,Xy _,A.map fun g=>⟨g,0,none⟩,by simp [sl],fun _=>by simp⟩
def Tn (A:Option Nat) (cap:Nat) (r:List Nd × Int × Int):Value:= .tuple #[sl A r.1.length cap,.int .i64 r.2.1,.int .i64 r.2.2]
theorem JQ (a:ByteArray) (w:World) (hW:Words w) (r:List Nd × Int × Int) (hr:r=dS (fB eJ (aD a)) (a.size:Int)):
 FnAt Tryz.prog 127 [.string a] w fun v H=> ∃ A cap,v=Tn A cap r∧H= [.own A 283 11 r.1.length cap (r.1.flatMap gW)]:=by
 refine Sd Tryz.func127 rfl Tryz.ntmps127 rfl ?_;have htl:=vg eJ (aD a);have hT:=fun w' (hm:Σ' H,Mem w w' H)=>M3 a w' (hW.next hm.2);obtain ⟨⟨toks,at0,e0⟩,hx⟩: ∃ x,fB eJ (aD a)=x:=⟨_,rfl⟩;rw [hx] at hr htl;simp only [hx,Tp] at hT;dsimp only at htl;refine AR 283 11 ?_;refine AR 283 11 ?_;refine Ok (fun e a w _ h=>PQ h) ?_;obtain ⟨r1,hr1,_⟩:=AV (a.size:Int) (20*toks.length+40) (.level 1) ⟨toks,[]⟩ ⟨by omega,by omega⟩ (by simp [Job.c]);have hP: ∀ (A:Option Nat) (cap g:Nat) (R:List Blk),toks.length≤cap→FnP Tryz.prog 169 [.pointer (some ⟨g,0,none⟩)] w (pB g (sl A toks.length cap) A cap (a.size:Int) toks none 0 []++R) (PR toks A cap (a.size:Int) g R r1) (PD R r1):=fun A cap g R hc=>
  (LX (20*toks.length+40)).2.2.2.2 toks A cap (a.size:Int) g ⟨toks,[]⟩ (sl A toks.length cap) none 0 r1 R w hc (by omega) (At.start toks A cap) hr1
 obtain ⟨ff,hff⟩: ∃ ff,20*toks.length+40=ff:=⟨_,rfl⟩;rw [hff] at hr1;repeat' (first|apply aw (f:=167);exact rfl;exact rfl;exact fun w' hm=>hT w' ⟨_,hm⟩;rintro _ _ ⟨A,cap,rfl,rfl⟩|rename_i g2 g3 g4;refine Ol (cs:= [_,_,_]) rfl rfl ?_|refine Ok (fun e a w _ h=>PQ h) ?_|refine Un (fun e a w h=>UO h) ?_|rename_i g2 g3 g4;refine xE (id:=3) [⟨2,g2,174,.slice none 0 0,.slice none 0 0⟩,⟨3,g3,3,.int .i64 at0,.int .i64 at0⟩,⟨4,g4,37,.int .i64 e0,.int .i64 e0⟩] [.own none 283 11 0 0 []] (by kernel_rfl) (by kernel_rfl) rfl mS ?_|refine lF [] [⟨3,g3,3,.int .i64 at0,.int .i64 at0⟩,⟨4,g4,37,.int .i64 e0,.int .i64 e0⟩] ⟨2,g2,174,.slice none 0 0,.slice none 0 0⟩ rfl rfl rfl rfl rfl rfl ?_|refine lF [⟨2,g2,174,.slice none 0 0,.slice none 0 0⟩] [⟨4,g4,37,.int .i64 e0,.int .i64 e0⟩] ⟨3,g3,3,.int .i64 at0,.int .i64 at0⟩ rfl rfl rfl rfl rfl rfl ?_|refine lF [⟨2,g2,174,.slice none 0 0,.slice none 0 0⟩,⟨3,g3,3,.int .i64 at0,.int .i64 at0⟩] [] ⟨4,g4,37,.int .i64 e0,.int .i64 e0⟩ rfl rfl rfl rfl rfl rfl ?_|refine wR ⟨3,g3,3,.int .i64 at0,.int .i64 at0⟩ (.tail _ (.head _)) (f:=60) (j:=3) rfl (by decide+kernel) rfl rfl rfl ?_|refine wR ⟨4,g4,37,.int .i64 e0,.int .i64 e0⟩ (.tail _ (.tail _ (.head _))) (f:=60) (j:=4) rfl (by decide+kernel) rfl rfl rfl ?_|apply Cw|apply ak;exact rfl;apply m5;exact rfl|apply ak;exact rfl;apply ij;exact rfl|apply K0 (f:=169);exact rfl;exact rfl;infer_instance;exact rfl;rename_i gp;exact FnP.own (A:=A) pK (fun hcap=>FnP.msub (hP A cap _ _ hcap) (MSub.pick pK (MSub.pick pK (MSub.pick pK (MSub.refl _)))))|rintro _ _ ⟨rfl,n,p',lv',B',cb',rfl,h2,rfl⟩;obtain ⟨u,hu⟩: ∃ u,hdT (a.size:Int) p'.l=u:=⟨_,rfl⟩|rintro _ _ ⟨e,rfl,rfl,h3⟩|apply aa (f:=170);exact rfl;exact rfl;intro w' hm';exact At.head' (B:=B') (cb:=cb') (out:=p'.out) (fin:=(a.size:Int)) h2 hu (MSub.pick pK (MSub.pick pK (MSub.pick pK (MSub.nil _)))) w' hm'|apply aa (f:=128);exact rfl;exact rfl;intro w' hm';exact HJ p'.out _ w' (Reads.of_own (A:=B') hm' pK)|refine bL (f:=171) rfl rfl (jK _ _ _ _ _ (fun _ _=>False)) ?_ ?_|exact fun _ _ h=>h.elim|rintro _ _ ⟨rfl,rfl⟩|refine sT ?_|refine sP ?_|refine sG ?_|refine sM fun _=>?_|refine sC ?_ ?_<;>intro hb<;>try omega|fail)
 ·have hr' :r=([],at0,e0):=by rw [hr];simp [dS,hb]
  subst hr';simp only [XD,XR,BoxT.post,Xc,Xd];exact sV (.inl rfl) rfl rfl pK rfl pK rfl pK (H' := [.own none 283 11 0 0 []]) mS ⟨none,0,rfl,rfl⟩
 ·rename_i he0 gp _ u0 hu0 g1;have hr' :r=([],u0.at_,4):=by rw [hr];simp [dS,hff,hr1,hu0,hb,Classical.not_not.1 he0]
  subst hr';refine ⟨_,.box g2 174 [.slice none 0 0]:: .box g3 3 [.int .i64 at0]:: .box g4 37 [.int .i64 e0]:: [.own none 283 11 0 0 []],_,rfl,?_,Kn g2 g3 g4 _ _ _ (u0.at_,4) w _,sV (.inl rfl) rfl rfl pK rfl pK rfl pK (H' := [.own none 283 11 0 0 []]) mS ⟨none,0,rfl,rfl⟩⟩;simp only [XH,Xc,Xd,pB];exact mS
 ·rename_i he0 gp _ g1 hb1;have hr' :r=([],0,jz p'.out):=by rw [hr];simp [dS,hff,hr1,hu,Classical.not_not.1 hb1,hb,Classical.not_not.1 he0]
  subst hr';exact ⟨.returning,_,_,rfl,.refl _,Km _ _ _ _ _,sV (.inl rfl) rfl rfl pK rfl pK rfl pK (H' := [.own none 283 11 0 0 []]) mS ⟨none,0,rfl,rfl⟩⟩
 ·rename_i he0 gp _ g1 hb1;have hr' :r=(p'.out,0,0):=by rw [hr];simp [dS,hff,hr1,hu,Classical.not_not.1 hb1,Classical.not_not.1 hb,Classical.not_not.1 he0]
  subst hr';exact ⟨.returning,_,_,rfl,.refl _,Km _ _ _ _ _,sV (.inl rfl) rfl rfl pK rfl pK rfl pK (H' := [.own B' 283 11 p'.out.length cb' (p'.out.flatMap gW)]) mS ⟨B',cb',rfl,rfl⟩⟩
 ·have hr' :r=([],e.1,e.2):=by rw [hr];simp [dS,hff,hr1,Classical.not_not.1 hb]
  subst hr';refine ⟨_,.box g2 174 [.slice none 0 0]:: .box g3 3 [.int .i64 at0]:: .box g4 37 [.int .i64 e0]:: [.own none 283 11 0 0 []],_,rfl,MSub.trans ?_ h3,Kn g2 g3 g4 _ _ _ e w _,sV (.inl rfl) rfl rfl pK rfl pK rfl pK (H' := [.own none 283 11 0 0 []]) mS ⟨none,0,rfl,rfl⟩⟩;exact mS
theorem UG {a:ByteArray} {i:Nat} (h:i<a.size):uQ (sub a i (i+1))=if eL (bat a i) then 0 else 4:=by
 have h1:aD (sub a i (i+1))= [bat a i]:=by
  rw [kX,dD h,Nat.add_sub_cancel_left]
  rfl
 have h2:(sub a i (i+1)).size=1:=by rw [ed a (by omega)];omega
 simp only [uQ,h2,vz,h1];cases h:eL (bat a i)<;>simp [h]
structure Mn where
 formula:Bool
 v:Vl
 tree:List Nd
def eqB:ByteArray:=⟨#[61]⟩
def HQ:Mn:=⟨false,cU,[]⟩
def ofP (b:ByteArray):Mn × Int × Int:=
 if 256<b.size then (HQ,0,5)
 else match (aD b).findIdx? (fun c=> !eL c) with
  |some i=>(HQ,(i:Int),4)
  |none=>
   if (mR b eqB).2=false then (⟨false,Dy b,[]⟩,0,0)
   else match dS (fB eJ (aD (mR b eqB).1)) ((mR b eqB).1.size:Int) with
    |(t,at_,e)=>if e≠0 then (HQ,IntKind.i64.wrap (at_+1),e) else (⟨true,cU,t⟩,0,0)
def MD (m:Mn) (tv:Value):List Value:= [.bool m.formula,.int .u8 m.v.kind,.int .i64 m.v.num,.string m.v.text,tv]
def ofV (A:Option Nat) (cap:Nat) (r:Mn × Int × Int):Value:= .tuple #[.agg (MD r.1 (sl A r.1.tree.length cap)).toArray,.int .i64 r.2.1,.int .i64 r.2.2]
theorem TI (b:ByteArray) (w:World) (hW:Words w):FnAt Tryz.prog 90 [.string b] w fun v H=> ∃ A cap,v=ofV A cap (ofP b)∧H= [.own A 283 11 (ofP b).1.tree.length cap ((ofP b).1.tree.flatMap gW)]:=by
 refine aB Tryz.func90 rfl Tryz.ntmps90 rfl ?_;refine aF 283 11 ?_;unfold ofP;by_cases hlen:256<b.size
 ·rw [if_pos hlen];repeat' (first|refine zZJ ?_|refine sM fun _=>?_|refine sC ?_ ?_<;>intro hb<;>try omega|fail)
  all_goals first
   |omega
   |exact rE (.inl rfl) rfl rfl pK rfl rfl rfl (H' := [.own none 283 11 0 0 []]) mS ⟨none,0,rfl,rfl⟩
 rw [if_neg hlen];repeat' (first|refine zZJ ?_|refine sM fun _=>?_|refine sC ?_ ?_<;>intro hb<;>try omega|fail)
 all_goals try omega
 rename_i g2;refine ax [0,2,14] rfl (fun i:Nat=> [(15,.int .i64 (i:Int))]) (fun _=> [.box g2 176 [.bool false,.int .u8 0,.int .i64 0,.string aS,.slice none 0 0],.own none 283 11 0 0 []]) (fun i=>i≤b.size∧ ∀ j,j<i→eL (bat b j)=true) (fun i=>b.size - i) 0 ⟨by omega,fun j h=>by omega⟩ sB mS ?_;rintro i ⟨hi,hpl⟩;by_cases hlt:i<b.size
 ·have hg:=UG hlt;have hG:=fun w=>Ge (sub b i (i+1)) w;rw [hg] at hG;by_cases hc:eL (bat b i)=true
  ·rw [if_pos hc] at hG;repeat' (first|apply ak;exact rfl;apply H7;(iterate 3 exact rfl);exact ⟨by omega,by omega⟩|apply aa;exact rfl;exact rfl;intro w hm;exact hG w|refine zZD ?_|refine sM fun _=>?_|refine sC ?_ ?_<;>intro hb<;>try omega|fail)
   all_goals try omega
   refine ⟨i+1,?_,(by first|omega|dsimp only;omega),sB,sB,mS⟩;refine ⟨hlt,fun j hj=> ?_⟩;rcases (by omega:j<i∨j=i) with h|rfl
   ·exact hpl j h
   ·exact hc
  ·rw [if_neg hc] at hG;repeat' (first|apply ak;exact rfl;apply H7;(iterate 3 exact rfl);exact ⟨by omega,by omega⟩|apply aa;exact rfl;exact rfl;intro w hm;exact hG w|refine zZD ?_|refine sM fun _=>?_|refine sC ?_ ?_<;>intro hb<;>try omega|fail)
   all_goals try omega
   have hf:(aD b).findIdx? (fun c=> !eL c)=some i:=yT hlt (by simp [hc]) fun j hj=>by rw [hpl j hj];rfl
   rw [hf];exact rE (.inl rfl) rfl rfl pK rfl rfl rfl (H' := [.own none 283 11 0 0 []]) mS ⟨none,0,rfl,rfl⟩
 ·have e:i=b.size:=by omega
  subst e;have hf:(aD b).findIdx? (fun c=> !eL c)=none:=yt fun j hj=>by rw [hpl j hj];rfl
  rw [hf];dsimp only;have hcut:=fun w=>PX b eqB (by omega) w;obtain ⟨⟨rest,is⟩,hx⟩: ∃ x,mR b eqB=x:=⟨_,rfl⟩;rw [hx] at hcut ⊢
  cases is with
  |false=>
   rw [if_pos rfl];repeat' (first|apply aa;exact rfl;exact rfl;intro w hm;exact hcut w|apply aa (f:=126);exact rfl;exact rfl;intro w' hm';exact GR b (by omega) w' (hW.next hm')|refine zZD ?_|refine sM fun _=>?_|refine sC ?_ ?_<;>intro hb<;>try omega|fail)
   all_goals try omega
   exact rE (.inl rfl) rfl rfl pK rfl rfl rfl (H' := [.own none 283 11 0 0 []]) mS ⟨none,0,rfl,rfl⟩
  |true=>
   rw [if_neg (by simp)];dsimp only;have hF:=fun (w' :World) (h:Words w')=>JQ rest w' h _ rfl;obtain ⟨⟨t,at0,e0⟩,hr⟩: ∃ x,dS (fB eJ (aD rest)) (rest.size:Int)=x:=⟨_,rfl⟩;simp only [hr,Tn] at hF;rw [hr];dsimp only;by_cases he:e0≠0
   ·rw [if_pos he];repeat' (first|apply aa;exact rfl;exact rfl;intro w hm;exact hcut w|apply aw (f:=127);exact rfl;exact rfl;intro w' hm';exact hF w' (hW.next hm');rintro _ _ ⟨A,cap,rfl,rfl⟩|apply ak;exact rfl;apply CI;exact rfl;exact rfl|refine zZD ?_|refine sM fun _=>?_|refine sC ?_ ?_<;>intro hb<;>try omega|fail)
    all_goals try omega
    exact rE (.inl rfl) rfl rfl pK rfl rfl rfl (H' := [.own none 283 11 0 0 []]) mS ⟨none,0,rfl,rfl⟩
   ·rw [if_neg he];repeat' (first|apply aa;exact rfl;exact rfl;intro w hm;exact hcut w|apply aw (f:=127);exact rfl;exact rfl;intro w' hm';exact hF w' (hW.next hm');rintro _ _ ⟨A,cap,rfl,rfl⟩|apply ak;exact rfl;apply CI;exact rfl;exact rfl|refine zZD ?_|refine sM fun _=>?_|refine sC ?_ ?_<;>intro hb<;>try omega|fail)
    all_goals try omega
    exact rE (.inl rfl) rfl rfl pK rfl rfl rfl (H' := [.own A 283 11 t.length cap (t.flatMap gW)]) mS ⟨A,cap,rfl,rfl⟩
abbrev Gr:=List (Rf × List Nd × List Us)
def ap (G:Gr):List Rf:=G.map fun e=>e.1
def SortG (G:Gr):Prop:=G.Pairwise fun x y=>bE x.1 y.1=true
def qN (G:Gr) (a:Rf):Option (List Nd × List Us):=(G.find? fun e=>decide (e.1=a)).map fun e=>e.2
def PP (G:Gr) (a:Rf):Gr:=G.filter fun e=>decide (e.1≠a)
def I8 (G:Gr) (a:Rf) (x:List Nd × List Us):Gr:=G.filter (fun e=>bE e.1 a)++(a,x)::G.filter fun e=>bE a e.1
def aG (G:Gr) (a:Rf):List Us:=((qN G a).map fun x=>x.2).getD []
def bi (us:List Us) (r:Rct):Bool:=us.any (l6 r)
def cV (G:Gr) (r:Rct):List Rf:=if bY r≠0 then [] else (G.filter fun e=>bi e.2.2 r).map fun e=>e.1
def qD (G:Gr) (a:Rf) (b:ByteArray):Gr × Int:=
 if a.valid=false then (G,3)
 else if (ofP b).2.2≠0 then (G,(ofP b).2.2)
 else if (ofP b).1.formula=false then (PP G a,0)
 else (I8 G a ((ofP b).1.tree,fA (ofP b).1.tree),0)
theorem mG {a b:Rf}:bE a b=true↔a.row<b.row∨(a.row=b.row∧a.col<b.col):=by simp [bE]
theorem uI (a:Rf):bE a a=false:=by simp [bE]
theorem vF {a b c:Rf} (h:bE a b=true) (k:bE b c=true):bE a c=true:=by
 rw [mG] at*;omega
theorem vG {a b:Rf} (h:bE a b=true):bE b a=false:=by
 rw [← ZE,mG];rw [mG] at h;omega
theorem FX {a b:Rf} (h:a≠b):bE a b=true∨bE b a=true:=by
 rw [mG,mG];rcases Int.lt_trichotomy a.row b.row with h1|h1|h1
 ·exact .inl (.inl h1)
 ·rcases Int.lt_trichotomy a.col b.col with h2|h2|h2
  ·exact .inl (.inr ⟨h1,h2⟩)
  ·refine absurd ?_ h;obtain ⟨a1,a2⟩:=a;obtain ⟨b1,b2⟩:=b;simp only at h1 h2;subst h1 h2;rfl
  ·exact .inr (.inr ⟨h1.symm,h2⟩)
 ·exact .inr (.inl h1)
theorem mF {a b:Rf} (h:bE a b=true):a≠b:=by
 rintro rfl;rw [uI] at h;cases h
theorem SortG.nodup {G:Gr} (h:SortG G):(ap G).Nodup:=by
 rw [ap,List.Nodup,ZV];exact h.imp fun h=>mF h
theorem AO:SortG []:=List.Pairwise.nil
theorem uu {G:Gr} (h:SortG G) (a:Rf):SortG (PP G a):=h.filter _
theorem ut {G:Gr} (h:SortG G) (a:Rf) (x:List Nd × List Us):SortG (I8 G a x):=by
 refine Yh.2 ⟨h.filter _,XG.2 ⟨fun e he=> ?_,h.filter _⟩,fun e he f hf=> ?_⟩
 ·exact (XM.1 he).2
 ·have h1:=(XM.1 he).2;rcases Xt.1 hf with rfl|hf
  ·exact h1
  ·exact vF h1 (XM.1 hf).2
theorem LC {G:Gr} (h:SortG G) (a:Rf) (b:ByteArray):SortG (qD G a b).1:=by
 unfold qD;split
 ·exact h
 ·split
  ·exact h
  ·split
   ·exact uu h a
   ·exact ut h a _
theorem yx {G:Gr} {a:Rf} {x:List Nd × List Us} {e:Rf × List Nd × List Us}:e∈I8 G a x↔e=(a,x)∨(e∈G∧e.1≠a):=by
 simp only [I8,Xr,Xt,XM];constructor
 ·rintro (⟨h1,h2⟩|rfl|⟨h1,h2⟩)
  ·exact .inr ⟨h1,mF h2⟩
  ·exact .inl rfl
  ·exact .inr ⟨h1,(mF h2).symm⟩
 ·rintro (rfl|⟨h1,h2⟩)
  ·exact .inr (.inl rfl)
  ·rcases FX h2 with h|h
   ·exact .inl ⟨h1,h⟩
   ·exact .inr (.inr ⟨h1,h⟩)
theorem yz {G:Gr} {a:Rf} {e:Rf × List Nd × List Us}:e∈PP G a↔e∈G∧e.1≠a:=by simp [PP]
theorem rK {G:Gr} (h:SortG G) {a:Rf} {x:List Nd × List Us}:qN G a=some x↔(a,x)∈G:=by
 constructor
 ·intro hl;obtain ⟨e,he,rfl⟩:=YS.1 hl;have h1:=Z8 he;have h2:=Zk he;simp only [decide_eq_true_eq] at h1;subst h1;exact h2
 ·intro hm;have hn:=h.nodup
  cases hf:G.find? fun e=>decide (e.1=a) with
  |none=>
   rw [ZS] at hf;exact absurd (hf _ hm) (by simp)
  |some e=>
   have h1:=Z8 hf;have h2:=Zk hf;simp only [decide_eq_true_eq] at h1;have:=nI (fun e:Rf × List Nd × List Us=>e.1) hn h2 hm h1;rw [qN,hf,this];rfl
theorem yA {G:Gr} {a:Rf}:qN G a=none↔ ∀ e∈G,e.1≠a:=by
 rw [qN,Option.map_eq_none_iff,ZS];simp
theorem vL {G:Gr} (h:SortG G):(ap G).Pairwise fun x y=>bE x y=true:=by
 rw [ap,ZV];exact h
theorem qI {L:List Rf} (h:L.Pairwise fun x y=>bE x y=true):sortRf L=L:=by
 refine List.mergeSort_of_pairwise ?_;exact h.imp fun h=>by rw [vG h];rfl
inductive Rc (G:Gr):Rf→Rct→Prop
 |use {c:Rf} {r:Rct} (hc:c∈ap G) (h:bi (aG G c) r=true):Rc G c r
 |via {c d:Rf} {r:Rct} (hc:c∈ap G) (hd:d∈ap G) (h:bi (aG G c) (cE d.col d.row)=true) (k:Rc G d r):Rc G c r
theorem Rc.trans {G:Gr} {c d:Rf} {r:Rct} (h:Rc G c (cE d.col d.row)) (hd:d∈ap G) (k:Rc G d r):Rc G c r:=by
 generalize hq:cE d.col d.row=q at h
 induction h with
 |use hc h=>subst hq;exact .via hc hd h k
 |via hc he h _ ih=>exact .via hc he h (ih hq)
open Classical in
noncomputable def eX (G:Gr) (l:List Rct):List Rf:=(ap G).filter fun c=>decide (∃ r∈l,Rc G c r)
open Classical in
noncomputable def gM (G:Gr) (c:Rf):List Rf:=(ap G).filter fun d=>decide (Rc G c (cE d.col d.row))
open Classical in
open Classical in
open Classical in
theorem iJ {G:Gr} {c d:Rf}:d∈gM G c↔d∈ap G∧Rc G c (cE d.col d.row):=by
 unfold gM;rw [XM,decide_eq_true_eq]
def iV (S:List Rf) (j:Nat):List (Rf × Value × Nat):=(S.zipIdx j).map fun x=>(x.1,.bool true,x.2)
def dI (S:List Rf):List (Rf × Value × Nat):=iV S 0
theorem fZ (a:Rf) (S:List Rf) (j:Nat):iV (a::S) j=(a,.bool true,j)::iV S (j+1):=by simp [iV,ZY]
theorem vp (a:Rf): ∀ (S:List Rf) (j:Nat),iV (S++ [a]) j=iV S j++ [(a,.bool true,j+S.length)]
 | [],j=>rfl
 |b::S,j=>by
  rw [Xc,fZ,fZ,vp a S (j+1),Xc,Xs,show j+1+S.length=j+(S.length+1) by omega]
theorem Bj (a:Rf): ∀ (S:List Rf) (j i:Nat),(match bH a (iV S j) i with|some (_,v)=>v|none=>Value.bool false)= .bool (decide (a∈S))
 | [],_,_=>rfl
 |b::S,j,i=>by
  rw [fZ,bH];by_cases h:a=b
  ·rw [if_pos h];simp [h]
  ·rw [if_neg h,Bj a S (j+1) (i+1)];simp [h]
theorem mD (S:List Rf) (a:Rf):(match bH a (dI S) 0 with|some (_,v)=>v|none=>Value.bool false)= .bool (decide (a∈S)):=Bj a S 0 0
theorem nY (a:Rf): ∀ (S:List Rf) (j i:Nat),a∉S→bH a (iV S j) i=none
 | [],_,_,_=>rfl
 |b::S,j,i,h=>by
  rw [fZ,bH,if_neg (fun e=>h (by rw [e];exact Xb))];exact nY a S _ _ (fun hs=>h (Xp _ hs))
theorem sZ {S:List Rf} {a:Rf} (h:a∉S):gK a (.bool true) S.length (dI S)=(dI (S++ [a]),S.length+1):=by
 unfold gK dI;rw [nY a S 0 0 h,vp,Xv]
theorem sH (S:List Rf): ∀ j,(iV S j).map (fun e=>e.1)=S:=by
 induction S with
 |nil=>intro j;rfl
 |cons a S ih=>intro j;rw [fZ,XD,ih]
theorem nA: ∀ (S:List Rf) (j:Nat),(iV S j).map (fun e=>e.2.2)=(List.range S.length).map (fun k=>j+k)
 | [],j=>rfl
 |a::S,j=>by
  rw [fZ,XD,nA S (j+1),Xs,List.range_succ_eq_map,XD,YL];congr 1;exact YU fun k _=>by simp only [Function.comp];omega
theorem IB {S:List Rf} (h:S.Nodup):MapOk (dI S) S.length:=by
 refine ⟨?_,fun e he=> ?_,?_⟩
 ·unfold dI;rw [nA,List.Nodup,ZV];exact (List.nodup_range (n:=S.length)).imp fun h e=>h (by omega)
 ·have:e.2.2∈(dI S).map fun e=>e.2.2:=Xu.2 ⟨e,he,rfl⟩;unfold dI at this;rw [nA] at this;obtain ⟨k,hk,hke⟩:=Xu.1 this;have:=ZN.1 hk;omega
 ·unfold dI;rw [sH];exact h
structure Qu where
 g:Nat
 off:Nat
 k:Nat
 n:Nat
 c:Nat
 ys:List Value
def Qu.v (q:Qu):Value:= .slice (some ⟨q.g,q.off,none⟩) (q.n - q.k) (q.c - q.k)
structure Qu.ok {α:Type} (q:Qu) (enc:α→List Value) (sz:Nat) (L:List α):Prop where
 le:q.k≤q.n
 off:q.k<q.c→q.off=q.k*sz
 len:q.n - q.k=L.length
 cells:q.ys.drop (q.k*sz)=L.flatMap enc
def Qu.pop (q:Qu) (sz:Nat):Qu:={ q with off:=if q.c - q.k=1 then q.off else q.off+1*sz,k:=q.k+1 }
theorem Qu.ok.pop {α:Type} {q:Qu} {enc:α→List Value} {sz:Nat} {a:α} {L:List α} (h:q.ok enc sz (a::L)) (he:(enc a).length=sz) (hc:q.n≤q.c):(q.pop sz).ok enc sz L:=by
 have hl:=h.len;rw [Xs] at hl;have h0:=h.off (by omega);refine ⟨by simp only [Qu.pop];omega,fun hk=> ?_,by simp only [Qu.pop];omega,?_⟩
 ·simp only [Qu.pop] at hk ⊢;rw [if_neg (by omega),h0,Y7]
 ·have h1:=h.cells;simp only [Qu.pop];rw [Y7,Z5,← Zy,h1,Xx,← he,List.drop_left]
theorem l9 (S:List Rf):(dI S).map (fun e=>e.1)=S:=sH S 0
theorem Fa (S:List Rf):(dI S).length=S.length:=by
 have:=congrArg List.length (l9 S);simpa using this
def R3 (G:Gr) (b:Rf) (f:Rf→Nat) (n:Nat) (c:Rf):Bool:=
 if n=0 then bi (aG G c) (cE b.col b.row) else (ap G).any fun d=>decide (f d=n) && bi (aG G c) (cE d.col d.row)
def dL (G:Gr) (b:Rf):Nat→Rf→Nat
 |0,_=>0
 |n+1,c=>if dL G b n c≠0 then dL G b n c else if c∈ap G∧R3 G b (dL G b n) n c=true then n+1 else 0
def MF (G:Gr) (b c:Rf):Nat:=dL G b (G.length+1) c
inductive Wy (G:Gr) (b:Rf):Nat→Rf→Prop
 |one {c:Rf} (hc:c∈ap G) (h:bi (aG G c) (cE b.col b.row)=true):Wy G b 1 c
 |more {c d:Rf} {n:Nat} (hc:c∈ap G) (hd:d∈ap G) (h:bi (aG G c) (cE d.col d.row)=true) (k:Wy G b n d):Wy G b (n+1) c
section
variable {G:Gr} {b:Rf}
theorem VJ {c:Rf}:Rc G c (cE b.col b.row)↔ ∃ n,Wy G b n c:=by
 constructor
 ·intro h;generalize hq:cE b.col b.row=q at h
  induction h with
  |use hc h=>subst hq;exact ⟨1,.one hc h⟩
  |via hc hd h _ ih=>obtain ⟨n,hn⟩:=ih hq;exact ⟨n+1,.more hc hd h hn⟩
 ·rintro ⟨n,h⟩
  induction h with
  |one hc h=>exact .use hc h
  |more hc hd h _ ih=>exact .via hc hd h ih
theorem qt {n:Nat} {c:Rf} (h:dL G b n c≠0):dL G b (n+1) c=dL G b n c:=by
 rw [dL,if_pos h]
theorem lg {n:Nat} {c:Rf} (h:dL G b n c≠0): ∀ m,n≤m→dL G b m c=dL G b n c:=fun m hm=>by
 induction m with
 |zero=>rw [Nat.le_zero.1 hm]
 |succ m ih=>
  rcases Y1 m n with h1|h1
  ·rw [show m+1=n by omega]
  ·have:=ih h1;rw [qt (by rw [this];exact h),this]
theorem tK (n:Nat) (c:Rf):dL G b n c≤n:=by
 induction n with
 |zero=>exact Xy _
 |succ n ih=>
  rw [dL];split
  ·omega
  ·split<;>omega
theorem tJ {n k:Nat} {c:Rf} (h:dL G b n c=k) (hk:k≠0):dL G b k c=k∧ ∀ j,j<k→dL G b j c=0:=by
 have hz: ∀ j,j<k→dL G b j c=0:=fun j hj=>by
  rcases Y6 (dL G b j c) with h1|h1
  ·exact h1
  ·have hle:=tK (G:=G) (b:=b) j c;rcases Y1 n j with h2|h2
   ·have h3:=lg (G:=G) (b:=b) (n:=n) (c:=c) (by omega) j (by omega);omega
   ·have h3:=lg (G:=G) (b:=b) (n:=j) (c:=c) (by omega) n h2;omega
 refine ⟨?_,hz⟩;have hkn:k≤n:=h ▸ tK n c;rcases Y6 (dL G b k c) with h1|h1
 ·exfalso;have hgo: ∀ m,k≤m→dL G b m c=k→ ∃ j,k≤j∧dL G b j c=0∧dL G b (j+1) c=k:=fun m hm hf=>by
   induction m with
   |zero=>rw [show k=0 by omega] at hk;exact absurd rfl hk
   |succ m ih=>
    rcases Y6 (dL G b m c) with h2|h2
    ·rcases Y1 m k with h3|h3
     ·exact absurd (show k=m+1 by omega) (fun e=>by rw [e] at h1 hf;omega)
     ·exact ⟨m,h3,h2,hf⟩
    ·have h3:=qt (G:=G) (b:=b) (n:=m) (c:=c) (by omega);refine ih ?_ (by rw [← h3];exact hf);have:=tK (G:=G) (b:=b) m c;omega
  obtain ⟨j,h2,h3,h4⟩:=hgo n hkn h;rw [dL,if_neg (by omega)] at h4;split at h4<;>omega
 ·have h3:=lg (G:=G) (b:=b) (n:=k) (c:=c) (by omega) n hkn;omega
theorem Gv {k:Nat} {c:Rf} (h:dL G b (k+1) c=k+1):c∈ap G∧R3 G b (dL G b k) k c=true:=by
 have h0:=(tJ h (by omega)).2 k (by omega);rw [dL,if_neg (by omega)] at h;split at h
 ·assumption
 ·omega
theorem yK {f:Rf→Nat} {n:Nat} {c:Rf}:R3 G b f n c=true↔(n=0∧bi (aG G c) (cE b.col b.row)=true)∨(n≠0∧ ∃ d∈ap G,f d=n∧bi (aG G c) (cE d.col d.row)=true):=by
 unfold R3;by_cases h:n=0
 ·rw [if_pos h];simp [h]
 ·rw [if_neg h,XQ];simp only [Xo,decide_eq_true_eq,h,ne_eq,not_false_eq_true,true_and,false_and,false_or]
theorem KR: ∀ {k:Nat} {n:Nat} {c:Rf},dL G b n c=k→k≠0→Wy G b k c:=fun {k}=>by
 induction k with
 |zero=>intro _ _ _ h;exact absurd rfl h
 |succ k ih=>
  intro n c h _;obtain ⟨hc,hh⟩:=Gv (tJ h (by omega)).1;rcases yK.1 hh with ⟨rfl,h1⟩|⟨h0,d,hd,h1,h2⟩
  ·exact .one hc h1
  ·exact .more hc hd h2 (ih h1 h0)
theorem Mt {k:Nat} {c:Rf} (h:Wy G b k c):dL G b k c≠0:=by
 induction h with
 |one hc h=>
  rw [dL];split
  ·assumption
  ·rw [if_pos ⟨hc,yK.2 (.inl ⟨rfl,h⟩)⟩];omega
 | @more c d n hc hd h k ih=>
  obtain ⟨j,hj⟩: ∃ j,dL G b n d=j:=⟨_,rfl⟩;have hjn:j≤n:=hj ▸ tK n d;have hj0:j≠0:=by rw [← hj];exact ih
  have hl:=(tJ hj hj0).1;have h1:dL G b (j+1) c≠0:=by
   rw [dL];split
   ·assumption
   ·rw [if_pos ⟨hc,yK.2 (.inr ⟨hj0,d,hd,hl,h⟩)⟩];omega
  rw [lg h1 (n+1) (by omega)];exact h1
theorem PB {n:Nat} (hn:n≠0) (h: ∀ c∈ap G,dL G b n c≠n): ∀ m,n≤m→ ∀ c,dL G b m c=dL G b n c:=fun m hm=>by
 induction m with
 |zero=>intro c;rw [Nat.le_zero.1 hm]
 |succ m ih=>
  rcases Y1 m n with h1|h1
  ·intro c;rw [show m+1=n by omega]
  ·intro c;rw [← ih h1 c];by_cases h2:dL G b m c=0
   ·rw [dL,if_neg (by omega),h2];refine if_neg fun h3=> ?_;rcases yK.1 h3.2 with ⟨h4,_⟩|⟨_,d,hd,h5,_⟩
    ·omega
    ·have h6:=ih h1 d;rw [h5] at h6;have h7:=tK (G:=G) (b:=b) n d;exact h d hd (by omega)
   ·exact qt h2
theorem BI {α:Type} {p q:α→Bool}: ∀ {l:List α},(∀ x∈l,p x=true→q x=true)→(∃ x∈l,q x=true∧p x=false)→l.countP p+1≤l.countP q
 | [],_,h=>by obtain ⟨x,hx,_⟩:=h;cases hx
 |a::l,h1,h2=>by
  have hm:l.countP p≤l.countP q:=List.countP_mono_left fun x hx=>h1 x (Xp _ hx);rw [List.countP_cons,List.countP_cons];obtain ⟨x,hx,h3,h4⟩:=h2;rcases Xt.1 hx with rfl|hx
  ·rw [h3,h4];simp;exact hm
  ·have ih:=BI (l:=l) (fun x hx=>h1 x (Xp _ hx)) ⟨x,hx,h3,h4⟩;have:=h1 a Xb;cases hp:p a
   ·simp;split<;>omega
   ·rw [this hp];simp;exact ih
theorem Mu {n:Nat} (h: ∀ k,1≤k→k≤n→ ∃ c∈ap G,dL G b k c=k):n≤(ap G).countP fun c=>decide (dL G b n c≠0):=by
 induction n with
 |zero=>exact Xn _
 |succ n ih=>
  refine XU (Nat.succ_le_succ (ih fun k h1 h2=>h k h1 (by omega))) (BI (fun c _ h1=> ?_) ?_)
  ·simp only [decide_eq_true_eq] at h1 ⊢;rw [qt h1];exact h1
  ·obtain ⟨c,hc,h1⟩:=h (n+1) (by omega) (Xy _);refine ⟨c,hc,?_,?_⟩
   ·simp only [decide_eq_true_eq];omega
   ·have:=(tJ h1 (by omega)).2 n (by omega);simp [this]
theorem Jh {n:Nat} {c:Rf} (hc:c∈ap G) (h:dL G b n c=n): ∀ k,1≤k→k≤n→ ∃ d∈ap G,dL G b k d=k:=fun k h1 h2=>by
 induction n generalizing c with
 |zero=>omega
 |succ n ih=>
  rcases Y1 n k with h3|h3
  ·rw [show k=n+1 by omega];exact ⟨c,hc,h⟩
  ·rcases yK.1 (Gv h).2 with ⟨h4,_⟩|⟨_,d,hd,h5,_⟩
   ·omega
   ·exact ih hd h5 h3
theorem Sg: ∀ c∈ap G,dL G b (G.length+1) c≠G.length+1:=fun c hc h=>by
 have h1:=Mu (Jh hc h);have h2:=List.countP_le_length (p:=fun c=>decide (dL G b (G.length+1) c≠0)) (l:=ap G);rw [ap,Xq] at h2;rw [ap] at h1;omega
theorem PE (m:Nat) (hm:G.length+1≤m) (c:Rf):dL G b m c=MF G b c:=PB (by omega) Sg m hm c
theorem Sh {c:Rf}:MF G b c≠0↔ ∃ n,Wy G b n c:=by
 constructor
 ·intro h;exact ⟨_,KR rfl h⟩
 ·rintro ⟨n,h⟩ h0;have h1:=Mt h;have h2:=lg h1 (n+(G.length+1)) (by omega);rw [PE _ (by omega),h0] at h2;exact h1 h2.symm
theorem Dl {c:Rf}:MF G b c≠0↔Rc G c (cE b.col b.row):=Sh.trans VJ.symm
end
theorem Rc.key {G:Gr} {c:Rf} {r:Rct} (h:Rc G c r):c∈ap G:=by cases h<;>assumption
theorem Rc.last {G:Gr} {c:Rf} {r:Rct} (h:Rc G c r):bi (aG G c) r=true∨ ∃ d∈ap G,Rc G c (cE d.col d.row)∧bi (aG G d) r=true:=by
 induction h with
 |use hc h=>exact .inl h
 | @via c d r hc hd h k ih=>
  right
  rcases ih with h1|⟨e,he,h1,h2⟩
  ·exact ⟨d,hd,.use hc h,h1⟩
  ·exact ⟨e,he,.via hc hd h h1,h2⟩
theorem RI {G:Gr} {c:Rf} {r:Rct}:Rc G c r↔c∈ap G∧(bi (aG G c) r=true∨ ∃ d∈ap G,MF G d c≠0∧bi (aG G d) r=true):=by
 constructor
 ·intro h;refine ⟨h.key,h.last.imp id ?_⟩;rintro ⟨d,h1,h2,h3⟩;exact ⟨d,h1,Dl.2 h2,h3⟩
 ·rintro ⟨h1,h2|⟨d,h2,h3,h4⟩⟩
  ·exact .use h1 h2
  ·exact Rc.trans (Dl.1 h3) h2 (.use h2 h4)
def Qr (G:Gr) (l:List Rct):List Rf:=(ap G).filter fun c=>l.any fun r=>bi (aG G c) r||(ap G).any fun d=> !decide (MF G d c=0) && bi (aG G d) r
def JB (G:Gr) (c:Rf):List Rf:=(ap G).filter fun d=> !decide (MF G d c=0)
open Classical in
theorem rY (G:Gr) (l:List Rct):eX G l=Qr G l:=by
 unfold eX Qr;refine List.filter_congr fun c hc=> ?_;rw [XY,decide_eq_true_eq,XQ];refine exists_congr fun r=>and_congr_right fun _=> ?_;rw [RI,Zn,XQ];simp only [hc,true_and,Xo,Y4,decide_eq_false_iff_not,ne_eq]
open Classical in
theorem zh (G:Gr) (c:Rf):gM G c=JB G c:=by
 unfold gM JB;refine List.filter_congr fun d _=> ?_;rw [XY,decide_eq_true_eq,← Dl];simp
open Classical in
def En.abs (e:En):Rf × List Nd × List Us:=(e.at_,e.tree,e.uses)
structure GOk (R:List Blk) (E:List En) (clock:Nat) (G:Gr):Prop where
 ok:MapOk (E.map En.m) clock
 en: ∀ e∈E,EnOk R e
 rel: ∀ x,x∈E.map En.abs↔x∈G
 sort:SortG G
theorem Ky (E:List En):((E.map En.m).map fun e=>e.1)=E.map En.at_:=by rw [YL];rfl
theorem P8 (E:List En):((E.map En.m).map fun e=>e.2.2)=E.map En.born:=by rw [YL];rfl
theorem GOk.sub {R R' :List Blk} {E:List En} {clock:Nat} {G:Gr} (h:GOk R E clock G) (hs:MSub R R'):GOk R' E clock G:=⟨h.ok,fun e he=>(h.en e he).sub hs,h.rel,h.sort⟩
theorem GOk.nodup {R:List Blk} {E:List En} {clock:Nat} {G:Gr} (h:GOk R E clock G):(E.map En.at_).Nodup:=Ky E ▸ h.ok.keys
theorem GOk.perm {R:List Blk} {E:List En} {clock:Nat} {G:Gr} (h:GOk R E clock G):(E.map En.abs).Perm G:=by
 refine jq ?_ ?_ h.rel
 ·have:=h.nodup;have e:E.map En.at_=(E.map En.abs).map fun x=>x.1:=by rw [YL];rfl
  rw [e] at this;exact j6 _ this
 ·exact j6 (fun e:Rf × List Nd × List Us=>e.1) h.sort.nodup
theorem GOk.len {R:List Blk} {E:List En} {clock:Nat} {G:Gr} (h:GOk R E clock G):E.length=G.length:=by
 have:=h.perm.length_eq;simpa using this
theorem GOk.forms {R:List Blk} {E:List En} {clock:Nat} {G:Gr} (h:GOk R E clock G):kZ (E.map En.m)=ap G:=by
 have hp:(E.map En.at_).Perm (ap G):=by
  have:=h.perm.map fun x=>x.1;rw [YL] at this;exact this
 rw [kZ,Ky,jI hp,qI (vL h.sort)]
theorem GOk.look {R:List Blk} {E:List En} {clock:Nat} {G:Gr} (h:GOk R E clock G) (a:Rf):(pd E a).map (fun e=>(e.tree,e.uses))=qN G a:=by
 cases hf:pd E a with
 |some e=>
  have h1:=Z8 hf;simp only [decide_eq_true_eq] at h1;have h2:(a,e.tree,e.uses)∈G:=by
   rw [← h.rel];refine Xu.2 ⟨e,Zk hf,?_⟩;rw [← h1];rfl
  rw [(rK h.sort).2 h2];rfl
 |none=>
  rw [pd,ZS] at hf;symm;rw [Option.map_none,yA];intro x hx;rw [← h.rel] at hx;obtain ⟨e,he,rfl⟩:=Xu.1 hx;have:=hf e he;simpa [En.abs] using this
theorem GOk.uses {R:List Blk} {E:List En} {clock:Nat} {G:Gr} (h:GOk R E clock G) (a:Rf):(iW E a).uses=aG G a:=by
 rw [aG,← h.look a,iW];cases pd E a<;>rfl
theorem rM {κ:Type} [DecidableEq κ] {k:κ}: ∀ {es:List (κ × Value × Nat)} {i:Nat},bH k es i=none→ ∀ e∈es,e.1≠k
 | [],_,_,e,he=>by cases he
 |x::r,i,h,e,he=>by
  rw [bH] at h;split at h
  ·cases h
  ·rename_i hk;rcases Xt.1 he with rfl|he
   ·exact fun e=>hk e.symm
   ·exact rM h e he
theorem GOk.del {R:List Blk} {E:List En} {clock:Nat} {G:Gr} (h:GOk R E clock G) (a:Rf): ∃ E',E'.map En.m=I5 a (E.map En.m)∧GOk R E' clock (PP G a):=by
 unfold I5
 cases hk:bH a (E.map En.m) 0 with
 |none=>
  have hno:=rM hk;refine ⟨E,rfl,h.ok,h.en,fun x=> ?_,uu h.sort a⟩;rw [yz,← h.rel];refine ⟨fun hx=>⟨hx,?_⟩,fun hx=>hx.1⟩;obtain ⟨e,he,rfl⟩:=Xu.1 hx;exact hno e.m (Xu.2 ⟨e,he,rfl⟩)
 |some x=>
  obtain ⟨j,v⟩:=x;obtain ⟨b,_,hj⟩:=kD hk;rw [YC,XN] at hj;obtain ⟨e0,he0,hm0⟩:=YS.1 hj;have ha:e0.at_=a:=congrArg Prod.fst hm0;have hsub:(E.eraseIdx j).Sublist E:=List.eraseIdx_sublist E j;have hin: ∀ e,e∈E.eraseIdx j↔e∈E∧e.at_≠a:=by
   intro e;rw [List.mem_eraseIdx_iff_getElem?];obtain ⟨hjl,hj0⟩:=XJ.1 he0;constructor
   ·rintro ⟨i,hne,hi⟩;refine ⟨YW hi,fun hea=>hne ?_⟩;obtain ⟨hil,hi0⟩:=XJ.1 hi;have hn:=h.nodup;have:=List.getElem_inj (xs:=E.map En.at_) (h₀:=by simpa using hil) (h₁:=by simpa using hjl) hn;refine this.1 ?_;simp only [ZZ,hi0,hj0,hea,ha]
   ·rintro ⟨he,hea⟩;obtain ⟨i,hil,hi⟩:=YN he;refine ⟨i,?_,by rw [Xf hil,hi]⟩;rintro rfl;rw [hj0] at hi;exact hea (hi ▸ ha)
  refine ⟨E.eraseIdx j,nH _ _ _,?_,fun e he=>h.en e (hsub.subset he),fun x=> ?_,uu h.sort a⟩
  ·have hs2:((E.eraseIdx j).map En.m).Sublist (E.map En.m):=hsub.map _;exact ⟨(hs2.map _).nodup h.ok.born,fun e he=>h.ok.old e (hs2.subset he),(hs2.map _).nodup h.ok.keys⟩
  ·rw [yz,← h.rel];constructor
   ·intro hx;obtain ⟨e,he,rfl⟩:=Xu.1 hx;obtain ⟨h1,h2⟩:=(hin e).1 he;exact ⟨Xu.2 ⟨e,h1,rfl⟩,h2⟩
   ·rintro ⟨hx,hne⟩;obtain ⟨e,he,rfl⟩:=Xu.1 hx;exact Xu.2 ⟨e,(hin e).2 ⟨he,hne⟩,rfl⟩
theorem GOk.put {R:List Blk} {E:List En} {clock:Nat} {G:Gr} (h:GOk R E clock G) (n:En) (hn:EnOk R n): ∃ E',E'.map En.m=(gK n.at_ (.agg #[n.tv,n.uv]) clock (E.map En.m)).1∧GOk R E' (gK n.at_ (.agg #[n.tv,n.uv]) clock (E.map En.m)).2 (I8 G n.at_ (n.tree,n.uses)):=by
 unfold gK
 cases hk:bH n.at_ (E.map En.m) 0 with
 |none=>
  have hno:=rM hk;have hno' :n.at_∉E.map En.at_:=fun hx=>by
   obtain ⟨e,he,hea⟩:=Xu.1 hx;exact hno e.m (Xu.2 ⟨e,he,rfl⟩) hea
  refine ⟨E++ [{ n with born:=clock }],by simp [En.m,En.tv,En.uv],⟨?_,?_,?_⟩,fun e he=> ?_,fun x=> ?_,ut h.sort _ _⟩
  ·have hb:=h.ok.born;rw [P8] at hb ⊢;rw [XI,YK];refine ⟨hb,by simp,fun x hx y hy=> ?_⟩;simp only [XD,XR,Xl] at hy;subst hy;obtain ⟨e,he,rfl⟩:=Xu.1 hx;have:=h.ok.old e.m (Xu.2 ⟨e,he,rfl⟩);simp only [En.m] at this;omega
  ·intro e he;rw [XI] at he;rcases Xr.1 he with he|he
   ·have:=h.ok.old e he;simp only;omega
   ·simp only [XD,XR,Xl] at he;subst he;simp [En.m]
  ·rw [Ky,XI,YK];refine ⟨h.nodup,by simp,fun x hx y hy e=> ?_⟩;simp only [XD,XR,Xl] at hy;subst hy;subst e;exact hno' hx
  ·rcases Xr.1 he with he|he
   ·exact h.en e he
   ·rw [Xl.1 he];exact ⟨hn.tree,hn.uses,hn.tl,hn.ul⟩
  ·rw [yx,← h.rel,XI,Xr];constructor
   ·rintro (hx|hx)
    ·right
     obtain ⟨e,he,rfl⟩:=Xu.1 hx;exact ⟨hx,fun hea=>hno' (Xu.2 ⟨e,he,hea⟩)⟩
    ·left
     simpa [En.abs] using hx
   ·rintro (rfl|⟨hx,_⟩)
    ·right;simp [En.abs]
    ·left;exact hx
 |some x=>
  obtain ⟨j,v⟩:=x;obtain ⟨b,_,hj⟩:=kD hk;rw [YC,XN] at hj;obtain ⟨e0,he0,hm0⟩:=YS.1 hj;have ha:e0.at_=n.at_:=congrArg Prod.fst hm0;obtain ⟨hjl,hj0⟩:=XJ.1 he0;have hget: ∀ i,(E.modify j fun e=>{ n with born:=e.born })[i]? =if j=i then (E[i]?).map (fun e=>{ n with born:=e.born }) else E[i]? :=fun i=>by
   rw [ZK];split<;>rename_i hji
   ·rfl
   ·cases E[i]? <;>rfl
  have hin: ∀ e,e∈(E.modify j fun e=>{ n with born:=e.born })↔e={ n with born:=e0.born } ∨(e∈E∧e.at_≠n.at_):=by
   intro e;constructor
   ·intro he;obtain ⟨i,hi⟩:=Zm.1 he;rw [hget] at hi;split at hi
    ·rename_i hji;subst hji;rw [he0] at hi
     left
     exact (Option.some.inj hi).symm
    ·rename_i hji
     right
     refine ⟨YW hi,fun hea=>hji ?_⟩;obtain ⟨hil,hi0⟩:=XJ.1 hi;have:=List.getElem_inj (xs:=E.map En.at_) (h₀:=by simpa using hjl) (h₁:=by simpa using hil) h.nodup;refine this.1 ?_;simp only [ZZ,hi0,hj0,hea,ha]
   ·rintro (rfl|⟨he,hea⟩)
    ·refine Zm.2 ⟨j,?_⟩;rw [hget,if_pos rfl,he0];rfl
    ·obtain ⟨i,hil,hi⟩:=YN he;refine Zm.2 ⟨i,?_⟩;rw [hget,if_neg,Xf hil,hi];rintro rfl;rw [hj0] at hi;exact hea (hi ▸ ha)
  have hborn:(E.modify j fun e=>{ n with born:=e.born }).map En.born=E.map En.born:=by
   apply Yw;intro i;rw [XN,XN,hget];split
   ·cases E[i]? <;>rfl
   ·rfl
  have hkeys:(E.modify j fun e=>{ n with born:=e.born }).map En.at_=E.map En.at_:=by
   apply Yw;intro i;rw [XN,XN,hget];split
   ·rename_i hji;subst hji;rw [he0];simp [ha]
   ·rfl
  refine ⟨E.modify j fun e=>{ n with born:=e.born },?_,⟨?_,?_,?_⟩,fun e he=> ?_,fun x=> ?_,ut h.sort _ _⟩
  ·apply Yw;intro i;simp only [ZK,XN]
   cases E[i]? with
   |none=>simp
   |some e=>by_cases hji:j=i<;>simp [hji,En.m,En.tv,En.uv]
  ·rw [P8,hborn,← P8];exact h.ok.born
  ·intro e he;obtain ⟨e',he',rfl⟩:=Xu.1 he;have:e'.born∈E.map En.born:=by rw [← hborn];exact Xu.2 ⟨e',he',rfl⟩
   obtain ⟨e2,he2,hb2⟩:=Xu.1 this;have:=h.ok.old e2.m (Xu.2 ⟨e2,he2,rfl⟩);simp only [En.m] at this ⊢;omega
  ·rw [Ky,hkeys];exact h.nodup
  ·rcases (hin e).1 he with rfl|⟨he,_⟩
   ·exact ⟨hn.tree,hn.uses,hn.tl,hn.ul⟩
   ·exact h.en e he
  ·rw [yx,← h.rel];constructor
   ·intro hx;obtain ⟨e,he,rfl⟩:=Xu.1 hx;rcases (hin e).1 he with rfl|⟨he,hea⟩
    ·left;rfl
    ·right;exact ⟨Xu.2 ⟨e,he,rfl⟩,hea⟩
   ·rintro (rfl|⟨hx,hne⟩)
    ·exact Xu.2 ⟨_,(hin _).2 (.inl rfl),rfl⟩
    ·obtain ⟨e,he,rfl⟩:=Xu.1 hx;exact Xu.2 ⟨e,(hin e).2 (.inr ⟨he,hne⟩),rfl⟩
theorem iU {o:Option Out} {k:Nat→PS→Option Out} {x:Int × Int} (h:gG o k=some (.error x)) (h1: ∀ y,o=some (.error y)→y.2≠0) (h2: ∀ n p y,k n p=some (.error y)→y.2≠0):x.2≠0:=by
 obtain ⟨r1,hr,⟨e,rfl,he⟩|⟨n,p,rfl,hk⟩⟩:=d9 h
 ·cases he;exact h1 _ hr
 ·exact h2 _ _ _ hk
theorem vV {fin:Int} {name:Tk} {fn:Int} {n:Nat} {p:PS} {x:Int × Int} (h:eU fin name fn n p=some (.error x)):x.2≠0:=by
 unfold eU at h;dsimp only at h;split at h
 ·cases h;simp
 ·split at h
  ·cases h;simp
  ·split at h
   ·cases h;simp
   ·cases h
theorem Ow (fin:Int): ∀ (f:Nat) (j:Job) (p:PS) (x:Int × Int),cy fin f j p=some (.error x)→x.2≠0:=by
 intro f
 induction f with
 |zero=>intro j p x h;cases j<;>cases h
 |succ f ih=>
  intro j p x h
  cases j with
  |level k=>
   rw [cy] at h;split at h
   ·exact ih _ _ _ h
   ·exact iU h (ih _ _) fun _ _=>ih _ _
  |loop k=>
   rw [cy] at h;try dsimp only at h
   split at h
   ·exact iU h (ih _ _) fun _ _=>ih _ _
   ·cases h
  |sign=>
   rw [cy] at h;try dsimp only at h
   split at h
   ·exact iU h (ih _ _) fun _ _ _ h=>by cases h
   ·refine iU h (ih _ _) fun _ _ y h=> ?_;split at h
    ·exact iU h (ih _ _) fun _ _ _ h=>by cases h
    ·cases h
  |pct=>
   rw [cy] at h;exact iU h (ih _ _) fun _ _=>ih _ _
  |pctl=>
   rw [cy] at h;try dsimp only at h
   split at h
   ·exact ih _ _ _ h
   ·cases h
  |prim=>
   rw [cy] at h;try dsimp only at h
   split at h
   ·cases h
   ·split at h
    ·cases h
    ·split at h
     ·refine iU h (ih _ _) fun _ _ y h=> ?_;split at h
      ·cases h;simp
      ·cases h
     ·split at h
      ·split at h
       ·cases h;simp
       ·split at h
        ·cases h;simp
        ·split at h
         ·exact vV h
         ·exact iU h (ih _ _) fun _ _ _ h=>vV h
      ·cases h;simp
  |args fn n=>
   rw [cy] at h;try dsimp only at h
   have hgo: ∀ (p:PS) (y:Int × Int),(if (hdT fin p.l).kind=11 then cy fin f (.args fn (n+1)) p.skip else some (.ok (n+1,p)))=some (.error y)→y.2≠0:=by
    intro p y h;split at h
    ·exact ih _ _ _ h
    ·cases h
   split at h
   ·exact iU h (ih _ _) fun _ _ _ h=>hgo _ _ h
   ·split at h
    ·cases h;simp
    ·exact hgo _ _ h
theorem qR {x:List Tk × Int × Int} {fin:Int}:(dS x fin).1.length≤x.1.length∧((dS x fin).2.2=0→jz (dS x fin).1=0):=by
 have hends:=AV fin (20*x.1.length+40) (.level 1) ⟨x.1,[]⟩ ⟨by omega,by omega⟩ (by simp only [Job.c];omega);have hgrew:=fun n p hp=>kw fin (20*x.1.length+40) (.level 1) ⟨x.1,[]⟩ n p hp;unfold dS;split
 ·rename_i h;exact ⟨Xn _,fun h' =>absurd h' h⟩
 ·split
  ·rename_i h;obtain ⟨r,hr,_⟩:=hends;rw [h] at hr;cases hr
  ·rename_i a e h;exact ⟨Xn _,fun h' =>absurd h' (Ow _ _ _ _ _ h)⟩
  ·rename_i n p hp;split
   ·exact ⟨Xn _,fun h' =>by cases h'⟩
   ·split
    ·rename_i hc;exact ⟨Xn _,fun h' =>absurd h' hc⟩
    ·rename_i hc;obtain ⟨⟨m,h1,h2,h3⟩,_,_⟩:=hgrew _ _ hp;simp only [Yu,Xv] at h3;exact ⟨XU h3 h2,fun _=>by simpa using hc⟩
theorem FM {b:ByteArray} (h:(ofP b).2.2=0) (hf:(ofP b).1.formula=true):jz (ofP b).1.tree=0:=by
 unfold ofP at h hf ⊢;split at hf
 ·cases hf
 ·rename_i h1;rw [if_neg h1] at h ⊢;split at hf
  ·cases hf
  ·rename_i h2;rw [h2] at h;simp only at h ⊢;split at hf
   ·cases hf
   ·rename_i h3;rw [if_neg h3] at h ⊢;have ht:=qR (x:=fB eJ (aD (mR b eqB).1)) (fin:=((mR b eqB).1.size:Int));generalize dS (fB eJ (aD (mR b eqB).1)) ((mR b eqB).1.size:Int)=r at h hf ht ⊢;obtain ⟨t,at_,e⟩:=r;simp only at h hf ht ⊢;split at hf
    ·cases hf
    ·rename_i h4;rw [if_neg h4];exact ht.2 (by simpa using h4)
theorem Ks (b:ByteArray):(ofP b).1.tree.length≤256:=by
 unfold ofP;split
 ·exact Xn _
 ·split
  ·exact Xn _
  ·split
   ·exact Xn _
   ·have ht:=(qR (x:=fB eJ (aD (mR b eqB).1)) (fin:=((mR b eqB).1.size:Int))).1;have hl:=vg eJ (aD (mR b eqB).1);generalize dS (fB eJ (aD (mR b eqB).1)) ((mR b eqB).1.size:Int)=r at ht ⊢;obtain ⟨t,at_,e⟩:=r;simp only at ht ⊢;split
    ·exact Xn _
    ·exact XU ht hl
attribute [local irreducible] WC ceP
theorem R7 (R:List Blk):GOk R [] 0 []:=⟨⟨ZM,(fun _ h=>by cases h),ZM⟩,(fun _ h=>by cases h),(fun _=>Iff.rfl),AO⟩
theorem lT: ∀ (L:List Nd) (i:Nat),∀ u∈eZ L i,∃ n∈L,j4 n=true∧u.rect=n.rect
 | [],_,u,h=>by cases h
 |n::r,i,u,h=>by
  rw [eZ] at h
  cases hr:j4 n with
  |false=>
   rw [hr,cond_false] at h;obtain ⟨m,hm,h1,h2⟩:=lT r (i+1) u h;exact ⟨m,Xp _ hm,h1,h2⟩
  |true=>
   rw [hr,cond_true] at h;rcases Xt.1 h with rfl|h
   ·refine ⟨n,Xb,hr,?_⟩;unfold xO
    cases r with
    |nil=>rfl
    |cons m q=>dsimp only;split<;>rfl
   ·obtain ⟨m,hm,h1,h2⟩:=lT r (i+1) u h;exact ⟨m,Xp _ hm,h1,h2⟩
theorem Lf {L:List Nd} (h:jz L=0): ∀ u∈fA L,aA u.rect=true:=fun u hu=>by
 obtain ⟨n,hn,h1,h2⟩:=lT L 0 u hu;rw [h2];exact Gt (DA h n hn) h1
structure EntOk (e:Rf × List Nd × List Us):Prop where
 at_:e.1.valid=true
 tree:jz e.2.1=0
 uses:e.2.2=fA e.2.1
 len:e.2.1.length≤256
theorem EntOk.rect {e:Rf × List Nd × List Us} (h:EntOk e): ∀ u∈e.2.2,aA u.rect=true:=by
 rw [h.uses];exact Lf h.tree
structure GrOk (G:Gr):Prop where
 sort:SortG G
 ent: ∀ e∈G,EntOk e
theorem Gc:GrOk []:=⟨AO,fun _ h=>by cases h⟩
theorem GrOk.set {G:Gr} (h:GrOk G) (a:Rf) (b:ByteArray):GrOk (qD G a b).1:=by
 refine ⟨LC h.sort a b,?_⟩;unfold qD;split
 ·exact h.ent
 ·rename_i hv;split
  ·exact h.ent
  ·rename_i he;split
   ·exact fun e he=>h.ent e (yz.1 he).1
   ·rename_i hf;intro e hm;rcases yx.1 hm with rfl|⟨hm,_⟩
    ·exact ⟨by simpa using hv,FM (by simpa using he) (by simpa using hf),rfl,Ks b⟩
    ·exact h.ent e hm
theorem z1 {c r:Int}:valid c r=true↔1≤c∧c≤1024∧1≤r∧r≤1024:=by
 simp only [valid,Xo,decide_eq_true_eq];omega
theorem yd {c r:Int}:aA (cE c r)=valid c r:=by
 rw [XY,ye,z1];simp only [cE];omega
theorem Bn {u:Us} {a:Rf} (hu:aA u.rect=true) (ha:a.valid=true):aI u.rect a=l6 (cE a.col a.row) u:=by
 rw [XY,Ln,yd];have hv:valid a.col a.row=true:=ha;simp only [aI,Xo,decide_eq_true_eq,cE,hu,hv,true_and];omega
theorem L8 {G:Gr} (h:SortG G) {e:Rf × List Nd × List Us} (he:e∈G):qN G e.1=some e.2:=(rK h).2 he
theorem um {G:Gr} (h:SortG G) {e:Rf × List Nd × List Us} (he:e∈G):aG G e.1=e.2.2:=by rw [aG,L8 h he];rfl
theorem iH {G:Gr} {c:Rf}:c∈ap G↔ ∃ e∈G,e.1=c:=by simp [ap]
theorem qm {G:Gr} (h:SortG G) {r:Rct} (hr:aA r=true) {c:Rf} (hc:c∈ap G):c∈cV G r↔bi (aG G c) r=true:=by
 obtain ⟨e,he,rfl⟩:=iH.1 hc;rw [cV,if_neg (by rw [Fx,hr];simp),um h he];simp only [Xu,XM];constructor
 ·rintro ⟨f,⟨hf,h1⟩,h2⟩;have:=nI (fun e:Rf × List Nd × List Us=>e.1) h.nodup hf he h2;rw [← this];exact h1
 ·intro h1;exact ⟨e,⟨he,h1⟩,rfl⟩
theorem ng {G:Gr} {r:Rct}: ∀ c∈cV G r,c∈ap G:=by
 intro c hc;unfold cV at hc;split at hc
 ·cases hc
 ·simp only [Xu,XM] at hc;obtain ⟨e,⟨he,_⟩,h⟩:=hc;exact iH.2 ⟨e,he,h⟩
theorem AF {G:Gr} {r:Rct}:(cV G r).length≤G.length:=by
 unfold cV;split
 ·exact Xn _
 ·rw [Xq];exact XS _ _
theorem Lg {G:Gr} (h:GrOk G) (c:Rf):(aG G c).length≤256:=by
 unfold aG
 cases hl:qN G c with
 |none=>simp
 |some x=>
  have h1:=h.ent _ ((rK h.sort).1 hl);simp only [Ys,Ze];rw [h1.uses];exact XU (iS _ _) h1.len
theorem su {G:Gr} {x:Rf} {u:Us} (hu:u∈aG G x): ∃ e∈G,e.1=x∧e.2.2=aG G x:=by
 unfold aG qN at hu ⊢
 cases hf:G.find? (fun e=>decide (e.1=x)) with
 |none=>rw [hf] at hu;cases hu
 |some e=>
  have h1:=Z8 hf;simp only [decide_eq_true_eq] at h1;exact ⟨e,Zk hf,h1,rfl⟩
theorem ez {G:Gr} (h:GrOk G) {d:Rf} (hd:d∈ap G):d.valid=true:=by
 obtain ⟨e,he,rfl⟩:=iH.1 hd;exact (h.ent e he).at_
theorem oH {G:Gr} (h:GrOk G) {x d:Rf} {u:Us} (hu:u∈aG G x) (hd:d∈ap G):l6 (cE d.col d.row) u=aI u.rect d:=by
 obtain ⟨e,he,h1,h2⟩:=su hu;exact (Bn ((h.ent e he).rect u (by rw [h2];exact hu)) (ez h hd)).symm
section
variable {G:Gr} (hG:GrOk G)
include hG
theorem AG {a b:Rf} (hb:b.valid=true):a∈cV G (cE b.col b.row)↔a∈ap G∧bi (aG G a) (cE b.col b.row)=true:=by
 have hr:aA (cE b.col b.row)=true:=by rw [yd];exact hb
 exact ⟨fun h=>⟨ng a h,(qm hG.sort hr (ng a h)).1 h⟩,fun h=>(qm hG.sort hr h.1).2 h.2⟩
theorem Pj {M:List Rf} (hn:M.Nodup) (hM: ∀ c∈M,c∈ap G):M.length≤G.length:=by
 have hp:M.Perm ((ap G).filter fun a=>decide (a∈M)):=jq hn (hG.sort.nodup.filter _) fun a=>by
  rw [XM,decide_eq_true_eq];exact ⟨fun ha=>⟨hM a ha,ha⟩,fun ha=>ha.2⟩
 have h1:=hp.length_eq;have h2:=XS (fun a=>decide (a∈M)) (ap G);have h3:(ap G).length=G.length:=by rw [ap,Xq]
 omega
open Classical in
open Classical in
open Classical in
open Classical in
end
theorem GOk.all {R:List Blk} {E:List En} {clock:Nat} {G:Gr} (h:GOk R E clock G):zm E=G.flatMap fun e=>e.2.2.map fun u=>(e.1,u):=by
 rw [zm,h.forms,ap,List.flatMap_map];have: ∀ L:Gr,(∀ e∈L,e∈G)→L.flatMap (fun e=>jC E e.1)=L.flatMap fun e=>e.2.2.map fun u=>(e.1,u):=by
  intro L
  induction L with
  |nil=>intro _;rfl
  |cons e r ih=>
   intro hL;rw [Xx,Xx,ih fun f hf=>hL f (Xp _ hf),jC,h.uses,um h.sort (hL e Xb)]
 exact this G fun _ h=>h
theorem Bu (r:Rct) (a:Rf): ∀ (us:List Us) (out:List Rf),out.getLast? =some a→(us.map fun u=>(a,u)).foldl (bJ r) out=out
 | [],_,_=>rfl
 |u::q,out,h=>by
  rw [XD,YV];have:bJ r out (a,u)=out:=by
   rw [ni,h];simp
  rw [this];exact Bu r a q out h
theorem Gf (r:Rct) (a:Rf): ∀ (us:List Us) (out:List Rf),out.getLast? ≠some a→(us.map fun u=>(a,u)).foldl (bJ r) out=if bi us r then out++ [a] else out
 | [],out,_=>rfl
 |u::q,out,h=>by
  rw [XD,YV,bi,List.any_cons];have hs:bJ r out (a,u)=if l6 r u then out++ [a] else out:=by
   rw [ni]
   cases ho:out.getLast? with
   |none=>simp
   |some b=>
    have:b≠a:=by rintro rfl;exact h ho
    simp [this]
  rw [hs]
  cases ht:l6 r u with
  |true=>
   simp only [if_true,aan];exact Bu r a q _ (by simp)
  |false=>
   simp only [X3,if_false,Z4];exact Gf r a q out h
theorem rQ (r:Rct): ∀ (L:Gr) (out:List Rf),SortG L→(∀ e∈L,out.getLast? ≠some e.1)→(L.flatMap fun e=>e.2.2.map fun u=>(e.1,u)).foldl (bJ r) out=out++(L.filter fun e=>bi e.2.2 r).map fun e=>e.1
 | [],out,_,_=>by simp
 |e::q,out,hs,hl=>by
  obtain ⟨h1,h2⟩:=XG.1 hs;rw [Xx,YG,Gf r e.1 e.2.2 out (hl e Xb),YA]
  cases ht:bi e.2.2 r with
  |true=>
   rw [if_pos rfl,if_pos rfl,rQ r q _ h2,XD,XE,List.singleton_append];intro f hf;rw [Zp,List.getLast?_singleton,Option.some_or];intro he;exact mF (h1 f hf) (Option.some.inj he)
  |false=>
   rw [if_neg (by simp),if_neg (by simp),rQ r q _ h2];exact fun f hf=>hl f (Xp _ hf)
theorem GOk.users {R:List Blk} {E:List En} {clock:Nat} {G:Gr} (h:GOk R E clock G) (r:Rct):uo E r=cV G r:=by
 unfold uo cV;split
 ·rfl
 ·rw [h.all,rQ r G [] h.sort (fun _ _=>by simp),Xd]
theorem GOk.allLen {R:List Blk} {E:List En} {clock:Nat} {G:Gr} (h:GOk R E clock G) (hG:GrOk G):(zm E).length≤256*G.length:=by
 rw [h.all];have: ∀ L:Gr,(∀ e∈L,EntOk e)→(L.flatMap fun e=>e.2.2.map fun u=>(e.1,u)).length≤256*L.length:=by
  intro L
  induction L with
  |nil=>intro _;simp
  |cons e r ih=>
   intro hL;have h1:=ih fun f hf=>hL f (Xp _ hf);have h2:=hL e Xb;have h3:e.2.2.length≤256:=by
    rw [h2.uses];exact XU (iS _ _) h2.len
   rw [Xx,Xa,Xq,Xs];omega
 exact this G hG.ent
end Go.SL
