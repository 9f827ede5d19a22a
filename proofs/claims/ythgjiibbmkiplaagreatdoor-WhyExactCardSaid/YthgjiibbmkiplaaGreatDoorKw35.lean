/-
  Lemmas and walks, put together: Wk Wi Wl.
-/
import Derived.Test.YthgjiibbmkiplaaGreatDoorKw31
set_option linter.unusedSimpArgs false
set_option linter.unusedVariables false
set_option maxRecDepth 20000
set_option maxHeartbeats 16000000
namespace Go.SL
open Go Go.Proofs
theorem uy {P:Program} (w:World) (d:Nat) (t k e:TypeId) (p:Option Nat) (h:P.underlying t=some (.map k e)):(Op.equalIn (d+1) t (.map p) (.map none)).run P w= .ok p.isNone w:=by
 cases p<;>simp [Op.equalIn,run_underlying h]
theorem J8 {P:Program} {w0:World} {s:az} {H:List Blk} {ty:TypeId} {x:Operand} {p:Option Nat} {t k e t' :TypeId} [ht:Und P t (.map k e)] (hx:ev s x=some (.map p)):VOp P w0 s H (.binOp .eql t x (.const (.map none)) t') ty (.bool p.isNone):=fun ρ w _ _ _ _ hρ _=>by
 have hc:=hρ (.const (.map none)) _ rfl;have h1:(binOp .eql t (.map p) (.map none)).run P w= .ok (.bool p.isNone) w:=by
  simp only [binOp];simp [show Op.equal t (.map p) (.map none)=Op.equalIn (9999+1) t (.map p) (.map none) from rfl,uy w 9999 t k e p ht.out]
 simp [execOp,hρ x _ hx,hc,eqGuard,h1]
attribute [local irreducible] W WL WQ WG WA WX WLI WR WT WC WE VOp RW thn blk bA scp aY aX bw FnAt FnIn FnP ceP
section
variable {G:Gr} {hid:Rct→List Rct}
theorem PM {K:List Rf} {e:Rf × Value × Nat} (h:e∈mapM (dpV G hid) K): ∃ c d k,c∈K∧mQ G hid c=d∧e=(c,.bool d,k):=by
 obtain ⟨i,hi⟩:=Zm.1 h;rw [fQ] at hi;obtain ⟨c,hc,rfl⟩:=YS.1 hi;exact ⟨c,_,i,YW hc,rfl,rfl⟩
theorem PN {K:List Rf} {c:Rf} (h:c∈K): ∃ k,(c,Value.bool (mQ G hid c),k)∈mapM (dpV G hid) K:=by
 obtain ⟨i,hi⟩:=Zm.1 h;exact ⟨i,YW (i:=i) (by rw [fQ,hi];rfl)⟩
theorem vH (hG:GrOk G) (hl:G.length≤900) (c:Rf):(ck G c).length≤1000000:=by
 unfold ck;split
 ·have h:=vJ (c:=c) hG.sort (fL hG);have h2:(G.length+1)*1000≤901*1000:=Zc _ (by omega);omega
 ·exact Xn _
end
section
variable {u:Nat} {b:Bk} {x:Bv} {gg:Nat} {G:Gr} {B F0:List Blk} {w0:World} (D:Lkd u b x gg G B F0 w0) (gx:Nat) {F:List Blk} (hF:MSub F0 F)
include D hF
theorem Mi (r:Rct) (hr:aA r=true) (gd:Nat):FnIn Tryz.prog 80 [.pointer (some ⟨gx,0,none⟩),.agg (ay r).toArray] w0 (lkB gx u b x gg (.map (some gd)):: .obj gd (aK aC (mapM (dpV G (aZ b.rules (u:Int))) (ap G)) (ap G).length)::F) fun v H' =>v= .bool (cX G (aZ b.rules (u:Int)) r)∧H' =lkB gx u b x gg (.map (some gd)):: .obj gd (aK aC (mapM (dpV G (aZ b.rules (u:Int))) (ap G)) (ap G).length)::F:=by
 refine bI Tryz.func80 rfl Tryz.ntmps80 rfl ?_;have hhd:=fun (dv:Value) (H:List Blk) (hs:MSub F H)=>kY D gx dv (hF.trans hs) r hr;have hKn:(ap G).Nodup:=D.rd.g.sort.nodup;have hKl:(ap G).length≤900:=by have:=D.rd.l;rw [ap,Xq];exact this
 have hok:=Kx (f:=dpV G (aZ b.rules (u:Int))) hKn;unfold cX;generalize aZ b.rules (u:Int)=hid at hhd hok ⊢;generalize ap G=K at hKn hKl hok ⊢;generalize hid r=P at hhd ⊢;by_cases hP:0<P.length
 ·rw [decide_eq_true hP,aan];repeat' (first|apply aj (f:=53);exact rfl;exact rfl;refine FnIn.msub (hhd _ _ ?_) (MSub.pick pK (MSub.refl _));(focus (exact mS;done));rintro _ _ ⟨Ap,cp,rfl,rfl⟩|refine zZB ?_|refine sM fun _=>?_|refine sC ?_ ?_<;>intro hb<;>try omega|fail)
  all_goals first
   |omega
   |refine bo eIO rfl rfl (H' :=lkB gx u b x gg (.map (some gd)):: .obj gd (aK aC (mapM (dpV G hid) K) K.length)::F) mS ⟨rfl,rfl⟩;done
 ·rw [decide_eq_false hP,Z4];have hres_t:=fun (h:(K.any fun f=>mQ G hid f && aI r f)=true)=>h;have hres_f:=fun (h:(K.any fun f=>mQ G hid f && aI r f)=false)=>h;repeat' (first|apply aj (f:=53);exact rfl;exact rfl;refine FnIn.msub (hhd _ _ ?_) (MSub.pick pK (MSub.refl _));(focus (exact mS;done));rintro _ _ ⟨Ap,cp,rfl,rfl⟩|apply ak;exact rfl;apply J8;exact rfl|apply dN (enc:=aC);exact rfl;exact rfl;exact pK;intro gi|refine zZB ?_|refine sM fun _=>?_|refine sC ?_ ?_<;>intro hb<;>try omega|fail)
  all_goals try omega
  rename_i g2 g3;refine ax [2,3,57] rfl (fun _:List (Rf × Value × Nat)=> []) (fun vis=> .obj gi (je gd K.length (vis.map fun e=>e.2.2))::lkB gx u b x gg (.map (some gd)):: .obj gd (aK aC (mapM (dpV G hid) K) K.length):: .box g2 90 [.pointer (some ⟨gx,0,none⟩)]:: .box g3 31 (ay r)::F) (fun vis=>Vis (mapM (dpV G hid) K) vis∧ ∀ e∈vis,∀ a d k,e=(a,Value.bool d,k)→ ¬ (d=true∧aI r a=true)) (fun vis=>(mapM (dpV G hid) K).length - vis.length) [] ⟨Vis.nil _,fun _ h=>by cases h⟩ sB mS ?_;rintro vis ⟨hvis,hnov⟩;have hvl:=hvis.len;have hha:=fun a w=>jA r a w;repeat' (first|apply eC (enc:=aC);exact rfl;exact rfl;exact pK;exact pK;exact hok;intro e he hne;have hvlt:=hvis.lt he hne;have hvst:=hvis.step he hne;obtain ⟨a,d,k,hak,had,rfl⟩:=PM he|intro hall|apply ak;exact rfl;apply lH (enc:=aC);exact rfl;exact pK;exact pK;exact he;exact hok|apply aa (f:=28);exact rfl;exact rfl;intro w' hm;exact hha _ w'|refine zZA ?_|refine sM fun _=>?_|refine sC ?_ ?_<;>intro hb<;>try omega|fail)
  all_goals first
   |omega
   | (have hd : d = true := by assumption
      have hr2:aI r a=true:=by assumption
      refine bo eIO rfl rfl (H' :=lkB gx u b x gg (.map (some gd)):: .obj gd (aK aC (mapM (dpV G hid) K) K.length)::F) mS ⟨by rw [hres_t (XQ.2 ⟨a,hak,by rw [had,hd,hr2];rfl⟩)],rfl⟩;done)
   | (refine ⟨vis ++ [(a, Value.bool d, k)], ⟨hvst, fun e he2 a2 d2 k2 e2 => ?_⟩, by simp only [Xa, Xe]; omega, by exact sB, by exact sB, ?_⟩
      ·rcases Xr.1 he2 with he2|he2
       ·exact hnov e he2 a2 d2 k2 e2
       ·rw [Xl.1 he2] at e2;have e3:=congrArg (fun e:Rf × Value × Nat=>e.1) e2;have e4:=congrArg (fun e:Rf × Value × Nat=>e.2.1) e2;simp only at e3 e4;injection e4 with e5;rintro ⟨h1,h2⟩;rw [← e5] at h1;rw [← e3] at h2
        first
         | (have h3 : d = false := by assumption
            rw [h1] at h3;cases h3)
         | (have h3 : aI r a = false := by assumption
            rw [h2] at h3;cases h3)
      ·simp only [XI,XD,XR];exact mS)
   | (refine bo eIO rfl rfl (H' := lkB gx u b x gg (.map (some gd)) :: .obj gd (aK aC (mapM (dpV G hid) K) K.length) :: F) mS ⟨?_, rfl⟩
      have h0:(K.any fun f=>mQ G hid f && aI r f)=false:=by
       rw [Y3];intro f hf;obtain ⟨q,hq⟩:=PN (G:=G) (hid:=hid) hf;have h8:=hnov _ ((hvis.mem hok hall _).2 hq) f _ q rfl;simpa using h8
      rw [hres_f h0])
theorem Mj (r:Rct) (hr:aA r=true):FnIn Tryz.prog 80 [.pointer (some ⟨gx,0,none⟩),.agg (ay r).toArray] w0 (lkB gx u b x gg (.map none)::F) fun v H' =>v= .bool (cX G (aZ b.rules (u:Int)) r)∧(H' =lkB gx u b x gg (.map none)::F∨ ∃ gd,H' =lkB gx u b x gg (.map (some gd)):: .obj gd (aK aC (mapM (dpV G (aZ b.rules (u:Int))) (ap G)) (ap G).length)::F):=by
 refine bI Tryz.func80 rfl Tryz.ntmps80 rfl ?_;have hhd:=fun (dv:Value) (H:List Blk) (hs:MSub F H)=>kY D gx dv (hF.trans hs) r hr;have hKn:(ap G).Nodup:=D.rd.g.sort.nodup;have hKl:(ap G).length≤900:=by have:=D.rd.l;rw [ap,Xq];exact this
 have hok:=Kx (f:=dpV G (aZ b.rules (u:Int))) hKn;unfold cX;have hFm:=fun H (hs:MSub F H)=>D.rd.fm H ((D.sub.trans hF).trans hs);have hlv:=fun (c:Rf) (H:List Blk) (hs:MSub F H)=>D.rd.leaves ((D.sub.trans hF).trans hs) c;have hll:=fun (c:Rf)=>vH D.rd.g D.rd.l c;have hlo: ∀ c∈ap G,∀ l∈ck G c,aA l=true:=fun c hc l hl=>kV D.rd.g ((eE (ez D.rd.g hc)).1 hl);have hcn:=fun (dv:Value) (gl:Nat) (L:List Rct) (hL: ∀ l∈L,aA l=true) (hLl:L.length≤1000000) (A:Option Nat) (c:Nat) (H:List Blk) (hs:MSub F H)=>rj 121 [.pointer (some ⟨gl,0,none⟩)] (fun l=>decide (0<(aZ b.rules (u:Int) l).length)) L A c hLl w0 (lkB gx u b x gg dv:: .box gl 90 [.pointer (some ⟨gx,0,none⟩)]:: .own A 31 4 L.length c (L.flatMap ay)::H) (.tl (.tl .hd)) (fun l hl=>Mk D gx dv (hF:=hF.trans (MSub.drop .hd hs)) l (hL l hl) gl);have hdp: ∀ c,dpV G (aZ b.rules (u:Int)) c= .bool ((ck G c).any fun l=>decide (0<(aZ b.rules (u:Int) l).length)):=fun c=>rfl;generalize aZ b.rules (u:Int)=hid at hhd hok hcn hdp ⊢;obtain ⟨K,hKe⟩: ∃ K,ap G=K:=⟨_,rfl⟩;rw [hKe] at hKn hKl hok hFm hlo ⊢;generalize hid r=P at hhd ⊢;by_cases hP:0<P.length
 ·rw [decide_eq_true hP,aan];repeat' (first|apply aj (f:=53);exact rfl;exact rfl;refine FnIn.msub (hhd _ _ ?_) (MSub.pick pK (MSub.refl _));(focus (exact mS;done));rintro _ _ ⟨Ap,cp,rfl,rfl⟩|refine zZB ?_|refine sM fun _=>?_|refine sC ?_ ?_<;>intro hb<;>try omega|fail)
  all_goals first
   |omega
   |refine bo eIO rfl rfl (H' :=lkB gx u b x gg (.map none)::F) mS ⟨rfl,.inl rfl⟩;done
 ·rw [decide_eq_false hP,Z4];have hres_t:=fun (h:(K.any fun f=>mQ G hid f && aI r f)=true)=>h;have hres_f:=fun (h:(K.any fun f=>mQ G hid f && aI r f)=false)=>h;repeat' (first|apply aj (f:=53);exact rfl;exact rfl;refine FnIn.msub (hhd _ _ ?_) (MSub.pick pK (MSub.refl _));(focus (exact mS;done));rintro _ _ ⟨Ap,cp,rfl,rfl⟩|apply ak;exact rfl;apply J8;exact rfl|apply cL (d:=22) (enc:=aC);exact rfl;intro gd|apply aj (f:=92);exact rfl;exact rfl;exact hFm _ mS;rintro _ _ ⟨Ac,cap,rfl,rfl⟩|refine zZB ?_|refine sM fun _=>?_|refine sC ?_ ?_<;>intro hb<;>try omega|fail)
  all_goals try omega
  rename_i g2 g3;refine ax [2,3,29,30] rfl (fun i:Nat=> [(31,.int .i64 (i:Int))]) (fun i=>lkB gx u b x gg (.map (some gd)):: .obj gd (aK aC (mapM (dpV G hid) (K.take i)) (K.take i).length):: .own Ac 34 2 K.length cap (K.flatMap aq):: .box g2 90 [.pointer (some ⟨gx,0,none⟩)]:: .box g3 31 (ay r)::F) (fun i=>i≤K.length) (fun i=>K.length - i) 0 (Xn _) sB mS ?_;rintro i hi;by_cases hlt:i<K.length
  ·refine aU (A:=Ac) pK (by omega) fun gk hA=> ?_;subst hA;have hread:=uz hlt;have hput:=yl (f:=dpV G hid) hKn hlt;have hlo:=hlo _ (XO hlt);generalize K[i]=c at hread hput hlo;rw [hdp] at hput;have hlv:=hlv c;have hll:=hll c;generalize ck G c=L at hlv hll hlo hput;generalize bS [c] []=ec at hlv;repeat' (first|apply ak (d:=33);exact rfl;apply ai (j:=i);exact rfl;exact rfl;exact hlt|apply ak (d:=34);exact rfl;apply au (ys:=aq c);exact rfl;exact pK;exact hread;exact rfl|refine zZA ?_|refine sM fun _=>?_|refine sC ?_ ?_<;>intro hb<;>try omega|fail)
   all_goals try omega
   rename_i g6;refine bT (id:=8) [5] [] [.box g2 90 [.pointer (some ⟨gx,0,none⟩)],lkB gx u b x gg (.map (some gd)),.box g6 34 (aq c)] (by kernel_rfl) (by kernel_rfl) (by kernel_rfl) mS ?_;repeat' (first|apply aj (f:=52);exact rfl;exact rfl;exact hlv _ mS;rintro _ _ ⟨Al,cl,rfl,rfl⟩|refine zZH ?_|refine sM fun _=>?_|refine sC ?_ ?_<;>intro hb<;>try omega|refine sCW ?_ ?_<;>intro hb<;>try omega|fail)
   all_goals try omega
   refine bT (id:=9) [7,8] [] [.box g2 90 [.pointer (some ⟨gx,0,none⟩)],lkB gx u b x gg (.map (some gd)),.box g6 34 (aq c)] (by kernel_rfl) (by kernel_rfl) (by kernel_rfl) mS ?_;repeat' (first|apply aj (f:=61);exact rfl;exact rfl;refine FnIn.msub (hcn _ g2 L hlo hll Al cl _ ?_) (MSub.pick pK (MSub.pick pK (MSub.pick pK (MSub.refl _))));(focus (exact mS;done));rintro _ _ ⟨rfl,rfl⟩|apply cB (enc:=aC) (k:=c);(iterate 3 exact rfl);exact pK;rw [hput]|refine zZH ?_|refine sM fun _=>?_|refine sC ?_ ?_<;>intro hb<;>try omega|refine sCW ?_ ?_<;>intro hb<;>try omega|fail)
   all_goals first
    |omega
    |refine ⟨i+1,hlt,by omega,by exact sB,by exact sB,by exact mS⟩;done
  have hi2:i=K.length:=by omega
  subst hi2;rw [XF];repeat' (first|apply dN (enc:=aC);exact rfl;exact rfl;exact pK;intro gi|refine zZA ?_|refine sM fun _=>?_|refine sC ?_ ?_<;>intro hb<;>try omega|fail)
  all_goals try omega
  refine ax [2,3,57] rfl (fun _:List (Rf × Value × Nat)=> []) (fun vis=> .obj gi (je gd K.length (vis.map fun e=>e.2.2))::lkB gx u b x gg (.map (some gd)):: .obj gd (aK aC (mapM (dpV G hid) K) K.length):: .box g2 90 [.pointer (some ⟨gx,0,none⟩)]:: .box g3 31 (ay r)::F) (fun vis=>Vis (mapM (dpV G hid) K) vis∧ ∀ e∈vis,∀ a d k,e=(a,Value.bool d,k)→ ¬ (d=true∧aI r a=true)) (fun vis=>(mapM (dpV G hid) K).length - vis.length) [] ⟨Vis.nil _,fun _ h=>by cases h⟩ sB mS ?_;rintro vis ⟨hvis,hnov⟩;have hvl:=hvis.len;have hha:=fun a w=>jA r a w;repeat' (first|apply eC (enc:=aC);exact rfl;exact rfl;exact pK;exact pK;exact hok;intro e he hne;have hvlt:=hvis.lt he hne;have hvst:=hvis.step he hne;obtain ⟨a,d,k,hak,had,rfl⟩:=PM he|intro hall|apply ak;exact rfl;apply lH (enc:=aC);exact rfl;exact pK;exact pK;exact he;exact hok|apply aa (f:=28);exact rfl;exact rfl;intro w' hm;exact hha _ w'|refine zZA ?_|refine sM fun _=>?_|refine sC ?_ ?_<;>intro hb<;>try omega|fail)
  all_goals first
   |omega
   | (have hd : d = true := by assumption
      have hr2:aI r a=true:=by assumption
      refine bo eIO rfl rfl (H' :=lkB gx u b x gg (.map (some gd)):: .obj gd (aK aC (mapM (dpV G hid) K) K.length)::F) mS ⟨by rw [hres_t (XQ.2 ⟨a,hak,by rw [had,hd,hr2];rfl⟩)],.inr ⟨gd,rfl⟩⟩;done)
   | (refine ⟨vis ++ [(a, Value.bool d, k)], ⟨hvst, fun e he2 a2 d2 k2 e2 => ?_⟩, by simp only [Xa, Xe]; omega, by exact sB, by exact sB, ?_⟩
      ·rcases Xr.1 he2 with he2|he2
       ·exact hnov e he2 a2 d2 k2 e2
       ·rw [Xl.1 he2] at e2;have e3:=congrArg (fun e:Rf × Value × Nat=>e.1) e2;have e4:=congrArg (fun e:Rf × Value × Nat=>e.2.1) e2;simp only at e3 e4;injection e4 with e5;rintro ⟨h1,h2⟩;rw [← e5] at h1;rw [← e3] at h2
        first
         | (have h3 : d = false := by assumption
            rw [h1] at h3;cases h3)
         | (have h3 : aI r a = false := by assumption
            rw [h2] at h3;cases h3)
      ·simp only [XI,XD,XR];exact mS)
   | (refine bo eIO rfl rfl (H' := lkB gx u b x gg (.map (some gd)) :: .obj gd (aK aC (mapM (dpV G hid) K) K.length) :: F) mS ⟨?_, .inr ⟨gd, rfl⟩⟩
      have h0:(K.any fun f=>mQ G hid f && aI r f)=false:=by
       rw [Y3];intro f hf;obtain ⟨q,hq⟩:=PN (G:=G) (hid:=hid) hf;have h8:=hnov _ ((hvis.mem hok hall _).2 hq) f _ q rfl;simpa using h8
      rw [hres_f h0])
end
theorem LJ (S:List Rf) (c:Rf):(match bH c (mapM tv S) 0 with|some (_,v)=>v|none=>Value.bool false)= .bool (decide (c∈S)):=by
 refine (tu tv S c (.bool false)).trans ?_;by_cases h:c∈S
 ·rw [if_pos h,decide_eq_true h];rfl
 ·rw [if_neg h,decide_eq_false h]
theorem Fe {S:List Rf} {c:Rf} (h:c∉S):gK c (.bool true) S.length (mapM tv S)=(mapM tv (S++ [c]),(S++ [c]).length):=by
 rw [wW h,pZ (f:=tv) (k:=c) (v:= .bool true) rfl,Xa];rfl
section
variable {G:Gr} {w:Lw} {u:Nat}
theorem Qp {c:Rf} {S:List Rf} {r:Rct} {K:List Rf} (hK: ∀ x∈K,x∈ap G) (hS:S.Nodup) (hs: ∀ x∈S,x=c∨x∈ap G):(og S r K).length≤G.length+1:=by
 have h1:=iA (og S r K) (c::ap G) (zo hS) fun x hx=>by
  rcases HA x hx with h|h
  ·rcases hs x h with rfl|h2
   ·exact Xb
   ·exact Xp _ h2
  ·exact Xp _ (hK _ h.1)
 rwa [Xs,show (ap G).length=G.length by rw [ap,Xq]] at h1
end
section
variable {u:Nat} {b:Bk} {x:Bv} {gg:Nat} {G:Gr} {B F0:List Blk} {w0:World} (D:Lkd u b x gg G B F0 w0) (gx:Nat) (dv:Value) {F:List Blk} (hF:MSub F0 F)
include D hF
theorem QO (a:Rf) (hv:a.valid=true):FnIn Tryz.prog 77 [.pointer (some ⟨gx,0,none⟩),aC a] w0 (lkB gx u b x gg dv::F) fun v H' => ∃ A c,v=sl A (iC G (lwB b) u a).length c∧H' = .own A 34 2 (iC G (lwB b) u a).length c ((iC G (lwB b) u a).flatMap aq)::lkB gx u b x gg dv::F:=by
 refine bI Tryz.func77 rfl Tryz.ntmps77 rfl ?_;have hFm:=fun H (hs:MSub F H)=>D.rd.fm H ((D.sub.trans hF).trans hs);have hop:=fun (c:Rf) (H:List Blk) (hs:MSub F H)=>s9 D gx dv (hF.trans hs) c;have hol:=fun (c:Rf)=>oS D hF (a:=c);have hKl:(ap G).length≤900:=by have:=D.rd.l;rw [ap,Xq];exact this
 have hGl:=D.rd.l;have hkv: ∀ c∈ap G,c.valid=true:=fun c hc=>ez D.rd.g hc;have hp0:gK a (.bool true) 0 []=(mapM tv [a],1):=Fe (S:= []) (c:=a) (by simp);have hW0:=WyI.start (G:=G) (w:=lwB b) (u:=u) (c:=a);unfold iC;obtain ⟨K,hKe⟩: ∃ K,ap G=K:=⟨_,rfl⟩;rw [hKe] at hFm hKl;repeat' (first|apply cL (d:=13) (enc:=aC);exact rfl;intro gs|apply zT (enc:=aC) (k:=a);(iterate 3 exact rfl);exact pK;rw [hp0]|apply aj (f:=92);exact rfl;exact rfl;exact hFm _ mS;rintro _ _ ⟨Ac,cap,rfl,rfl⟩|refine zZB ?_|refine sM fun _=>?_|refine sC ?_ ?_<;>intro hb<;>try omega|fail)
 all_goals try omega
 refine ax [0,5,7] rfl (fun y:Nat × List Rf × (Option Nat × Nat)=> [(6,sl y.2.2.1 y.2.1.length y.2.2.2),(8,.int .i64 (y.1:Int))]) (fun y=> .own y.2.2.1 34 2 y.2.1.length y.2.2.2 (y.2.1.flatMap aq):: .obj gs (aK aC (mapM tv y.2.1) y.2.1.length):: .own Ac 34 2 K.length cap (K.flatMap aq)::lkB gx u b x gg dv::F) (fun y=>WyI G (lwB b) u a y.1 y.2.1) (fun y=>G.length+2 - y.1) (0,[a],(some _,1)) hW0 sB mS ?_;rintro ⟨i,S,A7,c7⟩ hI;dsimp only at hI ⊢;have hSl:=hI.len;have hle:=hI.le;by_cases hlt:i<S.length
 ·refine aU (A:=A7) pK (by omega) fun gk hA=> ?_;subst hA;have hread:=uz hlt;have hstep:=hI.step hlt;generalize S[i]=c at hread hstep;have hop:=hop c;have hol:=hol c;generalize cG G (lwB b) u c=R at hop hol hstep;repeat' (first|apply ak (d:=32);exact rfl;apply ai (j:=i);exact rfl;exact rfl;exact hlt|apply ak (d:=33);exact rfl;apply au (ys:=aq c);exact rfl;exact pK;exact hread;exact rfl|apply aj (f:=85);exact rfl;exact rfl;refine FnIn.msub (hop _ ?_) (MSub.pick pK (MSub.refl _));(focus (exact mS;done));rintro _ _ ⟨Ao,co,rfl,rfl⟩|refine zZA ?_|refine sM fun _=>?_|refine sC ?_ ?_<;>intro hb<;>try omega|fail)
  all_goals try omega
  refine ax [0,5,7,8,34,35] rfl (fun y:Nat × List Rf × (Option Nat × Nat)=> [(6,sl y.2.2.1 y.2.1.length y.2.2.2),(36,.int .i64 (y.1:Int))]) (fun y=> .own y.2.2.1 34 2 y.2.1.length y.2.2.2 (y.2.1.flatMap aq):: .obj gs (aK aC (mapM tv y.2.1) y.2.1.length):: .own Ao 31 4 R.length co (R.flatMap ay):: .own Ac 34 2 K.length cap (K.flatMap aq)::lkB gx u b x gg dv::F) (fun y=>y.1≤R.length∧y.2.1=tT G S (R.take y.1)) (fun y=>R.length - y.1) (0,S,(some gk,c7)) ⟨Xn _,rfl⟩ sB mS ?_;rintro ⟨j,S2,A8,c8⟩ ⟨hj,hS2⟩;dsimp only at hj hS2 ⊢;by_cases hltj:j<R.length
  ·refine aU (A:=Ao) pK (by omega) fun go hA=> ?_;subst hA;have hreadr:((R.flatMap ay).drop (0+j*4)).take 4=ay R[j]:=by rw [Xv];exact aM bM R j hltj
   have hnext:tT G S (R.take (j+1))=og S2 R[j] K:=by rw [Xk hltj,mV,← hS2,hKe]
   have hS2n:S2.Nodup:=by rw [hS2];exact zn hI.nd
   have hS2s: ∀ y∈S2,y=a∨y∈ap G:=fun y hy=>by
    rw [hS2] at hy;rcases Hz y hy with h|h
    ·exact hI.sub y h
    ·exact .inr h
   generalize R[j]=r at hreadr hnext;repeat' (first|apply ak (d:=38);exact rfl;apply ai (j:=j);exact rfl;exact rfl;exact hltj|apply ak (d:=39);exact rfl;apply au (ys:=ay r);exact rfl;exact pK;exact hreadr;exact rfl|refine zZA ?_|refine sM fun _=>?_|refine sC ?_ ?_<;>intro hb<;>try omega|fail)
   all_goals try omega
   rename_i g10;refine ax [0,5,7,8,10,34,35,36,40,41] rfl (fun y:Nat × List Rf × (Option Nat × Nat)=> [(6,sl y.2.2.1 y.2.1.length y.2.2.2),(42,.int .i64 (y.1:Int))]) (fun y=> .own y.2.2.1 34 2 y.2.1.length y.2.2.2 (y.2.1.flatMap aq):: .obj gs (aK aC (mapM tv y.2.1) y.2.1.length):: .box g10 31 (ay r):: .own (some go) 31 4 R.length co (R.flatMap ay):: .own Ac 34 2 K.length cap (K.flatMap aq)::lkB gx u b x gg dv::F) (fun y=>y.1≤K.length∧y.2.1=og S2 r (K.take y.1)) (fun y=>K.length - y.1) (0,S2,(A8,c8)) ⟨Xn _,rfl⟩ sB mS ?_;rintro ⟨k,S3,A9,c9⟩ ⟨hk,hS3⟩;dsimp only at hk hS3 ⊢;have hS3l:S3.length≤G.length+1:=by
    rw [hS3];exact Qp (c:=a) (fun y hy=>by rw [hKe];exact Zd hy) hS2n hS2s
   by_cases hltk:k<K.length
   ·refine aU (A:=Ac) pK (by omega) fun gc hA=> ?_;subst hA;have hreadk:=uz hltk;have hsn:og S2 r (K.take (k+1))=if aI r K[k]=true∧K[k]∉S3 then S3++ [K[k]] else S3:=by
     rw [Xk hltk,kJ,← hS3]
    generalize K[k]=f at hreadk hsn;have hha:=fun w=>jA r f w;have hlook:=LJ S3 f;have hput:=fun h=>Fe (S:=S3) (c:=f) h;generalize aI r f=hb9 at hha hsn;by_cases hin:f∈S3
    ·rw [decide_eq_true hin] at hlook;rw [if_neg (fun h=>h.2 hin)] at hsn;repeat' (first|apply ak (d:=44);exact rfl;apply ai (j:=k);exact rfl;exact rfl;exact hltk|apply ak (d:=45);exact rfl;apply au (ys:=aq f);exact rfl;exact pK;exact hreadk;exact rfl|apply aa (f:=28);exact rfl;exact rfl;intro w' hm;exact hha w'|apply ak (d:=52);exact rfl;apply bV (enc:=aC) (k:=f);exact rfl;exact rfl;exact pK;exact hlook|refine zZA ?_|refine sM fun _=>?_|refine sC ?_ ?_<;>intro hb<;>try omega|fail)
     all_goals first
      |omega
      |refine ⟨(k+1,S3,(A9,c9)),⟨hltk,hsn.symm⟩,by dsimp only;omega,by exact sB,by exact sB,by exact mS⟩;done
    ·rw [decide_eq_false hin] at hlook;have hput:=hput hin
     cases hb9 with
     |false=>
      rw [if_neg (fun h=>by cases h.1)] at hsn;repeat' (first|apply ak (d:=44);exact rfl;apply ai (j:=k);exact rfl;exact rfl;exact hltk|apply ak (d:=45);exact rfl;apply au (ys:=aq f);exact rfl;exact pK;exact hreadk;exact rfl|apply aa (f:=28);exact rfl;exact rfl;intro w' hm;exact hha w'|apply ak (d:=52);exact rfl;apply bV (enc:=aC) (k:=f);exact rfl;exact rfl;exact pK;exact hlook|refine zZA ?_|refine sM fun _=>?_|refine sC ?_ ?_<;>intro hb<;>try omega|fail)
      all_goals first
       |omega
       |refine ⟨(k+1,S3,(A9,c9)),⟨hltk,hsn.symm⟩,by dsimp only;omega,by exact sB,by exact sB,by exact mS⟩;done
     |true=>
      rw [if_pos ⟨rfl,hin⟩] at hsn;repeat' (first|apply ak (d:=44);exact rfl;apply ai (j:=k);exact rfl;exact rfl;exact hltk|apply ak (d:=45);exact rfl;apply au (ys:=aq f);exact rfl;exact pK;exact hreadk;exact rfl|apply aa (f:=28);exact rfl;exact rfl;intro w' hm;exact hha w'|apply ak (d:=52);exact rfl;apply bV (enc:=aC) (k:=f);exact rfl;exact rfl;exact pK;exact hlook|apply cB (enc:=aC) (k:=f);(iterate 3 exact rfl);exact pK;rw [hput]|apply aN (d:=60) (A:=A9) (m:=1);(iterate 3 exact rfl);exact pK;intro w hm;exact hm.cells_own pK;exact rfl;simp [Value.oneCell',sl];omega;simp only [maxLen];omega;intro B9 b9 hB9|refine zZA ?_|refine sM fun _=>?_|refine sC ?_ ?_<;>intro hb<;>try omega|fail)
      all_goals first
       |omega
       |(refine ⟨(k+1,S3++ [f],(B9,b9)),⟨hltk,hsn.symm⟩,by dsimp only;omega,?_,by exact sB,?_⟩<;>(simp only [List.length_append,List.length_singleton,List.flatMap_append,List.flatMap_cons,List.flatMap_nil,List.append_nil])<;>first|exact sB;done|exact mS;done)
   ·have e:k=K.length:=by omega
    subst e;rw [XF] at hS3;rw [← hS3] at hnext;repeat' (first|refine zZA ?_|refine sM fun _=>?_|refine sC ?_ ?_<;>intro hb<;>try omega|fail)
    all_goals first
     |omega
     |refine ⟨(j+1,S3,(A9,c9)),⟨hltj,hnext.symm⟩,by dsimp only;omega,by exact sB,by exact sB,by exact mS⟩;done
  ·have e:j=R.length:=by omega
   subst e;rw [XF] at hS2;rw [← hS2] at hstep;repeat' (first|refine zZA ?_|refine sM fun _=>?_|refine sC ?_ ?_<;>intro hb<;>try omega|fail)
   all_goals first
    |omega
    |refine ⟨(i+1,S2,(A8,c8)),hstep,by dsimp only;omega,by exact sB,by exact sB,by exact mS⟩;done
 ·have e:i=S.length:=by omega
  subst e;have he:=hI.end_;have hvS: ∀ c∈S,c.valid=true:=fun c hc=>by
   rcases hI.sub c hc with rfl|h
   ·exact hv
   ·exact hkv c h
  rw [← he];have hsrt:=fun R=>LA S hvS A7 c7 (by omega) R w0;have hsl:(sortRf S).length=S.length:=(Zg S _).length_eq;repeat' (first|apply aj (f:=117);exact rfl;exact rfl;exact FnIn.msub (hsrt _) (MSub.pick pK (MSub.refl _));rintro _ _ ⟨rfl,rfl⟩|refine zZA ?_|refine sM fun _=>?_|refine sC ?_ ?_<;>intro hb<;>try omega|fail)
  all_goals first
   |omega
   |refine bo eIO rfl rfl (H' := .own A7 34 2 (sortRf S).length c7 ((sortRf S).flatMap aq)::lkB gx u b x gg dv::F) (by rw [hsl];exact mS) ⟨A7,c7,by rw [hsl],rfl⟩;done
end
noncomputable def dkB (gx u:Nat) (b:Bk) (x:Bv) (gg:Nat) (G:Gr) (Dm:Option Nat) (R:List Blk):List Blk:=match Dm with
 |none=>lkB gx u b x gg (.map none)::R
 |some gd=>lkB gx u b x gg (.map (some gd)):: .obj gd (aK aC (mapM (dpV G (aZ b.rules (u:Int))) (ap G)) (ap G).length)::R
def kn (c:Rf) (y:Us):Cl:=⟨c,y.node⟩
theorem GM {p:Us→Bool} {U:List Us} {c:Rf} {j:Nat} (h:j<U.length):((U.take (j+1)).filter p).map (kn c)=((U.take j).filter p).map (kn c)++if p U[j]=true then [kn c U[j]] else []:=by
 rw [Xk h,YX,XI,YA];congr 1;split<;>rfl
theorem Nv {G:Gr} {w:Lw} {u:Nat} {c:Rf} (hl:G.length≤900):(iC G w u c).length≤901:=by
 have h: ∀ n i S,WyI G w u c i S→G.length+1 - i≤n→ ∃ S',WyI G w u c S'.length S' :=fun n=>by
  induction n with
  |zero=>
   intro i S hS hn;have hl:=hS.len;have hle:=hS.le;have e:i=S.length:=by omega
   subst e;exact ⟨S,hS⟩
  |succ n ih=>
   intro i S hS hn;by_cases hi:i<S.length
   ·exact ih (i+1) _ (hS.step hi) (by omega)
   ·have hle:=hS.le;have e:i=S.length:=by omega
    subst e;exact ⟨S,hS⟩
 obtain ⟨S,hS⟩:=h (G.length+1) 0 [c] WyI.start (by omega);unfold iC;rw [show (sortRf (zX G w u c)).length=(zX G w u c).length from (Zg _ _).length_eq,← hS.end_];have:=hS.len;omega
section
variable {u:Nat} {b:Bk} {x:Bv} {gg:Nat} {G:Gr} {B F0:List Blk} {w0:World} (D:Lkd u b x gg G B F0 w0) (gx:Nat) {F:List Blk} (hF:MSub F0 F)
include D hF
set_option maxHeartbeats 32000000 in
theorem Dw (a:Rf) (hv:a.valid=true):FnIn Tryz.prog 41 [.pointer (some ⟨gx,0,none⟩),aC a] w0 (lkB gx u b x gg (.map none)::F) fun v H' => ∃ A c,v=sl A (iZ G (lwB b) u (aZ b.rules (u:Int)) a).length c∧H' = .own A 98 3 (iZ G (lwB b) u (aZ b.rules (u:Int)) a).length c ((iZ G (lwB b) u (aZ b.rules (u:Int)) a).flatMap dr)::F:=by
 refine bI Tryz.func41 rfl Tryz.ntmps41 rfl ?_
 have hwy:=fun (H:List Blk) (hs:MSub F H)=>QO D gx (.map none) (hF.trans hs) a hv
 have hUs:=fun (c:Rf) H (hs:MSub F H)=>D.rd.us c H ((D.sub.trans hF).trans hs)
 have hUl:=fun c=>fL D.rd.g c
 have hUr:=fun c=>fun (y:Us) (hy:y∈aG G c)=>iE D.rd.g hy
 have hrl:=fun (dv:Value) (y:Us) (H:List Blk) (hs:MSub F H)=>vu D gx dv (hF.trans hs) y
 have hhS:=fun (r:Rct) (hr:aA r=true) (gd:Nat) (H:List Blk) (hs:MSub F H)=>Mi D gx (hF.trans hs) r hr gd
 have hhN:=fun (r:Rct) (hr:aA r=true) (H:List Blk) (hs:MSub F H)=>Mj D gx (hF.trans hs) r hr
 have hWl:=Nv (w:=lwB b) (u:=u) (c:=a) D.rd.l
 unfold iZ
 generalize iC G (lwB b) u a=W0 at hwy hWl ⊢
 refine aF 98 3 ?_
 repeat' (first
  |((with_reducible apply aj (f:=77));exact rfl;exact rfl;(refine FnIn.msub (hwy _ ?_) (MSub.pick (by (repeat first|exact .hd|apply Sel.tl|apply In.tl)) (MSub.refl _));(focus ((repeat (first|exact MSub.nil _|refine MSub.pick (by (repeat first|exact .hd|apply Sel.tl|apply In.tl)) ?_|exact MSub.refl _|refine MSub.drop .hd ?_));done)));rintro _ _ ⟨Aw,cw,rfl,rfl⟩)
  |((with_reducible apply ak);exact rfl;(first|((with_reducible apply TX);exact rfl)|((with_reducible apply EQ);exact rfl)|((with_reducible apply Vk);exact rfl)|((with_reducible apply NP);exact rfl)|((with_reducible apply ik);exact rfl;(repeat first|exact .hd|apply Sel.tl|apply In.tl);exact rfl)|((with_reducible apply EM);exact rfl;(repeat first|exact .hd|apply Sel.tl|apply In.tl);exact rfl)|((with_reducible apply u9);exact rfl;(repeat first|exact .hd|apply Sel.tl|apply In.tl);exact rfl;exact rfl)|((with_reducible apply Q7);(iterate 3 exact rfl))|((with_reducible apply ij);exact rfl)))
  |((with_reducible apply QL);exact rfl;exact rfl;intro _)
  |((with_reducible apply QM);(iterate 3 exact rfl);intro _)
  |((with_reducible apply Nt);exact rfl;intro _)
  |((with_reducible apply zD);exact rfl;exact rfl;(repeat first|exact .hd|apply Sel.tl|apply In.tl);(iterate 3 exact rfl))
  |((with_reducible apply Ea);exact rfl;exact rfl;(repeat first|exact .hd|apply Sel.tl|apply In.tl);(iterate 4 exact rfl))
  |((with_reducible apply zE);(iterate 7 exact rfl);intro _)
  |(with_reducible first|apply oo|apply Vv|apply U7|apply Nz|apply U9|apply TS|apply TU|apply QU|apply Vt|apply Vw|apply V8|apply V6|apply V9|apply QQ|apply QR|apply VC|apply VB|apply scp_e)
  |((with_reducible apply EF);exact rfl)
  |((with_reducible apply CD);exact rfl)
  |((with_reducible apply TW)<;>first|exact rfl|(intro hb;(replace hb:=Tidy.out hb;try (exfalso;omega))))
  |((with_reducible apply V5);exact rfl))
 all_goals first|(exfalso;omega)|skip
 refine ax [0,12,13] rfl (fun y:Nat × List Cl × (Option Nat × Nat) × Option Nat=> [(5,sl y.2.2.1.1 y.2.1.length y.2.2.1.2),(14,.int .i64 (y.1:Int))]) (fun y=> .own y.2.2.1.1 98 3 y.2.1.length y.2.2.1.2 (y.2.1.flatMap dr)::dkB gx u b x gg G y.2.2.2 (.own Aw 34 2 W0.length cw (W0.flatMap aq)::F)) (fun y=>y.1≤W0.length∧y.2.1=(W0.take y.1).flatMap (fun c=>((aG G c).filter fun z=>((lwB b).to z).getLsbD u && cX G (aZ b.rules (u:Int)) z.rect).map (kn c))∧y.2.1.length≤1000*y.1) (fun y=>W0.length - y.1) (0,[],(none,0),none) ⟨Xn _,rfl,Xn _⟩ (by (repeat (first|exact Sub.nil _|refine Sub.cons rfl ?_))) (by (repeat (first|exact MSub.nil _|refine MSub.pick (by (repeat first|exact .hd|apply Sel.tl|apply In.tl)) ?_|exact MSub.refl _|refine MSub.drop .hd ?_))) ?_
 rintro ⟨i,V,⟨A7,c7⟩,Dm⟩ ⟨hi,hV,hVl⟩
 dsimp only at hi hV hVl ⊢
 by_cases hlt:i<W0.length
 ·
  have hsi:(W0.take (i+1)).flatMap (fun c=>((aG G c).filter fun z=>((lwB b).to z).getLsbD u && cX G (aZ b.rules (u:Int)) z.rect).map (kn c))=V++((aG G W0[i]).filter fun z=>((lwB b).to z).getLsbD u && cX G (aZ b.rules (u:Int)) z.rect).map (kn W0[i]):=by
   rw [Xk hlt,Xz,ZT,← hV]
  have hread:=uz hlt
  generalize W0[i]=c at hread hsi
  have hUs:=hUs c
  have hUl:=hUl c
  have hUr:=hUr c
  generalize aG G c=U at hUs hUl hUr hsi
  cases Dm with
  |none=>
   dsimp only [dkB]
   refine aU (A:=Aw) (by (repeat first|exact .hd|apply Sel.tl|apply In.tl)) (by omega) fun gw hA=> ?_
   subst hA
   repeat' (first
    |((with_reducible apply ak (d:=16));exact rfl;(with_reducible apply ai (j:=i));exact rfl;exact rfl;exact hlt)
    |((with_reducible apply ak (d:=17));exact rfl;(with_reducible apply au (ys:=aq c));exact rfl;(repeat first|exact .hd|apply Sel.tl|apply In.tl);exact hread;exact rfl)
    |((with_reducible apply ak);exact rfl;(first|((with_reducible apply TX);exact rfl)|((with_reducible apply EQ);exact rfl)|((with_reducible apply Vk);exact rfl)|((with_reducible apply NP);exact rfl)|((with_reducible apply ik);exact rfl;(repeat first|exact .hd|apply Sel.tl|apply In.tl);exact rfl)|((with_reducible apply EM);exact rfl;(repeat first|exact .hd|apply Sel.tl|apply In.tl);exact rfl)|((with_reducible apply u9);exact rfl;(repeat first|exact .hd|apply Sel.tl|apply In.tl);exact rfl;exact rfl)|((with_reducible apply Q7);(iterate 3 exact rfl))|((with_reducible apply ij);exact rfl)))
    |((with_reducible apply QL);exact rfl;exact rfl;intro _)
    |((with_reducible apply QM);(iterate 3 exact rfl);intro _)
    |((with_reducible apply Nt);exact rfl;intro _)
    |((with_reducible apply zD);exact rfl;exact rfl;(repeat first|exact .hd|apply Sel.tl|apply In.tl);(iterate 3 exact rfl))
    |((with_reducible apply Ea);exact rfl;exact rfl;(repeat first|exact .hd|apply Sel.tl|apply In.tl);(iterate 4 exact rfl))
    |((with_reducible apply zE);(iterate 7 exact rfl);intro _)
    |(with_reducible first|apply oo|apply Vv|apply U7|apply Nz|apply U9|apply TS|apply TU|apply QU|apply Vt|apply Vw|apply V8|apply V6|apply V9|apply QQ|apply QR|apply VC|apply VB|apply scp_e)
    |((with_reducible apply EF);exact rfl)
    |((with_reducible apply CD);exact rfl)
    |((with_reducible apply TW)<;>first|exact rfl|(intro hb;(replace hb:=Tidy.out hb;try (exfalso;omega))))
    |((with_reducible apply V5);exact rfl)
    |((with_reducible apply ak);exact rfl;(with_reducible apply gZ);exact rfl;exact rfl;(simp only [maxLen] at*;omega))
    |((with_reducible apply ak);exact rfl;(with_reducible apply v_1addN);exact rfl;exact rfl;(simp only [maxLen] at*;omega))
    |((with_reducible apply ak);exact rfl;(with_reducible apply m9);exact rfl;exact rfl;(simp only [maxLen] at*;omega)))
   all_goals first|(exfalso;omega)|skip
   rename_i g7
   refine bT (id:=5) [5] [] [lkB gx u b x gg (.map none),.box g7 34 (aq c)] (by kernel_rfl) (by kernel_rfl) (by kernel_rfl) (by (repeat (first|exact MSub.nil _|refine MSub.pick (by (repeat first|exact .hd|apply Sel.tl|apply In.tl)) ?_|exact MSub.refl _|refine MSub.drop .hd ?_))) ?_
   repeat' (first
    |((with_reducible apply aj (f:=78));exact rfl;exact rfl;exact hUs _ (by (repeat (first|exact MSub.nil _|refine MSub.pick (by (repeat first|exact .hd|apply Sel.tl|apply In.tl)) ?_|exact MSub.refl _|refine MSub.drop .hd ?_)));rintro _ _ ⟨Au,cu,rfl,rfl⟩)
    |((with_reducible apply ak);exact rfl;(first|((with_reducible apply TX);exact rfl)|((with_reducible apply EQ);exact rfl)|((with_reducible apply Vk);exact rfl)|((with_reducible apply NP);exact rfl)|((with_reducible apply ik);exact rfl;(repeat first|exact .hd|apply Sel.tl|apply In.tl);exact rfl)|((with_reducible apply EM);exact rfl;(repeat first|exact .hd|apply Sel.tl|apply In.tl);exact rfl)|((with_reducible apply u9);exact rfl;(repeat first|exact .hd|apply Sel.tl|apply In.tl);exact rfl;exact rfl)|((with_reducible apply Q7);(iterate 3 exact rfl))|((with_reducible apply ij);exact rfl)))
    |((with_reducible apply QL);exact rfl;exact rfl;intro _)
    |((with_reducible apply QM);(iterate 3 exact rfl);intro _)
    |((with_reducible apply Nt);exact rfl;intro _)
    |((with_reducible apply zD);exact rfl;exact rfl;(repeat first|exact .hd|apply Sel.tl|apply In.tl);(iterate 3 exact rfl))
    |((with_reducible apply Ea);exact rfl;exact rfl;(repeat first|exact .hd|apply Sel.tl|apply In.tl);(iterate 4 exact rfl))
    |((with_reducible apply zE);(iterate 7 exact rfl);intro _)
    |(with_reducible first|apply oo|apply Vv|apply U7|apply Nz|apply U9|apply TS|apply TU|apply QU|apply Vt|apply Vw|apply V8|apply V6|apply V9|apply QQ|apply QR|apply VC|apply VB|apply scp_e)
    |((with_reducible apply EF);exact rfl)
    |((with_reducible apply CD);exact rfl)
    |((with_reducible apply TW)<;>first|exact rfl|(intro hb;(replace hb:=Tidy.out hb;try (exfalso;omega))))
    |((with_reducible apply V5);exact rfl)
    |((with_reducible apply ak);exact rfl;(with_reducible apply gZ);exact rfl;exact rfl;(simp only [maxLen] at*;omega))
    |((with_reducible apply ak);exact rfl;(with_reducible apply v_1addN);exact rfl;exact rfl;(simp only [maxLen] at*;omega))
    |((with_reducible apply ak);exact rfl;(with_reducible apply m9);exact rfl;exact rfl;(simp only [maxLen] at*;omega))
    |((with_reducible apply fH);(iterate 3 exact rfl);(first|((with_reducible apply TX);exact rfl)|((with_reducible apply EQ);exact rfl)|((with_reducible apply Vk);exact rfl)|((with_reducible apply NP);exact rfl)|((with_reducible apply ik);exact rfl;(repeat first|exact .hd|apply Sel.tl|apply In.tl);exact rfl)|((with_reducible apply EM);exact rfl;(repeat first|exact .hd|apply Sel.tl|apply In.tl);exact rfl)|((with_reducible apply u9);exact rfl;(repeat first|exact .hd|apply Sel.tl|apply In.tl);exact rfl;exact rfl)|((with_reducible apply Q7);(iterate 3 exact rfl))|((with_reducible apply ij);exact rfl)))
    |((with_reducible apply fH);(iterate 3 exact rfl);(with_reducible apply gZ);exact rfl;exact rfl;(simp only [maxLen] at*;omega))
    |((with_reducible apply fH);(iterate 3 exact rfl);(with_reducible apply v_1addN);exact rfl;exact rfl;(simp only [maxLen] at*;omega))
    |((with_reducible apply fH);(iterate 3 exact rfl);(with_reducible apply m9);exact rfl;exact rfl;(simp only [maxLen] at*;omega))
    |((with_reducible apply TR);(iterate 3 exact rfl))
    |((with_reducible apply wc_gno0);exact rfl)
    |((with_reducible apply WH);exact rfl;exact rfl)
    |((with_reducible apply U5);(iterate 4 exact rfl);(first|((with_reducible apply TX);exact rfl)|((with_reducible apply EQ);exact rfl)|((with_reducible apply Vk);exact rfl)|((with_reducible apply NP);exact rfl)|((with_reducible apply ik);exact rfl;(repeat first|exact .hd|apply Sel.tl|apply In.tl);exact rfl)|((with_reducible apply EM);exact rfl;(repeat first|exact .hd|apply Sel.tl|apply In.tl);exact rfl)|((with_reducible apply u9);exact rfl;(repeat first|exact .hd|apply Sel.tl|apply In.tl);exact rfl;exact rfl)|((with_reducible apply Q7);(iterate 3 exact rfl))|((with_reducible apply ij);exact rfl)))
    |((with_reducible apply K5)<;>first|exact rfl|(intro hb;(replace hb:=Tidy.out hb;try (exfalso;omega))))
    |(with_reducible apply TQ)
    |((with_reducible apply rW);(repeat (first|exact MSub.nil _|refine MSub.pick (by (repeat first|exact .hd|apply Sel.tl|apply In.tl)) ?_|exact MSub.refl _|refine MSub.drop .hd ?_))))
   all_goals first|(exfalso;omega)|skip
   refine ax [0,7,12,13,14,23,24] rfl (fun y:Nat × List Cl × (Option Nat × Nat) × Option Nat=> [(5,sl y.2.2.1.1 y.2.1.length y.2.2.1.2),(25,.int .i64 (y.1:Int))]) (fun y=> .own y.2.2.1.1 98 3 y.2.1.length y.2.2.1.2 (y.2.1.flatMap dr)::dkB gx u b x gg G y.2.2.2 (.own Au 159 6 U.length cu (U.flatMap bP):: .box g7 34 (aq c):: .own (some gw) 34 2 W0.length cw (W0.flatMap aq)::F)) (fun y=>y.1≤U.length∧y.2.1=V++((U.take y.1).filter fun z=>((lwB b).to z).getLsbD u && cX G (aZ b.rules (u:Int)) z.rect).map (kn c)∧y.2.1.length≤V.length+y.1) (fun y=>U.length - y.1) (0,V,(A7,c7),none) ⟨Xn _,by rw [YF,List.filter_nil,XR,Xm],Xy _⟩ (by (repeat (first|exact Sub.nil _|refine Sub.cons rfl ?_))) (by (repeat (first|exact MSub.nil _|refine MSub.pick (by (repeat first|exact .hd|apply Sel.tl|apply In.tl)) ?_|exact MSub.refl _|refine MSub.drop .hd ?_))) ?_
   rintro ⟨j,V2,⟨A8,c8⟩,Dm⟩ ⟨hj,hV2,hV2l⟩
   dsimp only at hj hV2 hV2l ⊢
   by_cases hltj:j<U.length
   ·
    have hreadu:((U.flatMap bP).drop (0+j*6)).take 6=bP U[j]:=by rw [Xv];exact aM lp U j hltj
    have hcs:=GM (p:=fun z=>((lwB b).to z).getLsbD u && cX G (aZ b.rules (u:Int)) z.rect) (c:=c) hltj
    have hyr:=hUr _ (XO hltj)
    generalize U[j]=y at hreadu hcs hyr
    have hrl:=fun dv=>hrl dv y
    have hhS:=hhS y.rect hyr
    have hhN:=hhN y.rect hyr

    have hsn:V++((U.take (j+1)).filter fun z=>((lwB b).to z).getLsbD u && cX G (aZ b.rules (u:Int)) z.rect).map (kn c)=V2++if (((lwB b).to y).getLsbD u && cX G (aZ b.rules (u:Int)) y.rect)=true then [kn c y] else []:=by
     rw [hcs,← XE,← hV2]
    clear hcs
    generalize ((lwB b).to y).getLsbD u=bt at hrl hsn
    generalize cX G (aZ b.rules (u:Int)) y.rect=bh at hhS hhN hsn
    cases Dm with
    |none=>
     dsimp only [dkB]
     refine aU (A:=Au) (by (repeat first|exact .hd|apply Sel.tl|apply In.tl)) (by omega) fun gu hA=> ?_
     subst hA
     cases bt with
     |false=>
      rw [if_neg (by rw [XX];decide),Xm] at hsn
      repeat' (first
       |((with_reducible apply ak (d:=27));exact rfl;(with_reducible apply ai (j:=j));exact rfl;exact rfl;exact hltj)
       |((with_reducible apply ak (d:=28));exact rfl;(with_reducible apply au (ys:=bP y));exact rfl;(repeat first|exact .hd|apply Sel.tl|apply In.tl);exact hreadu;exact rfl)
       |((with_reducible apply aj (f:=79));exact rfl;exact rfl;(refine FnIn.msub (hrl _ _ ?_) (MSub.pick (by (repeat first|exact .hd|apply Sel.tl|apply In.tl)) (MSub.refl _));(focus ((repeat (first|exact MSub.nil _|refine MSub.pick (by (repeat first|exact .hd|apply Sel.tl|apply In.tl)) ?_|exact MSub.refl _|refine MSub.drop .hd ?_));done)));rintro _ _ ⟨rfl,rfl⟩)
       |((with_reducible apply ak);exact rfl;(first|((with_reducible apply TX);exact rfl)|((with_reducible apply EQ);exact rfl)|((with_reducible apply Vk);exact rfl)|((with_reducible apply NP);exact rfl)|((with_reducible apply ik);exact rfl;(repeat first|exact .hd|apply Sel.tl|apply In.tl);exact rfl)|((with_reducible apply EM);exact rfl;(repeat first|exact .hd|apply Sel.tl|apply In.tl);exact rfl)|((with_reducible apply u9);exact rfl;(repeat first|exact .hd|apply Sel.tl|apply In.tl);exact rfl;exact rfl)|((with_reducible apply Q7);(iterate 3 exact rfl))|((with_reducible apply ij);exact rfl)))
       |((with_reducible apply QL);exact rfl;exact rfl;intro _)
       |((with_reducible apply QM);(iterate 3 exact rfl);intro _)
       |((with_reducible apply Nt);exact rfl;intro _)
       |((with_reducible apply zD);exact rfl;exact rfl;(repeat first|exact .hd|apply Sel.tl|apply In.tl);(iterate 3 exact rfl))
       |((with_reducible apply Ea);exact rfl;exact rfl;(repeat first|exact .hd|apply Sel.tl|apply In.tl);(iterate 4 exact rfl))
       |((with_reducible apply zE);(iterate 7 exact rfl);intro _)
       |(with_reducible first|apply oo|apply Vv|apply U7|apply Nz|apply U9|apply TS|apply TU|apply QU|apply Vt|apply Vw|apply V8|apply V6|apply V9|apply QQ|apply QR|apply VC|apply VB|apply scp_e)
       |((with_reducible apply EF);exact rfl)
       |((with_reducible apply CD);exact rfl)
       |((with_reducible apply TW)<;>first|exact rfl|(intro hb;(replace hb:=Tidy.out hb;try (exfalso;omega))))
       |((with_reducible apply V5);exact rfl)
       |((with_reducible apply ak);exact rfl;(with_reducible apply gZ);exact rfl;exact rfl;(simp only [maxLen] at*;omega))
       |((with_reducible apply ak);exact rfl;(with_reducible apply v_1addN);exact rfl;exact rfl;(simp only [maxLen] at*;omega))
       |((with_reducible apply ak);exact rfl;(with_reducible apply m9);exact rfl;exact rfl;(simp only [maxLen] at*;omega)))
      all_goals first
       |(exfalso;omega)
       |(refine ⟨(j+1,V2,(A8,c8),none),⟨hltj,hsn.symm,by dsimp only;omega⟩,by dsimp only;omega,by (repeat (first|exact Sub.nil _|refine Sub.cons rfl ?_)),by (repeat (first|exact Sub.nil _|refine Sub.cons rfl ?_)),by (repeat (first|exact MSub.nil _|refine MSub.pick (by (repeat first|exact .hd|apply Sel.tl|apply In.tl)) ?_|exact MSub.refl _|refine MSub.drop .hd ?_))⟩;done)
       |trace_state
     |true=>
      rw [XT] at hsn
      cases bh with
      |false=>
       rw [if_neg (by decide),Xm] at hsn
       repeat' (first
        |((with_reducible apply ak (d:=27));exact rfl;(with_reducible apply ai (j:=j));exact rfl;exact rfl;exact hltj)
        |((with_reducible apply ak (d:=28));exact rfl;(with_reducible apply au (ys:=bP y));exact rfl;(repeat first|exact .hd|apply Sel.tl|apply In.tl);exact hreadu;exact rfl)
        |((with_reducible apply aj (f:=79));exact rfl;exact rfl;(refine FnIn.msub (hrl _ _ ?_) (MSub.pick (by (repeat first|exact .hd|apply Sel.tl|apply In.tl)) (MSub.refl _));(focus ((repeat (first|exact MSub.nil _|refine MSub.pick (by (repeat first|exact .hd|apply Sel.tl|apply In.tl)) ?_|exact MSub.refl _|refine MSub.drop .hd ?_));done)));rintro _ _ ⟨rfl,rfl⟩)
        |((with_reducible apply aj (f:=80));exact rfl;exact rfl;(refine FnIn.msub (hhN _ ?_) (MSub.pick (by (repeat first|exact .hd|apply Sel.tl|apply In.tl)) (MSub.refl _));(focus ((repeat (first|exact MSub.nil _|refine MSub.pick (by (repeat first|exact .hd|apply Sel.tl|apply In.tl)) ?_|exact MSub.refl _|refine MSub.drop .hd ?_));done)));rintro _ _ ⟨rfl,rfl|⟨gd3,rfl⟩⟩)
        |((with_reducible apply ak);exact rfl;(first|((with_reducible apply TX);exact rfl)|((with_reducible apply EQ);exact rfl)|((with_reducible apply Vk);exact rfl)|((with_reducible apply NP);exact rfl)|((with_reducible apply ik);exact rfl;(repeat first|exact .hd|apply Sel.tl|apply In.tl);exact rfl)|((with_reducible apply EM);exact rfl;(repeat first|exact .hd|apply Sel.tl|apply In.tl);exact rfl)|((with_reducible apply u9);exact rfl;(repeat first|exact .hd|apply Sel.tl|apply In.tl);exact rfl;exact rfl)|((with_reducible apply Q7);(iterate 3 exact rfl))|((with_reducible apply ij);exact rfl)))
        |((with_reducible apply QL);exact rfl;exact rfl;intro _)
        |((with_reducible apply QM);(iterate 3 exact rfl);intro _)
        |((with_reducible apply Nt);exact rfl;intro _)
        |((with_reducible apply zD);exact rfl;exact rfl;(repeat first|exact .hd|apply Sel.tl|apply In.tl);(iterate 3 exact rfl))
        |((with_reducible apply Ea);exact rfl;exact rfl;(repeat first|exact .hd|apply Sel.tl|apply In.tl);(iterate 4 exact rfl))
        |((with_reducible apply zE);(iterate 7 exact rfl);intro _)
        |(with_reducible first|apply oo|apply Vv|apply U7|apply Nz|apply U9|apply TS|apply TU|apply QU|apply Vt|apply Vw|apply V8|apply V6|apply V9|apply QQ|apply QR|apply VC|apply VB|apply scp_e)
        |((with_reducible apply EF);exact rfl)
        |((with_reducible apply CD);exact rfl)
        |((with_reducible apply TW)<;>first|exact rfl|(intro hb;(replace hb:=Tidy.out hb;try (exfalso;omega))))
        |((with_reducible apply V5);exact rfl)
        |((with_reducible apply ak);exact rfl;(with_reducible apply gZ);exact rfl;exact rfl;(simp only [maxLen] at*;omega))
        |((with_reducible apply ak);exact rfl;(with_reducible apply v_1addN);exact rfl;exact rfl;(simp only [maxLen] at*;omega))
        |((with_reducible apply ak);exact rfl;(with_reducible apply m9);exact rfl;exact rfl;(simp only [maxLen] at*;omega)))
       all_goals first
         |(exfalso;omega)
         |(refine ⟨(j+1,V2++ [kn c y],(B8,b8),some gd3),⟨hltj,hsn.symm,by simp only [List.length_append,List.length_singleton];omega⟩,by dsimp only;omega,?_,by (repeat (first|exact Sub.nil _|refine Sub.cons rfl ?_)),?_⟩<;>(simp only [List.length_append,List.length_singleton,List.flatMap_append,List.flatMap_cons,List.flatMap_nil,List.append_nil])<;>first|((repeat (first|exact Sub.nil _|refine Sub.cons rfl ?_));done)|((repeat (first|exact MSub.nil _|refine MSub.pick (by (repeat first|exact .hd|apply Sel.tl|apply In.tl)) ?_|exact MSub.refl _|refine MSub.drop .hd ?_));done))
         |(refine ⟨(j+1,V2,(A8,c8),some gd3),⟨hltj,hsn.symm,by dsimp only;omega⟩,by dsimp only;omega,by (repeat (first|exact Sub.nil _|refine Sub.cons rfl ?_)),by (repeat (first|exact Sub.nil _|refine Sub.cons rfl ?_)),by (repeat (first|exact MSub.nil _|refine MSub.pick (by (repeat first|exact .hd|apply Sel.tl|apply In.tl)) ?_|exact MSub.refl _|refine MSub.drop .hd ?_))⟩;done)
         |(refine ⟨(j+1,V2++ [kn c y],(B8,b8),none),⟨hltj,hsn.symm,by simp only [List.length_append,List.length_singleton];omega⟩,by dsimp only;omega,?_,by (repeat (first|exact Sub.nil _|refine Sub.cons rfl ?_)),?_⟩<;>(simp only [List.length_append,List.length_singleton,List.flatMap_append,List.flatMap_cons,List.flatMap_nil,List.append_nil])<;>first|((repeat (first|exact Sub.nil _|refine Sub.cons rfl ?_));done)|((repeat (first|exact MSub.nil _|refine MSub.pick (by (repeat first|exact .hd|apply Sel.tl|apply In.tl)) ?_|exact MSub.refl _|refine MSub.drop .hd ?_));done))
         |(refine ⟨(j+1,V2,(A8,c8),none),⟨hltj,hsn.symm,by dsimp only;omega⟩,by dsimp only;omega,by (repeat (first|exact Sub.nil _|refine Sub.cons rfl ?_)),by (repeat (first|exact Sub.nil _|refine Sub.cons rfl ?_)),by (repeat (first|exact MSub.nil _|refine MSub.pick (by (repeat first|exact .hd|apply Sel.tl|apply In.tl)) ?_|exact MSub.refl _|refine MSub.drop .hd ?_))⟩;done)
         |trace_state
      |true=>
       rw [if_pos rfl] at hsn
       repeat' (first
        |((with_reducible apply ak (d:=27));exact rfl;(with_reducible apply ai (j:=j));exact rfl;exact rfl;exact hltj)
        |((with_reducible apply ak (d:=28));exact rfl;(with_reducible apply au (ys:=bP y));exact rfl;(repeat first|exact .hd|apply Sel.tl|apply In.tl);exact hreadu;exact rfl)
        |((with_reducible apply aj (f:=79));exact rfl;exact rfl;(refine FnIn.msub (hrl _ _ ?_) (MSub.pick (by (repeat first|exact .hd|apply Sel.tl|apply In.tl)) (MSub.refl _));(focus ((repeat (first|exact MSub.nil _|refine MSub.pick (by (repeat first|exact .hd|apply Sel.tl|apply In.tl)) ?_|exact MSub.refl _|refine MSub.drop .hd ?_));done)));rintro _ _ ⟨rfl,rfl⟩)
        |((with_reducible apply aj (f:=80));exact rfl;exact rfl;(refine FnIn.msub (hhN _ ?_) (MSub.pick (by (repeat first|exact .hd|apply Sel.tl|apply In.tl)) (MSub.refl _));(focus ((repeat (first|exact MSub.nil _|refine MSub.pick (by (repeat first|exact .hd|apply Sel.tl|apply In.tl)) ?_|exact MSub.refl _|refine MSub.drop .hd ?_));done)));rintro _ _ ⟨rfl,rfl|⟨gd3,rfl⟩⟩)
        |((with_reducible apply aN (d:=43) (A:=A8) (m:=1));(iterate 3 exact rfl);(repeat first|exact .hd|apply Sel.tl|apply In.tl);(intro w hm;exact hm.cells_own (by (repeat first|exact .hd|apply Sel.tl|apply In.tl)));exact rfl;(simp [Value.oneCell',sl]);omega;(simp only [maxLen];omega);(intro B8 b8 hB8))
        |((with_reducible apply ak);exact rfl;(first|((with_reducible apply TX);exact rfl)|((with_reducible apply EQ);exact rfl)|((with_reducible apply Vk);exact rfl)|((with_reducible apply NP);exact rfl)|((with_reducible apply ik);exact rfl;(repeat first|exact .hd|apply Sel.tl|apply In.tl);exact rfl)|((with_reducible apply EM);exact rfl;(repeat first|exact .hd|apply Sel.tl|apply In.tl);exact rfl)|((with_reducible apply u9);exact rfl;(repeat first|exact .hd|apply Sel.tl|apply In.tl);exact rfl;exact rfl)|((with_reducible apply Q7);(iterate 3 exact rfl))|((with_reducible apply ij);exact rfl)))
        |((with_reducible apply QL);exact rfl;exact rfl;intro _)
        |((with_reducible apply QM);(iterate 3 exact rfl);intro _)
        |((with_reducible apply Nt);exact rfl;intro _)
        |((with_reducible apply zD);exact rfl;exact rfl;(repeat first|exact .hd|apply Sel.tl|apply In.tl);(iterate 3 exact rfl))
        |((with_reducible apply Ea);exact rfl;exact rfl;(repeat first|exact .hd|apply Sel.tl|apply In.tl);(iterate 4 exact rfl))
        |((with_reducible apply zE);(iterate 7 exact rfl);intro _)
        |(with_reducible first|apply oo|apply Vv|apply U7|apply Nz|apply U9|apply TS|apply TU|apply QU|apply Vt|apply Vw|apply V8|apply V6|apply V9|apply QQ|apply QR|apply VC|apply VB|apply scp_e)
        |((with_reducible apply EF);exact rfl)
        |((with_reducible apply CD);exact rfl)
        |((with_reducible apply TW)<;>first|exact rfl|(intro hb;(replace hb:=Tidy.out hb;try (exfalso;omega))))
        |((with_reducible apply V5);exact rfl)
        |((with_reducible apply ak);exact rfl;(with_reducible apply gZ);exact rfl;exact rfl;(simp only [maxLen] at*;omega))
        |((with_reducible apply ak);exact rfl;(with_reducible apply v_1addN);exact rfl;exact rfl;(simp only [maxLen] at*;omega))
        |((with_reducible apply ak);exact rfl;(with_reducible apply m9);exact rfl;exact rfl;(simp only [maxLen] at*;omega)))
       all_goals first
         |(exfalso;omega)
         |(refine ⟨(j+1,V2++ [kn c y],(B8,b8),some gd3),⟨hltj,hsn.symm,by simp only [List.length_append,List.length_singleton];omega⟩,by dsimp only;omega,?_,by (repeat (first|exact Sub.nil _|refine Sub.cons rfl ?_)),?_⟩<;>(simp only [List.length_append,List.length_singleton,List.flatMap_append,List.flatMap_cons,List.flatMap_nil,List.append_nil])<;>first|((repeat (first|exact Sub.nil _|refine Sub.cons rfl ?_));done)|((repeat (first|exact MSub.nil _|refine MSub.pick (by (repeat first|exact .hd|apply Sel.tl|apply In.tl)) ?_|exact MSub.refl _|refine MSub.drop .hd ?_));done))
         |(refine ⟨(j+1,V2,(A8,c8),some gd3),⟨hltj,hsn.symm,by dsimp only;omega⟩,by dsimp only;omega,by (repeat (first|exact Sub.nil _|refine Sub.cons rfl ?_)),by (repeat (first|exact Sub.nil _|refine Sub.cons rfl ?_)),by (repeat (first|exact MSub.nil _|refine MSub.pick (by (repeat first|exact .hd|apply Sel.tl|apply In.tl)) ?_|exact MSub.refl _|refine MSub.drop .hd ?_))⟩;done)
         |(refine ⟨(j+1,V2++ [kn c y],(B8,b8),none),⟨hltj,hsn.symm,by simp only [List.length_append,List.length_singleton];omega⟩,by dsimp only;omega,?_,by (repeat (first|exact Sub.nil _|refine Sub.cons rfl ?_)),?_⟩<;>(simp only [List.length_append,List.length_singleton,List.flatMap_append,List.flatMap_cons,List.flatMap_nil,List.append_nil])<;>first|((repeat (first|exact Sub.nil _|refine Sub.cons rfl ?_));done)|((repeat (first|exact MSub.nil _|refine MSub.pick (by (repeat first|exact .hd|apply Sel.tl|apply In.tl)) ?_|exact MSub.refl _|refine MSub.drop .hd ?_));done))
         |(refine ⟨(j+1,V2,(A8,c8),none),⟨hltj,hsn.symm,by dsimp only;omega⟩,by dsimp only;omega,by (repeat (first|exact Sub.nil _|refine Sub.cons rfl ?_)),by (repeat (first|exact Sub.nil _|refine Sub.cons rfl ?_)),by (repeat (first|exact MSub.nil _|refine MSub.pick (by (repeat first|exact .hd|apply Sel.tl|apply In.tl)) ?_|exact MSub.refl _|refine MSub.drop .hd ?_))⟩;done)
         |trace_state
    |some gd2=>
     dsimp only [dkB]
     refine aU (A:=Au) (by (repeat first|exact .hd|apply Sel.tl|apply In.tl)) (by omega) fun gu hA=> ?_
     subst hA
     cases bt with
     |false=>
      rw [if_neg (by rw [XX];decide),Xm] at hsn
      repeat' (first
       |((with_reducible apply ak (d:=27));exact rfl;(with_reducible apply ai (j:=j));exact rfl;exact rfl;exact hltj)
       |((with_reducible apply ak (d:=28));exact rfl;(with_reducible apply au (ys:=bP y));exact rfl;(repeat first|exact .hd|apply Sel.tl|apply In.tl);exact hreadu;exact rfl)
       |((with_reducible apply aj (f:=79));exact rfl;exact rfl;(refine FnIn.msub (hrl _ _ ?_) (MSub.pick (by (repeat first|exact .hd|apply Sel.tl|apply In.tl)) (MSub.refl _));(focus ((repeat (first|exact MSub.nil _|refine MSub.pick (by (repeat first|exact .hd|apply Sel.tl|apply In.tl)) ?_|exact MSub.refl _|refine MSub.drop .hd ?_));done)));rintro _ _ ⟨rfl,rfl⟩)
       |((with_reducible apply ak);exact rfl;(first|((with_reducible apply TX);exact rfl)|((with_reducible apply EQ);exact rfl)|((with_reducible apply Vk);exact rfl)|((with_reducible apply NP);exact rfl)|((with_reducible apply ik);exact rfl;(repeat first|exact .hd|apply Sel.tl|apply In.tl);exact rfl)|((with_reducible apply EM);exact rfl;(repeat first|exact .hd|apply Sel.tl|apply In.tl);exact rfl)|((with_reducible apply u9);exact rfl;(repeat first|exact .hd|apply Sel.tl|apply In.tl);exact rfl;exact rfl)|((with_reducible apply Q7);(iterate 3 exact rfl))|((with_reducible apply ij);exact rfl)))
       |((with_reducible apply QL);exact rfl;exact rfl;intro _)
       |((with_reducible apply QM);(iterate 3 exact rfl);intro _)
       |((with_reducible apply Nt);exact rfl;intro _)
       |((with_reducible apply zD);exact rfl;exact rfl;(repeat first|exact .hd|apply Sel.tl|apply In.tl);(iterate 3 exact rfl))
       |((with_reducible apply Ea);exact rfl;exact rfl;(repeat first|exact .hd|apply Sel.tl|apply In.tl);(iterate 4 exact rfl))
       |((with_reducible apply zE);(iterate 7 exact rfl);intro _)
       |(with_reducible first|apply oo|apply Vv|apply U7|apply Nz|apply U9|apply TS|apply TU|apply QU|apply Vt|apply Vw|apply V8|apply V6|apply V9|apply QQ|apply QR|apply VC|apply VB|apply scp_e)
       |((with_reducible apply EF);exact rfl)
       |((with_reducible apply CD);exact rfl)
       |((with_reducible apply TW)<;>first|exact rfl|(intro hb;(replace hb:=Tidy.out hb;try (exfalso;omega))))
       |((with_reducible apply V5);exact rfl)
       |((with_reducible apply ak);exact rfl;(with_reducible apply gZ);exact rfl;exact rfl;(simp only [maxLen] at*;omega))
       |((with_reducible apply ak);exact rfl;(with_reducible apply v_1addN);exact rfl;exact rfl;(simp only [maxLen] at*;omega))
       |((with_reducible apply ak);exact rfl;(with_reducible apply m9);exact rfl;exact rfl;(simp only [maxLen] at*;omega)))
      all_goals first
       |(exfalso;omega)
       |(refine ⟨(j+1,V2,(A8,c8),some gd2),⟨hltj,hsn.symm,by dsimp only;omega⟩,by dsimp only;omega,by (repeat (first|exact Sub.nil _|refine Sub.cons rfl ?_)),by (repeat (first|exact Sub.nil _|refine Sub.cons rfl ?_)),by (repeat (first|exact MSub.nil _|refine MSub.pick (by (repeat first|exact .hd|apply Sel.tl|apply In.tl)) ?_|exact MSub.refl _|refine MSub.drop .hd ?_))⟩;done)
       |trace_state
     |true=>
      rw [XT] at hsn
      cases bh with
      |false=>
       rw [if_neg (by decide),Xm] at hsn
       repeat' (first
        |((with_reducible apply ak (d:=27));exact rfl;(with_reducible apply ai (j:=j));exact rfl;exact rfl;exact hltj)
        |((with_reducible apply ak (d:=28));exact rfl;(with_reducible apply au (ys:=bP y));exact rfl;(repeat first|exact .hd|apply Sel.tl|apply In.tl);exact hreadu;exact rfl)
        |((with_reducible apply aj (f:=79));exact rfl;exact rfl;(refine FnIn.msub (hrl _ _ ?_) (MSub.pick (by (repeat first|exact .hd|apply Sel.tl|apply In.tl)) (MSub.refl _));(focus ((repeat (first|exact MSub.nil _|refine MSub.pick (by (repeat first|exact .hd|apply Sel.tl|apply In.tl)) ?_|exact MSub.refl _|refine MSub.drop .hd ?_));done)));rintro _ _ ⟨rfl,rfl⟩)
        |((with_reducible apply aj (f:=80));exact rfl;exact rfl;(refine FnIn.msub (hhS gd2 _ ?_) (MSub.pick (by (repeat first|exact .hd|apply Sel.tl|apply In.tl)) (MSub.pick (by (repeat first|exact .hd|apply Sel.tl|apply In.tl)) (MSub.refl _)));(focus ((repeat (first|exact MSub.nil _|refine MSub.pick (by (repeat first|exact .hd|apply Sel.tl|apply In.tl)) ?_|exact MSub.refl _|refine MSub.drop .hd ?_));done)));rintro _ _ ⟨rfl,rfl⟩)
        |((with_reducible apply ak);exact rfl;(first|((with_reducible apply TX);exact rfl)|((with_reducible apply EQ);exact rfl)|((with_reducible apply Vk);exact rfl)|((with_reducible apply NP);exact rfl)|((with_reducible apply ik);exact rfl;(repeat first|exact .hd|apply Sel.tl|apply In.tl);exact rfl)|((with_reducible apply EM);exact rfl;(repeat first|exact .hd|apply Sel.tl|apply In.tl);exact rfl)|((with_reducible apply u9);exact rfl;(repeat first|exact .hd|apply Sel.tl|apply In.tl);exact rfl;exact rfl)|((with_reducible apply Q7);(iterate 3 exact rfl))|((with_reducible apply ij);exact rfl)))
        |((with_reducible apply QL);exact rfl;exact rfl;intro _)
        |((with_reducible apply QM);(iterate 3 exact rfl);intro _)
        |((with_reducible apply Nt);exact rfl;intro _)
        |((with_reducible apply zD);exact rfl;exact rfl;(repeat first|exact .hd|apply Sel.tl|apply In.tl);(iterate 3 exact rfl))
        |((with_reducible apply Ea);exact rfl;exact rfl;(repeat first|exact .hd|apply Sel.tl|apply In.tl);(iterate 4 exact rfl))
        |((with_reducible apply zE);(iterate 7 exact rfl);intro _)
        |(with_reducible first|apply oo|apply Vv|apply U7|apply Nz|apply U9|apply TS|apply TU|apply QU|apply Vt|apply Vw|apply V8|apply V6|apply V9|apply QQ|apply QR|apply VC|apply VB|apply scp_e)
        |((with_reducible apply EF);exact rfl)
        |((with_reducible apply CD);exact rfl)
        |((with_reducible apply TW)<;>first|exact rfl|(intro hb;(replace hb:=Tidy.out hb;try (exfalso;omega))))
        |((with_reducible apply V5);exact rfl)
        |((with_reducible apply ak);exact rfl;(with_reducible apply gZ);exact rfl;exact rfl;(simp only [maxLen] at*;omega))
        |((with_reducible apply ak);exact rfl;(with_reducible apply v_1addN);exact rfl;exact rfl;(simp only [maxLen] at*;omega))
        |((with_reducible apply ak);exact rfl;(with_reducible apply m9);exact rfl;exact rfl;(simp only [maxLen] at*;omega)))
       all_goals first
         |(exfalso;omega)
         |(refine ⟨(j+1,V2++ [kn c y],(B8,b8),some gd2),⟨hltj,hsn.symm,by simp only [List.length_append,List.length_singleton];omega⟩,by dsimp only;omega,?_,by (repeat (first|exact Sub.nil _|refine Sub.cons rfl ?_)),?_⟩<;>(simp only [List.length_append,List.length_singleton,List.flatMap_append,List.flatMap_cons,List.flatMap_nil,List.append_nil])<;>first|((repeat (first|exact Sub.nil _|refine Sub.cons rfl ?_));done)|((repeat (first|exact MSub.nil _|refine MSub.pick (by (repeat first|exact .hd|apply Sel.tl|apply In.tl)) ?_|exact MSub.refl _|refine MSub.drop .hd ?_));done))
         |(refine ⟨(j+1,V2,(A8,c8),some gd2),⟨hltj,hsn.symm,by dsimp only;omega⟩,by dsimp only;omega,by (repeat (first|exact Sub.nil _|refine Sub.cons rfl ?_)),by (repeat (first|exact Sub.nil _|refine Sub.cons rfl ?_)),by (repeat (first|exact MSub.nil _|refine MSub.pick (by (repeat first|exact .hd|apply Sel.tl|apply In.tl)) ?_|exact MSub.refl _|refine MSub.drop .hd ?_))⟩;done)
         |trace_state
      |true=>
       rw [if_pos rfl] at hsn
       repeat' (first
        |((with_reducible apply ak (d:=27));exact rfl;(with_reducible apply ai (j:=j));exact rfl;exact rfl;exact hltj)
        |((with_reducible apply ak (d:=28));exact rfl;(with_reducible apply au (ys:=bP y));exact rfl;(repeat first|exact .hd|apply Sel.tl|apply In.tl);exact hreadu;exact rfl)
        |((with_reducible apply aj (f:=79));exact rfl;exact rfl;(refine FnIn.msub (hrl _ _ ?_) (MSub.pick (by (repeat first|exact .hd|apply Sel.tl|apply In.tl)) (MSub.refl _));(focus ((repeat (first|exact MSub.nil _|refine MSub.pick (by (repeat first|exact .hd|apply Sel.tl|apply In.tl)) ?_|exact MSub.refl _|refine MSub.drop .hd ?_));done)));rintro _ _ ⟨rfl,rfl⟩)
        |((with_reducible apply aj (f:=80));exact rfl;exact rfl;(refine FnIn.msub (hhS gd2 _ ?_) (MSub.pick (by (repeat first|exact .hd|apply Sel.tl|apply In.tl)) (MSub.pick (by (repeat first|exact .hd|apply Sel.tl|apply In.tl)) (MSub.refl _)));(focus ((repeat (first|exact MSub.nil _|refine MSub.pick (by (repeat first|exact .hd|apply Sel.tl|apply In.tl)) ?_|exact MSub.refl _|refine MSub.drop .hd ?_));done)));rintro _ _ ⟨rfl,rfl⟩)
        |((with_reducible apply aN (d:=43) (A:=A8) (m:=1));(iterate 3 exact rfl);(repeat first|exact .hd|apply Sel.tl|apply In.tl);(intro w hm;exact hm.cells_own (by (repeat first|exact .hd|apply Sel.tl|apply In.tl)));exact rfl;(simp [Value.oneCell',sl]);omega;(simp only [maxLen];omega);(intro B8 b8 hB8))
        |((with_reducible apply ak);exact rfl;(first|((with_reducible apply TX);exact rfl)|((with_reducible apply EQ);exact rfl)|((with_reducible apply Vk);exact rfl)|((with_reducible apply NP);exact rfl)|((with_reducible apply ik);exact rfl;(repeat first|exact .hd|apply Sel.tl|apply In.tl);exact rfl)|((with_reducible apply EM);exact rfl;(repeat first|exact .hd|apply Sel.tl|apply In.tl);exact rfl)|((with_reducible apply u9);exact rfl;(repeat first|exact .hd|apply Sel.tl|apply In.tl);exact rfl;exact rfl)|((with_reducible apply Q7);(iterate 3 exact rfl))|((with_reducible apply ij);exact rfl)))
        |((with_reducible apply QL);exact rfl;exact rfl;intro _)
        |((with_reducible apply QM);(iterate 3 exact rfl);intro _)
        |((with_reducible apply Nt);exact rfl;intro _)
        |((with_reducible apply zD);exact rfl;exact rfl;(repeat first|exact .hd|apply Sel.tl|apply In.tl);(iterate 3 exact rfl))
        |((with_reducible apply Ea);exact rfl;exact rfl;(repeat first|exact .hd|apply Sel.tl|apply In.tl);(iterate 4 exact rfl))
        |((with_reducible apply zE);(iterate 7 exact rfl);intro _)
        |(with_reducible first|apply oo|apply Vv|apply U7|apply Nz|apply U9|apply TS|apply TU|apply QU|apply Vt|apply Vw|apply V8|apply V6|apply V9|apply QQ|apply QR|apply VC|apply VB|apply scp_e)
        |((with_reducible apply EF);exact rfl)
        |((with_reducible apply CD);exact rfl)
        |((with_reducible apply TW)<;>first|exact rfl|(intro hb;(replace hb:=Tidy.out hb;try (exfalso;omega))))
        |((with_reducible apply V5);exact rfl)
        |((with_reducible apply ak);exact rfl;(with_reducible apply gZ);exact rfl;exact rfl;(simp only [maxLen] at*;omega))
        |((with_reducible apply ak);exact rfl;(with_reducible apply v_1addN);exact rfl;exact rfl;(simp only [maxLen] at*;omega))
        |((with_reducible apply ak);exact rfl;(with_reducible apply m9);exact rfl;exact rfl;(simp only [maxLen] at*;omega)))
       all_goals first
         |(exfalso;omega)
         |(refine ⟨(j+1,V2++ [kn c y],(B8,b8),some gd2),⟨hltj,hsn.symm,by simp only [List.length_append,List.length_singleton];omega⟩,by dsimp only;omega,?_,by (repeat (first|exact Sub.nil _|refine Sub.cons rfl ?_)),?_⟩<;>(simp only [List.length_append,List.length_singleton,List.flatMap_append,List.flatMap_cons,List.flatMap_nil,List.append_nil])<;>first|((repeat (first|exact Sub.nil _|refine Sub.cons rfl ?_));done)|((repeat (first|exact MSub.nil _|refine MSub.pick (by (repeat first|exact .hd|apply Sel.tl|apply In.tl)) ?_|exact MSub.refl _|refine MSub.drop .hd ?_));done))
         |(refine ⟨(j+1,V2,(A8,c8),some gd2),⟨hltj,hsn.symm,by dsimp only;omega⟩,by dsimp only;omega,by (repeat (first|exact Sub.nil _|refine Sub.cons rfl ?_)),by (repeat (first|exact Sub.nil _|refine Sub.cons rfl ?_)),by (repeat (first|exact MSub.nil _|refine MSub.pick (by (repeat first|exact .hd|apply Sel.tl|apply In.tl)) ?_|exact MSub.refl _|refine MSub.drop .hd ?_))⟩;done)
         |trace_state
   ·
    have e:j=U.length:=by omega
    subst e
    rw [XF] at hV2
    rw [← hV2] at hsi
    cases Dm with
    |none=>
     dsimp only [dkB]
     repeat' (first
      |((with_reducible apply ak);exact rfl;(first|((with_reducible apply TX);exact rfl)|((with_reducible apply EQ);exact rfl)|((with_reducible apply Vk);exact rfl)|((with_reducible apply NP);exact rfl)|((with_reducible apply ik);exact rfl;(repeat first|exact .hd|apply Sel.tl|apply In.tl);exact rfl)|((with_reducible apply EM);exact rfl;(repeat first|exact .hd|apply Sel.tl|apply In.tl);exact rfl)|((with_reducible apply u9);exact rfl;(repeat first|exact .hd|apply Sel.tl|apply In.tl);exact rfl;exact rfl)|((with_reducible apply Q7);(iterate 3 exact rfl))|((with_reducible apply ij);exact rfl)))
      |((with_reducible apply QL);exact rfl;exact rfl;intro _)
      |((with_reducible apply QM);(iterate 3 exact rfl);intro _)
      |((with_reducible apply Nt);exact rfl;intro _)
      |((with_reducible apply zD);exact rfl;exact rfl;(repeat first|exact .hd|apply Sel.tl|apply In.tl);(iterate 3 exact rfl))
      |((with_reducible apply Ea);exact rfl;exact rfl;(repeat first|exact .hd|apply Sel.tl|apply In.tl);(iterate 4 exact rfl))
      |((with_reducible apply zE);(iterate 7 exact rfl);intro _)
      |(with_reducible first|apply oo|apply Vv|apply U7|apply Nz|apply U9|apply TS|apply TU|apply QU|apply Vt|apply Vw|apply V8|apply V6|apply V9|apply QQ|apply QR|apply VC|apply VB|apply scp_e)
      |((with_reducible apply EF);exact rfl)
      |((with_reducible apply CD);exact rfl)
      |((with_reducible apply TW)<;>first|exact rfl|(intro hb;(replace hb:=Tidy.out hb;try (exfalso;omega))))
      |((with_reducible apply V5);exact rfl)
      |((with_reducible apply ak);exact rfl;(with_reducible apply gZ);exact rfl;exact rfl;(simp only [maxLen] at*;omega))
      |((with_reducible apply ak);exact rfl;(with_reducible apply v_1addN);exact rfl;exact rfl;(simp only [maxLen] at*;omega))
      |((with_reducible apply ak);exact rfl;(with_reducible apply m9);exact rfl;exact rfl;(simp only [maxLen] at*;omega)))
     all_goals first
      |(exfalso;omega)
      |(refine ⟨(i+1,V2,(A8,c8),none),⟨hlt,hsi.symm,by dsimp only;omega⟩,by dsimp only;omega,by (repeat (first|exact Sub.nil _|refine Sub.cons rfl ?_)),by (repeat (first|exact Sub.nil _|refine Sub.cons rfl ?_)),by (repeat (first|exact MSub.nil _|refine MSub.pick (by (repeat first|exact .hd|apply Sel.tl|apply In.tl)) ?_|exact MSub.refl _|refine MSub.drop .hd ?_))⟩;done)
      |trace_state
    |some gd2=>
     dsimp only [dkB]
     repeat' (first
      |((with_reducible apply ak);exact rfl;(first|((with_reducible apply TX);exact rfl)|((with_reducible apply EQ);exact rfl)|((with_reducible apply Vk);exact rfl)|((with_reducible apply NP);exact rfl)|((with_reducible apply ik);exact rfl;(repeat first|exact .hd|apply Sel.tl|apply In.tl);exact rfl)|((with_reducible apply EM);exact rfl;(repeat first|exact .hd|apply Sel.tl|apply In.tl);exact rfl)|((with_reducible apply u9);exact rfl;(repeat first|exact .hd|apply Sel.tl|apply In.tl);exact rfl;exact rfl)|((with_reducible apply Q7);(iterate 3 exact rfl))|((with_reducible apply ij);exact rfl)))
      |((with_reducible apply QL);exact rfl;exact rfl;intro _)
      |((with_reducible apply QM);(iterate 3 exact rfl);intro _)
      |((with_reducible apply Nt);exact rfl;intro _)
      |((with_reducible apply zD);exact rfl;exact rfl;(repeat first|exact .hd|apply Sel.tl|apply In.tl);(iterate 3 exact rfl))
      |((with_reducible apply Ea);exact rfl;exact rfl;(repeat first|exact .hd|apply Sel.tl|apply In.tl);(iterate 4 exact rfl))
      |((with_reducible apply zE);(iterate 7 exact rfl);intro _)
      |(with_reducible first|apply oo|apply Vv|apply U7|apply Nz|apply U9|apply TS|apply TU|apply QU|apply Vt|apply Vw|apply V8|apply V6|apply V9|apply QQ|apply QR|apply VC|apply VB|apply scp_e)
      |((with_reducible apply EF);exact rfl)
      |((with_reducible apply CD);exact rfl)
      |((with_reducible apply TW)<;>first|exact rfl|(intro hb;(replace hb:=Tidy.out hb;try (exfalso;omega))))
      |((with_reducible apply V5);exact rfl)
      |((with_reducible apply ak);exact rfl;(with_reducible apply gZ);exact rfl;exact rfl;(simp only [maxLen] at*;omega))
      |((with_reducible apply ak);exact rfl;(with_reducible apply v_1addN);exact rfl;exact rfl;(simp only [maxLen] at*;omega))
      |((with_reducible apply ak);exact rfl;(with_reducible apply m9);exact rfl;exact rfl;(simp only [maxLen] at*;omega)))
     all_goals first
      |(exfalso;omega)
      |(refine ⟨(i+1,V2,(A8,c8),some gd2),⟨hlt,hsi.symm,by dsimp only;omega⟩,by dsimp only;omega,by (repeat (first|exact Sub.nil _|refine Sub.cons rfl ?_)),by (repeat (first|exact Sub.nil _|refine Sub.cons rfl ?_)),by (repeat (first|exact MSub.nil _|refine MSub.pick (by (repeat first|exact .hd|apply Sel.tl|apply In.tl)) ?_|exact MSub.refl _|refine MSub.drop .hd ?_))⟩;done)
      |trace_state
  |some gd=>
   dsimp only [dkB]
   refine aU (A:=Aw) (by (repeat first|exact .hd|apply Sel.tl|apply In.tl)) (by omega) fun gw hA=> ?_
   subst hA
   repeat' (first
    |((with_reducible apply ak (d:=16));exact rfl;(with_reducible apply ai (j:=i));exact rfl;exact rfl;exact hlt)
    |((with_reducible apply ak (d:=17));exact rfl;(with_reducible apply au (ys:=aq c));exact rfl;(repeat first|exact .hd|apply Sel.tl|apply In.tl);exact hread;exact rfl)
    |((with_reducible apply ak);exact rfl;(first|((with_reducible apply TX);exact rfl)|((with_reducible apply EQ);exact rfl)|((with_reducible apply Vk);exact rfl)|((with_reducible apply NP);exact rfl)|((with_reducible apply ik);exact rfl;(repeat first|exact .hd|apply Sel.tl|apply In.tl);exact rfl)|((with_reducible apply EM);exact rfl;(repeat first|exact .hd|apply Sel.tl|apply In.tl);exact rfl)|((with_reducible apply u9);exact rfl;(repeat first|exact .hd|apply Sel.tl|apply In.tl);exact rfl;exact rfl)|((with_reducible apply Q7);(iterate 3 exact rfl))|((with_reducible apply ij);exact rfl)))
    |((with_reducible apply QL);exact rfl;exact rfl;intro _)
    |((with_reducible apply QM);(iterate 3 exact rfl);intro _)
    |((with_reducible apply Nt);exact rfl;intro _)
    |((with_reducible apply zD);exact rfl;exact rfl;(repeat first|exact .hd|apply Sel.tl|apply In.tl);(iterate 3 exact rfl))
    |((with_reducible apply Ea);exact rfl;exact rfl;(repeat first|exact .hd|apply Sel.tl|apply In.tl);(iterate 4 exact rfl))
    |((with_reducible apply zE);(iterate 7 exact rfl);intro _)
    |(with_reducible first|apply oo|apply Vv|apply U7|apply Nz|apply U9|apply TS|apply TU|apply QU|apply Vt|apply Vw|apply V8|apply V6|apply V9|apply QQ|apply QR|apply VC|apply VB|apply scp_e)
    |((with_reducible apply EF);exact rfl)
    |((with_reducible apply CD);exact rfl)
    |((with_reducible apply TW)<;>first|exact rfl|(intro hb;(replace hb:=Tidy.out hb;try (exfalso;omega))))
    |((with_reducible apply V5);exact rfl)
    |((with_reducible apply ak);exact rfl;(with_reducible apply gZ);exact rfl;exact rfl;(simp only [maxLen] at*;omega))
    |((with_reducible apply ak);exact rfl;(with_reducible apply v_1addN);exact rfl;exact rfl;(simp only [maxLen] at*;omega))
    |((with_reducible apply ak);exact rfl;(with_reducible apply m9);exact rfl;exact rfl;(simp only [maxLen] at*;omega)))
   all_goals first|(exfalso;omega)|skip
   rename_i g7
   refine bT (id:=5) [5] [] [lkB gx u b x gg (.map (some gd)),.box g7 34 (aq c)] (by kernel_rfl) (by kernel_rfl) (by kernel_rfl) (by (repeat (first|exact MSub.nil _|refine MSub.pick (by (repeat first|exact .hd|apply Sel.tl|apply In.tl)) ?_|exact MSub.refl _|refine MSub.drop .hd ?_))) ?_
   repeat' (first
    |((with_reducible apply aj (f:=78));exact rfl;exact rfl;exact hUs _ (by (repeat (first|exact MSub.nil _|refine MSub.pick (by (repeat first|exact .hd|apply Sel.tl|apply In.tl)) ?_|exact MSub.refl _|refine MSub.drop .hd ?_)));rintro _ _ ⟨Au,cu,rfl,rfl⟩)
    |((with_reducible apply ak);exact rfl;(first|((with_reducible apply TX);exact rfl)|((with_reducible apply EQ);exact rfl)|((with_reducible apply Vk);exact rfl)|((with_reducible apply NP);exact rfl)|((with_reducible apply ik);exact rfl;(repeat first|exact .hd|apply Sel.tl|apply In.tl);exact rfl)|((with_reducible apply EM);exact rfl;(repeat first|exact .hd|apply Sel.tl|apply In.tl);exact rfl)|((with_reducible apply u9);exact rfl;(repeat first|exact .hd|apply Sel.tl|apply In.tl);exact rfl;exact rfl)|((with_reducible apply Q7);(iterate 3 exact rfl))|((with_reducible apply ij);exact rfl)))
    |((with_reducible apply QL);exact rfl;exact rfl;intro _)
    |((with_reducible apply QM);(iterate 3 exact rfl);intro _)
    |((with_reducible apply Nt);exact rfl;intro _)
    |((with_reducible apply zD);exact rfl;exact rfl;(repeat first|exact .hd|apply Sel.tl|apply In.tl);(iterate 3 exact rfl))
    |((with_reducible apply Ea);exact rfl;exact rfl;(repeat first|exact .hd|apply Sel.tl|apply In.tl);(iterate 4 exact rfl))
    |((with_reducible apply zE);(iterate 7 exact rfl);intro _)
    |(with_reducible first|apply oo|apply Vv|apply U7|apply Nz|apply U9|apply TS|apply TU|apply QU|apply Vt|apply Vw|apply V8|apply V6|apply V9|apply QQ|apply QR|apply VC|apply VB|apply scp_e)
    |((with_reducible apply EF);exact rfl)
    |((with_reducible apply CD);exact rfl)
    |((with_reducible apply TW)<;>first|exact rfl|(intro hb;(replace hb:=Tidy.out hb;try (exfalso;omega))))
    |((with_reducible apply V5);exact rfl)
    |((with_reducible apply ak);exact rfl;(with_reducible apply gZ);exact rfl;exact rfl;(simp only [maxLen] at*;omega))
    |((with_reducible apply ak);exact rfl;(with_reducible apply v_1addN);exact rfl;exact rfl;(simp only [maxLen] at*;omega))
    |((with_reducible apply ak);exact rfl;(with_reducible apply m9);exact rfl;exact rfl;(simp only [maxLen] at*;omega))
    |((with_reducible apply fH);(iterate 3 exact rfl);(first|((with_reducible apply TX);exact rfl)|((with_reducible apply EQ);exact rfl)|((with_reducible apply Vk);exact rfl)|((with_reducible apply NP);exact rfl)|((with_reducible apply ik);exact rfl;(repeat first|exact .hd|apply Sel.tl|apply In.tl);exact rfl)|((with_reducible apply EM);exact rfl;(repeat first|exact .hd|apply Sel.tl|apply In.tl);exact rfl)|((with_reducible apply u9);exact rfl;(repeat first|exact .hd|apply Sel.tl|apply In.tl);exact rfl;exact rfl)|((with_reducible apply Q7);(iterate 3 exact rfl))|((with_reducible apply ij);exact rfl)))
    |((with_reducible apply fH);(iterate 3 exact rfl);(with_reducible apply gZ);exact rfl;exact rfl;(simp only [maxLen] at*;omega))
    |((with_reducible apply fH);(iterate 3 exact rfl);(with_reducible apply v_1addN);exact rfl;exact rfl;(simp only [maxLen] at*;omega))
    |((with_reducible apply fH);(iterate 3 exact rfl);(with_reducible apply m9);exact rfl;exact rfl;(simp only [maxLen] at*;omega))
    |((with_reducible apply TR);(iterate 3 exact rfl))
    |((with_reducible apply wc_gno0);exact rfl)
    |((with_reducible apply WH);exact rfl;exact rfl)
    |((with_reducible apply U5);(iterate 4 exact rfl);(first|((with_reducible apply TX);exact rfl)|((with_reducible apply EQ);exact rfl)|((with_reducible apply Vk);exact rfl)|((with_reducible apply NP);exact rfl)|((with_reducible apply ik);exact rfl;(repeat first|exact .hd|apply Sel.tl|apply In.tl);exact rfl)|((with_reducible apply EM);exact rfl;(repeat first|exact .hd|apply Sel.tl|apply In.tl);exact rfl)|((with_reducible apply u9);exact rfl;(repeat first|exact .hd|apply Sel.tl|apply In.tl);exact rfl;exact rfl)|((with_reducible apply Q7);(iterate 3 exact rfl))|((with_reducible apply ij);exact rfl)))
    |((with_reducible apply K5)<;>first|exact rfl|(intro hb;(replace hb:=Tidy.out hb;try (exfalso;omega))))
    |(with_reducible apply TQ)
    |((with_reducible apply rW);(repeat (first|exact MSub.nil _|refine MSub.pick (by (repeat first|exact .hd|apply Sel.tl|apply In.tl)) ?_|exact MSub.refl _|refine MSub.drop .hd ?_))))
   all_goals first|(exfalso;omega)|skip
   refine ax [0,7,12,13,14,23,24] rfl (fun y:Nat × List Cl × (Option Nat × Nat) × Option Nat=> [(5,sl y.2.2.1.1 y.2.1.length y.2.2.1.2),(25,.int .i64 (y.1:Int))]) (fun y=> .own y.2.2.1.1 98 3 y.2.1.length y.2.2.1.2 (y.2.1.flatMap dr)::dkB gx u b x gg G y.2.2.2 (.own Au 159 6 U.length cu (U.flatMap bP):: .box g7 34 (aq c):: .own (some gw) 34 2 W0.length cw (W0.flatMap aq)::F)) (fun y=>y.1≤U.length∧y.2.1=V++((U.take y.1).filter fun z=>((lwB b).to z).getLsbD u && cX G (aZ b.rules (u:Int)) z.rect).map (kn c)∧y.2.1.length≤V.length+y.1) (fun y=>U.length - y.1) (0,V,(A7,c7),(some gd)) ⟨Xn _,by rw [YF,List.filter_nil,XR,Xm],Xy _⟩ (by (repeat (first|exact Sub.nil _|refine Sub.cons rfl ?_))) (by (repeat (first|exact MSub.nil _|refine MSub.pick (by (repeat first|exact .hd|apply Sel.tl|apply In.tl)) ?_|exact MSub.refl _|refine MSub.drop .hd ?_))) ?_
   rintro ⟨j,V2,⟨A8,c8⟩,Dm⟩ ⟨hj,hV2,hV2l⟩
   dsimp only at hj hV2 hV2l ⊢
   by_cases hltj:j<U.length
   ·
    have hreadu:((U.flatMap bP).drop (0+j*6)).take 6=bP U[j]:=by rw [Xv];exact aM lp U j hltj
    have hcs:=GM (p:=fun z=>((lwB b).to z).getLsbD u && cX G (aZ b.rules (u:Int)) z.rect) (c:=c) hltj
    have hyr:=hUr _ (XO hltj)
    generalize U[j]=y at hreadu hcs hyr
    have hrl:=fun dv=>hrl dv y
    have hhS:=hhS y.rect hyr
    have hhN:=hhN y.rect hyr

    have hsn:V++((U.take (j+1)).filter fun z=>((lwB b).to z).getLsbD u && cX G (aZ b.rules (u:Int)) z.rect).map (kn c)=V2++if (((lwB b).to y).getLsbD u && cX G (aZ b.rules (u:Int)) y.rect)=true then [kn c y] else []:=by
     rw [hcs,← XE,← hV2]
    clear hcs
    generalize ((lwB b).to y).getLsbD u=bt at hrl hsn
    generalize cX G (aZ b.rules (u:Int)) y.rect=bh at hhS hhN hsn
    cases Dm with
    |none=>
     dsimp only [dkB]
     refine aU (A:=Au) (by (repeat first|exact .hd|apply Sel.tl|apply In.tl)) (by omega) fun gu hA=> ?_
     subst hA
     cases bt with
     |false=>
      rw [if_neg (by rw [XX];decide),Xm] at hsn
      repeat' (first
       |((with_reducible apply ak (d:=27));exact rfl;(with_reducible apply ai (j:=j));exact rfl;exact rfl;exact hltj)
       |((with_reducible apply ak (d:=28));exact rfl;(with_reducible apply au (ys:=bP y));exact rfl;(repeat first|exact .hd|apply Sel.tl|apply In.tl);exact hreadu;exact rfl)
       |((with_reducible apply aj (f:=79));exact rfl;exact rfl;(refine FnIn.msub (hrl _ _ ?_) (MSub.pick (by (repeat first|exact .hd|apply Sel.tl|apply In.tl)) (MSub.refl _));(focus ((repeat (first|exact MSub.nil _|refine MSub.pick (by (repeat first|exact .hd|apply Sel.tl|apply In.tl)) ?_|exact MSub.refl _|refine MSub.drop .hd ?_));done)));rintro _ _ ⟨rfl,rfl⟩)
       |((with_reducible apply ak);exact rfl;(first|((with_reducible apply TX);exact rfl)|((with_reducible apply EQ);exact rfl)|((with_reducible apply Vk);exact rfl)|((with_reducible apply NP);exact rfl)|((with_reducible apply ik);exact rfl;(repeat first|exact .hd|apply Sel.tl|apply In.tl);exact rfl)|((with_reducible apply EM);exact rfl;(repeat first|exact .hd|apply Sel.tl|apply In.tl);exact rfl)|((with_reducible apply u9);exact rfl;(repeat first|exact .hd|apply Sel.tl|apply In.tl);exact rfl;exact rfl)|((with_reducible apply Q7);(iterate 3 exact rfl))|((with_reducible apply ij);exact rfl)))
       |((with_reducible apply QL);exact rfl;exact rfl;intro _)
       |((with_reducible apply QM);(iterate 3 exact rfl);intro _)
       |((with_reducible apply Nt);exact rfl;intro _)
       |((with_reducible apply zD);exact rfl;exact rfl;(repeat first|exact .hd|apply Sel.tl|apply In.tl);(iterate 3 exact rfl))
       |((with_reducible apply Ea);exact rfl;exact rfl;(repeat first|exact .hd|apply Sel.tl|apply In.tl);(iterate 4 exact rfl))
       |((with_reducible apply zE);(iterate 7 exact rfl);intro _)
       |(with_reducible first|apply oo|apply Vv|apply U7|apply Nz|apply U9|apply TS|apply TU|apply QU|apply Vt|apply Vw|apply V8|apply V6|apply V9|apply QQ|apply QR|apply VC|apply VB|apply scp_e)
       |((with_reducible apply EF);exact rfl)
       |((with_reducible apply CD);exact rfl)
       |((with_reducible apply TW)<;>first|exact rfl|(intro hb;(replace hb:=Tidy.out hb;try (exfalso;omega))))
       |((with_reducible apply V5);exact rfl)
       |((with_reducible apply ak);exact rfl;(with_reducible apply gZ);exact rfl;exact rfl;(simp only [maxLen] at*;omega))
       |((with_reducible apply ak);exact rfl;(with_reducible apply v_1addN);exact rfl;exact rfl;(simp only [maxLen] at*;omega))
       |((with_reducible apply ak);exact rfl;(with_reducible apply m9);exact rfl;exact rfl;(simp only [maxLen] at*;omega)))
      all_goals first
       |(exfalso;omega)
       |(refine ⟨(j+1,V2,(A8,c8),none),⟨hltj,hsn.symm,by dsimp only;omega⟩,by dsimp only;omega,by (repeat (first|exact Sub.nil _|refine Sub.cons rfl ?_)),by (repeat (first|exact Sub.nil _|refine Sub.cons rfl ?_)),by (repeat (first|exact MSub.nil _|refine MSub.pick (by (repeat first|exact .hd|apply Sel.tl|apply In.tl)) ?_|exact MSub.refl _|refine MSub.drop .hd ?_))⟩;done)
       |trace_state
     |true=>
      rw [XT] at hsn
      cases bh with
      |false=>
       rw [if_neg (by decide),Xm] at hsn
       repeat' (first
        |((with_reducible apply ak (d:=27));exact rfl;(with_reducible apply ai (j:=j));exact rfl;exact rfl;exact hltj)
        |((with_reducible apply ak (d:=28));exact rfl;(with_reducible apply au (ys:=bP y));exact rfl;(repeat first|exact .hd|apply Sel.tl|apply In.tl);exact hreadu;exact rfl)
        |((with_reducible apply aj (f:=79));exact rfl;exact rfl;(refine FnIn.msub (hrl _ _ ?_) (MSub.pick (by (repeat first|exact .hd|apply Sel.tl|apply In.tl)) (MSub.refl _));(focus ((repeat (first|exact MSub.nil _|refine MSub.pick (by (repeat first|exact .hd|apply Sel.tl|apply In.tl)) ?_|exact MSub.refl _|refine MSub.drop .hd ?_));done)));rintro _ _ ⟨rfl,rfl⟩)
        |((with_reducible apply aj (f:=80));exact rfl;exact rfl;(refine FnIn.msub (hhN _ ?_) (MSub.pick (by (repeat first|exact .hd|apply Sel.tl|apply In.tl)) (MSub.refl _));(focus ((repeat (first|exact MSub.nil _|refine MSub.pick (by (repeat first|exact .hd|apply Sel.tl|apply In.tl)) ?_|exact MSub.refl _|refine MSub.drop .hd ?_));done)));rintro _ _ ⟨rfl,rfl|⟨gd3,rfl⟩⟩)
        |((with_reducible apply ak);exact rfl;(first|((with_reducible apply TX);exact rfl)|((with_reducible apply EQ);exact rfl)|((with_reducible apply Vk);exact rfl)|((with_reducible apply NP);exact rfl)|((with_reducible apply ik);exact rfl;(repeat first|exact .hd|apply Sel.tl|apply In.tl);exact rfl)|((with_reducible apply EM);exact rfl;(repeat first|exact .hd|apply Sel.tl|apply In.tl);exact rfl)|((with_reducible apply u9);exact rfl;(repeat first|exact .hd|apply Sel.tl|apply In.tl);exact rfl;exact rfl)|((with_reducible apply Q7);(iterate 3 exact rfl))|((with_reducible apply ij);exact rfl)))
        |((with_reducible apply QL);exact rfl;exact rfl;intro _)
        |((with_reducible apply QM);(iterate 3 exact rfl);intro _)
        |((with_reducible apply Nt);exact rfl;intro _)
        |((with_reducible apply zD);exact rfl;exact rfl;(repeat first|exact .hd|apply Sel.tl|apply In.tl);(iterate 3 exact rfl))
        |((with_reducible apply Ea);exact rfl;exact rfl;(repeat first|exact .hd|apply Sel.tl|apply In.tl);(iterate 4 exact rfl))
        |((with_reducible apply zE);(iterate 7 exact rfl);intro _)
        |(with_reducible first|apply oo|apply Vv|apply U7|apply Nz|apply U9|apply TS|apply TU|apply QU|apply Vt|apply Vw|apply V8|apply V6|apply V9|apply QQ|apply QR|apply VC|apply VB|apply scp_e)
        |((with_reducible apply EF);exact rfl)
        |((with_reducible apply CD);exact rfl)
        |((with_reducible apply TW)<;>first|exact rfl|(intro hb;(replace hb:=Tidy.out hb;try (exfalso;omega))))
        |((with_reducible apply V5);exact rfl)
        |((with_reducible apply ak);exact rfl;(with_reducible apply gZ);exact rfl;exact rfl;(simp only [maxLen] at*;omega))
        |((with_reducible apply ak);exact rfl;(with_reducible apply v_1addN);exact rfl;exact rfl;(simp only [maxLen] at*;omega))
        |((with_reducible apply ak);exact rfl;(with_reducible apply m9);exact rfl;exact rfl;(simp only [maxLen] at*;omega)))
       all_goals first
         |(exfalso;omega)
         |(refine ⟨(j+1,V2++ [kn c y],(B8,b8),some gd3),⟨hltj,hsn.symm,by simp only [List.length_append,List.length_singleton];omega⟩,by dsimp only;omega,?_,by (repeat (first|exact Sub.nil _|refine Sub.cons rfl ?_)),?_⟩<;>(simp only [List.length_append,List.length_singleton,List.flatMap_append,List.flatMap_cons,List.flatMap_nil,List.append_nil])<;>first|((repeat (first|exact Sub.nil _|refine Sub.cons rfl ?_));done)|((repeat (first|exact MSub.nil _|refine MSub.pick (by (repeat first|exact .hd|apply Sel.tl|apply In.tl)) ?_|exact MSub.refl _|refine MSub.drop .hd ?_));done))
         |(refine ⟨(j+1,V2,(A8,c8),some gd3),⟨hltj,hsn.symm,by dsimp only;omega⟩,by dsimp only;omega,by (repeat (first|exact Sub.nil _|refine Sub.cons rfl ?_)),by (repeat (first|exact Sub.nil _|refine Sub.cons rfl ?_)),by (repeat (first|exact MSub.nil _|refine MSub.pick (by (repeat first|exact .hd|apply Sel.tl|apply In.tl)) ?_|exact MSub.refl _|refine MSub.drop .hd ?_))⟩;done)
         |(refine ⟨(j+1,V2++ [kn c y],(B8,b8),none),⟨hltj,hsn.symm,by simp only [List.length_append,List.length_singleton];omega⟩,by dsimp only;omega,?_,by (repeat (first|exact Sub.nil _|refine Sub.cons rfl ?_)),?_⟩<;>(simp only [List.length_append,List.length_singleton,List.flatMap_append,List.flatMap_cons,List.flatMap_nil,List.append_nil])<;>first|((repeat (first|exact Sub.nil _|refine Sub.cons rfl ?_));done)|((repeat (first|exact MSub.nil _|refine MSub.pick (by (repeat first|exact .hd|apply Sel.tl|apply In.tl)) ?_|exact MSub.refl _|refine MSub.drop .hd ?_));done))
         |(refine ⟨(j+1,V2,(A8,c8),none),⟨hltj,hsn.symm,by dsimp only;omega⟩,by dsimp only;omega,by (repeat (first|exact Sub.nil _|refine Sub.cons rfl ?_)),by (repeat (first|exact Sub.nil _|refine Sub.cons rfl ?_)),by (repeat (first|exact MSub.nil _|refine MSub.pick (by (repeat first|exact .hd|apply Sel.tl|apply In.tl)) ?_|exact MSub.refl _|refine MSub.drop .hd ?_))⟩;done)
         |trace_state
      |true=>
       rw [if_pos rfl] at hsn
       repeat' (first
        |((with_reducible apply ak (d:=27));exact rfl;(with_reducible apply ai (j:=j));exact rfl;exact rfl;exact hltj)
        |((with_reducible apply ak (d:=28));exact rfl;(with_reducible apply au (ys:=bP y));exact rfl;(repeat first|exact .hd|apply Sel.tl|apply In.tl);exact hreadu;exact rfl)
        |((with_reducible apply aj (f:=79));exact rfl;exact rfl;(refine FnIn.msub (hrl _ _ ?_) (MSub.pick (by (repeat first|exact .hd|apply Sel.tl|apply In.tl)) (MSub.refl _));(focus ((repeat (first|exact MSub.nil _|refine MSub.pick (by (repeat first|exact .hd|apply Sel.tl|apply In.tl)) ?_|exact MSub.refl _|refine MSub.drop .hd ?_));done)));rintro _ _ ⟨rfl,rfl⟩)
        |((with_reducible apply aj (f:=80));exact rfl;exact rfl;(refine FnIn.msub (hhN _ ?_) (MSub.pick (by (repeat first|exact .hd|apply Sel.tl|apply In.tl)) (MSub.refl _));(focus ((repeat (first|exact MSub.nil _|refine MSub.pick (by (repeat first|exact .hd|apply Sel.tl|apply In.tl)) ?_|exact MSub.refl _|refine MSub.drop .hd ?_));done)));rintro _ _ ⟨rfl,rfl|⟨gd3,rfl⟩⟩)
        |((with_reducible apply aN (d:=43) (A:=A8) (m:=1));(iterate 3 exact rfl);(repeat first|exact .hd|apply Sel.tl|apply In.tl);(intro w hm;exact hm.cells_own (by (repeat first|exact .hd|apply Sel.tl|apply In.tl)));exact rfl;(simp [Value.oneCell',sl]);omega;(simp only [maxLen];omega);(intro B8 b8 hB8))
        |((with_reducible apply ak);exact rfl;(first|((with_reducible apply TX);exact rfl)|((with_reducible apply EQ);exact rfl)|((with_reducible apply Vk);exact rfl)|((with_reducible apply NP);exact rfl)|((with_reducible apply ik);exact rfl;(repeat first|exact .hd|apply Sel.tl|apply In.tl);exact rfl)|((with_reducible apply EM);exact rfl;(repeat first|exact .hd|apply Sel.tl|apply In.tl);exact rfl)|((with_reducible apply u9);exact rfl;(repeat first|exact .hd|apply Sel.tl|apply In.tl);exact rfl;exact rfl)|((with_reducible apply Q7);(iterate 3 exact rfl))|((with_reducible apply ij);exact rfl)))
        |((with_reducible apply QL);exact rfl;exact rfl;intro _)
        |((with_reducible apply QM);(iterate 3 exact rfl);intro _)
        |((with_reducible apply Nt);exact rfl;intro _)
        |((with_reducible apply zD);exact rfl;exact rfl;(repeat first|exact .hd|apply Sel.tl|apply In.tl);(iterate 3 exact rfl))
        |((with_reducible apply Ea);exact rfl;exact rfl;(repeat first|exact .hd|apply Sel.tl|apply In.tl);(iterate 4 exact rfl))
        |((with_reducible apply zE);(iterate 7 exact rfl);intro _)
        |(with_reducible first|apply oo|apply Vv|apply U7|apply Nz|apply U9|apply TS|apply TU|apply QU|apply Vt|apply Vw|apply V8|apply V6|apply V9|apply QQ|apply QR|apply VC|apply VB|apply scp_e)
        |((with_reducible apply EF);exact rfl)
        |((with_reducible apply CD);exact rfl)
        |((with_reducible apply TW)<;>first|exact rfl|(intro hb;(replace hb:=Tidy.out hb;try (exfalso;omega))))
        |((with_reducible apply V5);exact rfl)
        |((with_reducible apply ak);exact rfl;(with_reducible apply gZ);exact rfl;exact rfl;(simp only [maxLen] at*;omega))
        |((with_reducible apply ak);exact rfl;(with_reducible apply v_1addN);exact rfl;exact rfl;(simp only [maxLen] at*;omega))
        |((with_reducible apply ak);exact rfl;(with_reducible apply m9);exact rfl;exact rfl;(simp only [maxLen] at*;omega)))
       all_goals first
         |(exfalso;omega)
         |(refine ⟨(j+1,V2++ [kn c y],(B8,b8),some gd3),⟨hltj,hsn.symm,by simp only [List.length_append,List.length_singleton];omega⟩,by dsimp only;omega,?_,by (repeat (first|exact Sub.nil _|refine Sub.cons rfl ?_)),?_⟩<;>(simp only [List.length_append,List.length_singleton,List.flatMap_append,List.flatMap_cons,List.flatMap_nil,List.append_nil])<;>first|((repeat (first|exact Sub.nil _|refine Sub.cons rfl ?_));done)|((repeat (first|exact MSub.nil _|refine MSub.pick (by (repeat first|exact .hd|apply Sel.tl|apply In.tl)) ?_|exact MSub.refl _|refine MSub.drop .hd ?_));done))
         |(refine ⟨(j+1,V2,(A8,c8),some gd3),⟨hltj,hsn.symm,by dsimp only;omega⟩,by dsimp only;omega,by (repeat (first|exact Sub.nil _|refine Sub.cons rfl ?_)),by (repeat (first|exact Sub.nil _|refine Sub.cons rfl ?_)),by (repeat (first|exact MSub.nil _|refine MSub.pick (by (repeat first|exact .hd|apply Sel.tl|apply In.tl)) ?_|exact MSub.refl _|refine MSub.drop .hd ?_))⟩;done)
         |(refine ⟨(j+1,V2++ [kn c y],(B8,b8),none),⟨hltj,hsn.symm,by simp only [List.length_append,List.length_singleton];omega⟩,by dsimp only;omega,?_,by (repeat (first|exact Sub.nil _|refine Sub.cons rfl ?_)),?_⟩<;>(simp only [List.length_append,List.length_singleton,List.flatMap_append,List.flatMap_cons,List.flatMap_nil,List.append_nil])<;>first|((repeat (first|exact Sub.nil _|refine Sub.cons rfl ?_));done)|((repeat (first|exact MSub.nil _|refine MSub.pick (by (repeat first|exact .hd|apply Sel.tl|apply In.tl)) ?_|exact MSub.refl _|refine MSub.drop .hd ?_));done))
         |(refine ⟨(j+1,V2,(A8,c8),none),⟨hltj,hsn.symm,by dsimp only;omega⟩,by dsimp only;omega,by (repeat (first|exact Sub.nil _|refine Sub.cons rfl ?_)),by (repeat (first|exact Sub.nil _|refine Sub.cons rfl ?_)),by (repeat (first|exact MSub.nil _|refine MSub.pick (by (repeat first|exact .hd|apply Sel.tl|apply In.tl)) ?_|exact MSub.refl _|refine MSub.drop .hd ?_))⟩;done)
         |trace_state
    |some gd2=>
     dsimp only [dkB]
     refine aU (A:=Au) (by (repeat first|exact .hd|apply Sel.tl|apply In.tl)) (by omega) fun gu hA=> ?_
     subst hA
     cases bt with
     |false=>
      rw [if_neg (by rw [XX];decide),Xm] at hsn
      repeat' (first
       |((with_reducible apply ak (d:=27));exact rfl;(with_reducible apply ai (j:=j));exact rfl;exact rfl;exact hltj)
       |((with_reducible apply ak (d:=28));exact rfl;(with_reducible apply au (ys:=bP y));exact rfl;(repeat first|exact .hd|apply Sel.tl|apply In.tl);exact hreadu;exact rfl)
       |((with_reducible apply aj (f:=79));exact rfl;exact rfl;(refine FnIn.msub (hrl _ _ ?_) (MSub.pick (by (repeat first|exact .hd|apply Sel.tl|apply In.tl)) (MSub.refl _));(focus ((repeat (first|exact MSub.nil _|refine MSub.pick (by (repeat first|exact .hd|apply Sel.tl|apply In.tl)) ?_|exact MSub.refl _|refine MSub.drop .hd ?_));done)));rintro _ _ ⟨rfl,rfl⟩)
       |((with_reducible apply ak);exact rfl;(first|((with_reducible apply TX);exact rfl)|((with_reducible apply EQ);exact rfl)|((with_reducible apply Vk);exact rfl)|((with_reducible apply NP);exact rfl)|((with_reducible apply ik);exact rfl;(repeat first|exact .hd|apply Sel.tl|apply In.tl);exact rfl)|((with_reducible apply EM);exact rfl;(repeat first|exact .hd|apply Sel.tl|apply In.tl);exact rfl)|((with_reducible apply u9);exact rfl;(repeat first|exact .hd|apply Sel.tl|apply In.tl);exact rfl;exact rfl)|((with_reducible apply Q7);(iterate 3 exact rfl))|((with_reducible apply ij);exact rfl)))
       |((with_reducible apply QL);exact rfl;exact rfl;intro _)
       |((with_reducible apply QM);(iterate 3 exact rfl);intro _)
       |((with_reducible apply Nt);exact rfl;intro _)
       |((with_reducible apply zD);exact rfl;exact rfl;(repeat first|exact .hd|apply Sel.tl|apply In.tl);(iterate 3 exact rfl))
       |((with_reducible apply Ea);exact rfl;exact rfl;(repeat first|exact .hd|apply Sel.tl|apply In.tl);(iterate 4 exact rfl))
       |((with_reducible apply zE);(iterate 7 exact rfl);intro _)
       |(with_reducible first|apply oo|apply Vv|apply U7|apply Nz|apply U9|apply TS|apply TU|apply QU|apply Vt|apply Vw|apply V8|apply V6|apply V9|apply QQ|apply QR|apply VC|apply VB|apply scp_e)
       |((with_reducible apply EF);exact rfl)
       |((with_reducible apply CD);exact rfl)
       |((with_reducible apply TW)<;>first|exact rfl|(intro hb;(replace hb:=Tidy.out hb;try (exfalso;omega))))
       |((with_reducible apply V5);exact rfl)
       |((with_reducible apply ak);exact rfl;(with_reducible apply gZ);exact rfl;exact rfl;(simp only [maxLen] at*;omega))
       |((with_reducible apply ak);exact rfl;(with_reducible apply v_1addN);exact rfl;exact rfl;(simp only [maxLen] at*;omega))
       |((with_reducible apply ak);exact rfl;(with_reducible apply m9);exact rfl;exact rfl;(simp only [maxLen] at*;omega)))
      all_goals first
       |(exfalso;omega)
       |(refine ⟨(j+1,V2,(A8,c8),some gd2),⟨hltj,hsn.symm,by dsimp only;omega⟩,by dsimp only;omega,by (repeat (first|exact Sub.nil _|refine Sub.cons rfl ?_)),by (repeat (first|exact Sub.nil _|refine Sub.cons rfl ?_)),by (repeat (first|exact MSub.nil _|refine MSub.pick (by (repeat first|exact .hd|apply Sel.tl|apply In.tl)) ?_|exact MSub.refl _|refine MSub.drop .hd ?_))⟩;done)
       |trace_state
     |true=>
      rw [XT] at hsn
      cases bh with
      |false=>
       rw [if_neg (by decide),Xm] at hsn
       repeat' (first
        |((with_reducible apply ak (d:=27));exact rfl;(with_reducible apply ai (j:=j));exact rfl;exact rfl;exact hltj)
        |((with_reducible apply ak (d:=28));exact rfl;(with_reducible apply au (ys:=bP y));exact rfl;(repeat first|exact .hd|apply Sel.tl|apply In.tl);exact hreadu;exact rfl)
        |((with_reducible apply aj (f:=79));exact rfl;exact rfl;(refine FnIn.msub (hrl _ _ ?_) (MSub.pick (by (repeat first|exact .hd|apply Sel.tl|apply In.tl)) (MSub.refl _));(focus ((repeat (first|exact MSub.nil _|refine MSub.pick (by (repeat first|exact .hd|apply Sel.tl|apply In.tl)) ?_|exact MSub.refl _|refine MSub.drop .hd ?_));done)));rintro _ _ ⟨rfl,rfl⟩)
        |((with_reducible apply aj (f:=80));exact rfl;exact rfl;(refine FnIn.msub (hhS gd2 _ ?_) (MSub.pick (by (repeat first|exact .hd|apply Sel.tl|apply In.tl)) (MSub.pick (by (repeat first|exact .hd|apply Sel.tl|apply In.tl)) (MSub.refl _)));(focus ((repeat (first|exact MSub.nil _|refine MSub.pick (by (repeat first|exact .hd|apply Sel.tl|apply In.tl)) ?_|exact MSub.refl _|refine MSub.drop .hd ?_));done)));rintro _ _ ⟨rfl,rfl⟩)
        |((with_reducible apply ak);exact rfl;(first|((with_reducible apply TX);exact rfl)|((with_reducible apply EQ);exact rfl)|((with_reducible apply Vk);exact rfl)|((with_reducible apply NP);exact rfl)|((with_reducible apply ik);exact rfl;(repeat first|exact .hd|apply Sel.tl|apply In.tl);exact rfl)|((with_reducible apply EM);exact rfl;(repeat first|exact .hd|apply Sel.tl|apply In.tl);exact rfl)|((with_reducible apply u9);exact rfl;(repeat first|exact .hd|apply Sel.tl|apply In.tl);exact rfl;exact rfl)|((with_reducible apply Q7);(iterate 3 exact rfl))|((with_reducible apply ij);exact rfl)))
        |((with_reducible apply QL);exact rfl;exact rfl;intro _)
        |((with_reducible apply QM);(iterate 3 exact rfl);intro _)
        |((with_reducible apply Nt);exact rfl;intro _)
        |((with_reducible apply zD);exact rfl;exact rfl;(repeat first|exact .hd|apply Sel.tl|apply In.tl);(iterate 3 exact rfl))
        |((with_reducible apply Ea);exact rfl;exact rfl;(repeat first|exact .hd|apply Sel.tl|apply In.tl);(iterate 4 exact rfl))
        |((with_reducible apply zE);(iterate 7 exact rfl);intro _)
        |(with_reducible first|apply oo|apply Vv|apply U7|apply Nz|apply U9|apply TS|apply TU|apply QU|apply Vt|apply Vw|apply V8|apply V6|apply V9|apply QQ|apply QR|apply VC|apply VB|apply scp_e)
        |((with_reducible apply EF);exact rfl)
        |((with_reducible apply CD);exact rfl)
        |((with_reducible apply TW)<;>first|exact rfl|(intro hb;(replace hb:=Tidy.out hb;try (exfalso;omega))))
        |((with_reducible apply V5);exact rfl)
        |((with_reducible apply ak);exact rfl;(with_reducible apply gZ);exact rfl;exact rfl;(simp only [maxLen] at*;omega))
        |((with_reducible apply ak);exact rfl;(with_reducible apply v_1addN);exact rfl;exact rfl;(simp only [maxLen] at*;omega))
        |((with_reducible apply ak);exact rfl;(with_reducible apply m9);exact rfl;exact rfl;(simp only [maxLen] at*;omega)))
       all_goals first
         |(exfalso;omega)
         |(refine ⟨(j+1,V2++ [kn c y],(B8,b8),some gd2),⟨hltj,hsn.symm,by simp only [List.length_append,List.length_singleton];omega⟩,by dsimp only;omega,?_,by (repeat (first|exact Sub.nil _|refine Sub.cons rfl ?_)),?_⟩<;>(simp only [List.length_append,List.length_singleton,List.flatMap_append,List.flatMap_cons,List.flatMap_nil,List.append_nil])<;>first|((repeat (first|exact Sub.nil _|refine Sub.cons rfl ?_));done)|((repeat (first|exact MSub.nil _|refine MSub.pick (by (repeat first|exact .hd|apply Sel.tl|apply In.tl)) ?_|exact MSub.refl _|refine MSub.drop .hd ?_));done))
         |(refine ⟨(j+1,V2,(A8,c8),some gd2),⟨hltj,hsn.symm,by dsimp only;omega⟩,by dsimp only;omega,by (repeat (first|exact Sub.nil _|refine Sub.cons rfl ?_)),by (repeat (first|exact Sub.nil _|refine Sub.cons rfl ?_)),by (repeat (first|exact MSub.nil _|refine MSub.pick (by (repeat first|exact .hd|apply Sel.tl|apply In.tl)) ?_|exact MSub.refl _|refine MSub.drop .hd ?_))⟩;done)
         |trace_state
      |true=>
       rw [if_pos rfl] at hsn
       repeat' (first
        |((with_reducible apply ak (d:=27));exact rfl;(with_reducible apply ai (j:=j));exact rfl;exact rfl;exact hltj)
        |((with_reducible apply ak (d:=28));exact rfl;(with_reducible apply au (ys:=bP y));exact rfl;(repeat first|exact .hd|apply Sel.tl|apply In.tl);exact hreadu;exact rfl)
        |((with_reducible apply aj (f:=79));exact rfl;exact rfl;(refine FnIn.msub (hrl _ _ ?_) (MSub.pick (by (repeat first|exact .hd|apply Sel.tl|apply In.tl)) (MSub.refl _));(focus ((repeat (first|exact MSub.nil _|refine MSub.pick (by (repeat first|exact .hd|apply Sel.tl|apply In.tl)) ?_|exact MSub.refl _|refine MSub.drop .hd ?_));done)));rintro _ _ ⟨rfl,rfl⟩)
        |((with_reducible apply aj (f:=80));exact rfl;exact rfl;(refine FnIn.msub (hhS gd2 _ ?_) (MSub.pick (by (repeat first|exact .hd|apply Sel.tl|apply In.tl)) (MSub.pick (by (repeat first|exact .hd|apply Sel.tl|apply In.tl)) (MSub.refl _)));(focus ((repeat (first|exact MSub.nil _|refine MSub.pick (by (repeat first|exact .hd|apply Sel.tl|apply In.tl)) ?_|exact MSub.refl _|refine MSub.drop .hd ?_));done)));rintro _ _ ⟨rfl,rfl⟩)
        |((with_reducible apply aN (d:=43) (A:=A8) (m:=1));(iterate 3 exact rfl);(repeat first|exact .hd|apply Sel.tl|apply In.tl);(intro w hm;exact hm.cells_own (by (repeat first|exact .hd|apply Sel.tl|apply In.tl)));exact rfl;(simp [Value.oneCell',sl]);omega;(simp only [maxLen];omega);(intro B8 b8 hB8))
        |((with_reducible apply ak);exact rfl;(first|((with_reducible apply TX);exact rfl)|((with_reducible apply EQ);exact rfl)|((with_reducible apply Vk);exact rfl)|((with_reducible apply NP);exact rfl)|((with_reducible apply ik);exact rfl;(repeat first|exact .hd|apply Sel.tl|apply In.tl);exact rfl)|((with_reducible apply EM);exact rfl;(repeat first|exact .hd|apply Sel.tl|apply In.tl);exact rfl)|((with_reducible apply u9);exact rfl;(repeat first|exact .hd|apply Sel.tl|apply In.tl);exact rfl;exact rfl)|((with_reducible apply Q7);(iterate 3 exact rfl))|((with_reducible apply ij);exact rfl)))
        |((with_reducible apply QL);exact rfl;exact rfl;intro _)
        |((with_reducible apply QM);(iterate 3 exact rfl);intro _)
        |((with_reducible apply Nt);exact rfl;intro _)
        |((with_reducible apply zD);exact rfl;exact rfl;(repeat first|exact .hd|apply Sel.tl|apply In.tl);(iterate 3 exact rfl))
        |((with_reducible apply Ea);exact rfl;exact rfl;(repeat first|exact .hd|apply Sel.tl|apply In.tl);(iterate 4 exact rfl))
        |((with_reducible apply zE);(iterate 7 exact rfl);intro _)
        |(with_reducible first|apply oo|apply Vv|apply U7|apply Nz|apply U9|apply TS|apply TU|apply QU|apply Vt|apply Vw|apply V8|apply V6|apply V9|apply QQ|apply QR|apply VC|apply VB|apply scp_e)
        |((with_reducible apply EF);exact rfl)
        |((with_reducible apply CD);exact rfl)
        |((with_reducible apply TW)<;>first|exact rfl|(intro hb;(replace hb:=Tidy.out hb;try (exfalso;omega))))
        |((with_reducible apply V5);exact rfl)
        |((with_reducible apply ak);exact rfl;(with_reducible apply gZ);exact rfl;exact rfl;(simp only [maxLen] at*;omega))
        |((with_reducible apply ak);exact rfl;(with_reducible apply v_1addN);exact rfl;exact rfl;(simp only [maxLen] at*;omega))
        |((with_reducible apply ak);exact rfl;(with_reducible apply m9);exact rfl;exact rfl;(simp only [maxLen] at*;omega)))
       all_goals first
         |(exfalso;omega)
         |(refine ⟨(j+1,V2++ [kn c y],(B8,b8),some gd2),⟨hltj,hsn.symm,by simp only [List.length_append,List.length_singleton];omega⟩,by dsimp only;omega,?_,by (repeat (first|exact Sub.nil _|refine Sub.cons rfl ?_)),?_⟩<;>(simp only [List.length_append,List.length_singleton,List.flatMap_append,List.flatMap_cons,List.flatMap_nil,List.append_nil])<;>first|((repeat (first|exact Sub.nil _|refine Sub.cons rfl ?_));done)|((repeat (first|exact MSub.nil _|refine MSub.pick (by (repeat first|exact .hd|apply Sel.tl|apply In.tl)) ?_|exact MSub.refl _|refine MSub.drop .hd ?_));done))
         |(refine ⟨(j+1,V2,(A8,c8),some gd2),⟨hltj,hsn.symm,by dsimp only;omega⟩,by dsimp only;omega,by (repeat (first|exact Sub.nil _|refine Sub.cons rfl ?_)),by (repeat (first|exact Sub.nil _|refine Sub.cons rfl ?_)),by (repeat (first|exact MSub.nil _|refine MSub.pick (by (repeat first|exact .hd|apply Sel.tl|apply In.tl)) ?_|exact MSub.refl _|refine MSub.drop .hd ?_))⟩;done)
         |trace_state
   ·
    have e:j=U.length:=by omega
    subst e
    rw [XF] at hV2
    rw [← hV2] at hsi
    cases Dm with
    |none=>
     dsimp only [dkB]
     repeat' (first
      |((with_reducible apply ak);exact rfl;(first|((with_reducible apply TX);exact rfl)|((with_reducible apply EQ);exact rfl)|((with_reducible apply Vk);exact rfl)|((with_reducible apply NP);exact rfl)|((with_reducible apply ik);exact rfl;(repeat first|exact .hd|apply Sel.tl|apply In.tl);exact rfl)|((with_reducible apply EM);exact rfl;(repeat first|exact .hd|apply Sel.tl|apply In.tl);exact rfl)|((with_reducible apply u9);exact rfl;(repeat first|exact .hd|apply Sel.tl|apply In.tl);exact rfl;exact rfl)|((with_reducible apply Q7);(iterate 3 exact rfl))|((with_reducible apply ij);exact rfl)))
      |((with_reducible apply QL);exact rfl;exact rfl;intro _)
      |((with_reducible apply QM);(iterate 3 exact rfl);intro _)
      |((with_reducible apply Nt);exact rfl;intro _)
      |((with_reducible apply zD);exact rfl;exact rfl;(repeat first|exact .hd|apply Sel.tl|apply In.tl);(iterate 3 exact rfl))
      |((with_reducible apply Ea);exact rfl;exact rfl;(repeat first|exact .hd|apply Sel.tl|apply In.tl);(iterate 4 exact rfl))
      |((with_reducible apply zE);(iterate 7 exact rfl);intro _)
      |(with_reducible first|apply oo|apply Vv|apply U7|apply Nz|apply U9|apply TS|apply TU|apply QU|apply Vt|apply Vw|apply V8|apply V6|apply V9|apply QQ|apply QR|apply VC|apply VB|apply scp_e)
      |((with_reducible apply EF);exact rfl)
      |((with_reducible apply CD);exact rfl)
      |((with_reducible apply TW)<;>first|exact rfl|(intro hb;(replace hb:=Tidy.out hb;try (exfalso;omega))))
      |((with_reducible apply V5);exact rfl)
      |((with_reducible apply ak);exact rfl;(with_reducible apply gZ);exact rfl;exact rfl;(simp only [maxLen] at*;omega))
      |((with_reducible apply ak);exact rfl;(with_reducible apply v_1addN);exact rfl;exact rfl;(simp only [maxLen] at*;omega))
      |((with_reducible apply ak);exact rfl;(with_reducible apply m9);exact rfl;exact rfl;(simp only [maxLen] at*;omega)))
     all_goals first
      |(exfalso;omega)
      |(refine ⟨(i+1,V2,(A8,c8),none),⟨hlt,hsi.symm,by dsimp only;omega⟩,by dsimp only;omega,by (repeat (first|exact Sub.nil _|refine Sub.cons rfl ?_)),by (repeat (first|exact Sub.nil _|refine Sub.cons rfl ?_)),by (repeat (first|exact MSub.nil _|refine MSub.pick (by (repeat first|exact .hd|apply Sel.tl|apply In.tl)) ?_|exact MSub.refl _|refine MSub.drop .hd ?_))⟩;done)
      |trace_state
    |some gd2=>
     dsimp only [dkB]
     repeat' (first
      |((with_reducible apply ak);exact rfl;(first|((with_reducible apply TX);exact rfl)|((with_reducible apply EQ);exact rfl)|((with_reducible apply Vk);exact rfl)|((with_reducible apply NP);exact rfl)|((with_reducible apply ik);exact rfl;(repeat first|exact .hd|apply Sel.tl|apply In.tl);exact rfl)|((with_reducible apply EM);exact rfl;(repeat first|exact .hd|apply Sel.tl|apply In.tl);exact rfl)|((with_reducible apply u9);exact rfl;(repeat first|exact .hd|apply Sel.tl|apply In.tl);exact rfl;exact rfl)|((with_reducible apply Q7);(iterate 3 exact rfl))|((with_reducible apply ij);exact rfl)))
      |((with_reducible apply QL);exact rfl;exact rfl;intro _)
      |((with_reducible apply QM);(iterate 3 exact rfl);intro _)
      |((with_reducible apply Nt);exact rfl;intro _)
      |((with_reducible apply zD);exact rfl;exact rfl;(repeat first|exact .hd|apply Sel.tl|apply In.tl);(iterate 3 exact rfl))
      |((with_reducible apply Ea);exact rfl;exact rfl;(repeat first|exact .hd|apply Sel.tl|apply In.tl);(iterate 4 exact rfl))
      |((with_reducible apply zE);(iterate 7 exact rfl);intro _)
      |(with_reducible first|apply oo|apply Vv|apply U7|apply Nz|apply U9|apply TS|apply TU|apply QU|apply Vt|apply Vw|apply V8|apply V6|apply V9|apply QQ|apply QR|apply VC|apply VB|apply scp_e)
      |((with_reducible apply EF);exact rfl)
      |((with_reducible apply CD);exact rfl)
      |((with_reducible apply TW)<;>first|exact rfl|(intro hb;(replace hb:=Tidy.out hb;try (exfalso;omega))))
      |((with_reducible apply V5);exact rfl)
      |((with_reducible apply ak);exact rfl;(with_reducible apply gZ);exact rfl;exact rfl;(simp only [maxLen] at*;omega))
      |((with_reducible apply ak);exact rfl;(with_reducible apply v_1addN);exact rfl;exact rfl;(simp only [maxLen] at*;omega))
      |((with_reducible apply ak);exact rfl;(with_reducible apply m9);exact rfl;exact rfl;(simp only [maxLen] at*;omega)))
     all_goals first
      |(exfalso;omega)
      |(refine ⟨(i+1,V2,(A8,c8),some gd2),⟨hlt,hsi.symm,by dsimp only;omega⟩,by dsimp only;omega,by (repeat (first|exact Sub.nil _|refine Sub.cons rfl ?_)),by (repeat (first|exact Sub.nil _|refine Sub.cons rfl ?_)),by (repeat (first|exact MSub.nil _|refine MSub.pick (by (repeat first|exact .hd|apply Sel.tl|apply In.tl)) ?_|exact MSub.refl _|refine MSub.drop .hd ?_))⟩;done)
      |trace_state
 ·
  have e:i=W0.length:=by omega
  subst e
  rw [XF] at hV
  change V=W0.flatMap (fun c=>((aG G c).filter fun z=>((lwB b).to z).getLsbD u && cX G (aZ b.rules (u:Int)) z.rect).map fun z=>(⟨c,z.node⟩:Cl)) at hV
  rw [← hV]
  cases Dm with
  |none=>
   dsimp only [dkB]
   repeat' (first
    |((with_reducible apply ak);exact rfl;(first|((with_reducible apply TX);exact rfl)|((with_reducible apply EQ);exact rfl)|((with_reducible apply Vk);exact rfl)|((with_reducible apply NP);exact rfl)|((with_reducible apply ik);exact rfl;(repeat first|exact .hd|apply Sel.tl|apply In.tl);exact rfl)|((with_reducible apply EM);exact rfl;(repeat first|exact .hd|apply Sel.tl|apply In.tl);exact rfl)|((with_reducible apply u9);exact rfl;(repeat first|exact .hd|apply Sel.tl|apply In.tl);exact rfl;exact rfl)|((with_reducible apply Q7);(iterate 3 exact rfl))|((with_reducible apply ij);exact rfl)))
    |((with_reducible apply QL);exact rfl;exact rfl;intro _)
    |((with_reducible apply QM);(iterate 3 exact rfl);intro _)
    |((with_reducible apply Nt);exact rfl;intro _)
    |((with_reducible apply zD);exact rfl;exact rfl;(repeat first|exact .hd|apply Sel.tl|apply In.tl);(iterate 3 exact rfl))
    |((with_reducible apply Ea);exact rfl;exact rfl;(repeat first|exact .hd|apply Sel.tl|apply In.tl);(iterate 4 exact rfl))
    |((with_reducible apply zE);(iterate 7 exact rfl);intro _)
    |(with_reducible first|apply oo|apply Vv|apply U7|apply Nz|apply U9|apply TS|apply TU|apply QU|apply Vt|apply Vw|apply V8|apply V6|apply V9|apply QQ|apply QR|apply VC|apply VB|apply scp_e)
    |((with_reducible apply EF);exact rfl)
    |((with_reducible apply CD);exact rfl)
    |((with_reducible apply TW)<;>first|exact rfl|(intro hb;(replace hb:=Tidy.out hb;try (exfalso;omega))))
    |((with_reducible apply V5);exact rfl))
   all_goals first
    |(exfalso;omega)
    |(refine bo (by first|exact .inl rfl|exact .inr rfl) rfl rfl (H' := .own A7 98 3 V.length c7 (V.flatMap dr)::F) (by (repeat (first|exact MSub.nil _|refine MSub.pick (by (repeat first|exact .hd|apply Sel.tl|apply In.tl)) ?_|exact MSub.refl _|refine MSub.drop .hd ?_))) ⟨A7,c7,rfl,rfl⟩;done)
    |trace_state
  |some gd=>
   dsimp only [dkB]
   repeat' (first
    |((with_reducible apply ak);exact rfl;(first|((with_reducible apply TX);exact rfl)|((with_reducible apply EQ);exact rfl)|((with_reducible apply Vk);exact rfl)|((with_reducible apply NP);exact rfl)|((with_reducible apply ik);exact rfl;(repeat first|exact .hd|apply Sel.tl|apply In.tl);exact rfl)|((with_reducible apply EM);exact rfl;(repeat first|exact .hd|apply Sel.tl|apply In.tl);exact rfl)|((with_reducible apply u9);exact rfl;(repeat first|exact .hd|apply Sel.tl|apply In.tl);exact rfl;exact rfl)|((with_reducible apply Q7);(iterate 3 exact rfl))|((with_reducible apply ij);exact rfl)))
    |((with_reducible apply QL);exact rfl;exact rfl;intro _)
    |((with_reducible apply QM);(iterate 3 exact rfl);intro _)
    |((with_reducible apply Nt);exact rfl;intro _)
    |((with_reducible apply zD);exact rfl;exact rfl;(repeat first|exact .hd|apply Sel.tl|apply In.tl);(iterate 3 exact rfl))
    |((with_reducible apply Ea);exact rfl;exact rfl;(repeat first|exact .hd|apply Sel.tl|apply In.tl);(iterate 4 exact rfl))
    |((with_reducible apply zE);(iterate 7 exact rfl);intro _)
    |(with_reducible first|apply oo|apply Vv|apply U7|apply Nz|apply U9|apply TS|apply TU|apply QU|apply Vt|apply Vw|apply V8|apply V6|apply V9|apply QQ|apply QR|apply VC|apply VB|apply scp_e)
    |((with_reducible apply EF);exact rfl)
    |((with_reducible apply CD);exact rfl)
    |((with_reducible apply TW)<;>first|exact rfl|(intro hb;(replace hb:=Tidy.out hb;try (exfalso;omega))))
    |((with_reducible apply V5);exact rfl))
   all_goals first
    |(exfalso;omega)
    |(refine bo (by first|exact .inl rfl|exact .inr rfl) rfl rfl (H' := .own A7 98 3 V.length c7 (V.flatMap dr)::F) (by (repeat (first|exact MSub.nil _|refine MSub.pick (by (repeat first|exact .hd|apply Sel.tl|apply In.tl)) ?_|exact MSub.refl _|refine MSub.drop .hd ?_))) ⟨A7,c7,rfl,rfl⟩;done)
    |trace_state
end
end Go.SL
