/-
  Lemmas and walks, put together: B3 A2p B4 B5 W11.
-/
import Derived.Test.YtlnecnbfmnfigaaGreatDoorKu12
set_option linter.unusedSimpArgs false
set_option linter.unusedVariables false
set_option maxRecDepth 20000
namespace Go.SL
open Go Go.Proofs
attribute [local irreducible] W WL WQ WG WA WX WLI WR WT VOp thn blk bZ scp bA ck FnAt FnIn
theorem LS {l m:List Int} (hl:iC l) (hm:iC m):mkB l=mkB m↔l=m:=⟨fun h=>by rw [← nX hl,← nX hm,h],fun h=>by rw [h]⟩
theorem pg (a b:ByteArray) (w:World):aF Tryz.prog 236 [.string a,.string b] w (.bool (decide ((ap a).take b.size=ap b))):=by
 refine aA Tryz.func236 rfl Tryz.ntmps236 rfl ?_
 have ha:=au a
 have hb' :=au b
 have e: ∀ h:b.size≤a.size,decide (sub a 0 b.size=b)=decide ((ap a).take b.size=ap b):=fun h=>by
  rw [decide_eq_decide,← ud]
  exact ⟨fun h=>by rw [h],fun h=>wg h⟩
 repeat' (first|refine sT ?_|refine sT2 ?_|refine sM fun _=> ?_|(refine sC ?_ ?_<;>intro hb<;>try omega)|fail)
 ·
  rw [e (by omega)]
  (refine rT1 ?_)
  rfl
 ·
  (refine rT1 ?_)
  rw [decide_eq_false]
  intro h
  have:=congrArg List.length h
  rw [Pr] at this
  omega
theorem zV (a b:ByteArray) (w:World):aF Tryz.prog 287 [.string a,.string b] w (.bool (decide ((ap a).take b.size=ap b))):=by
 refine aA Tryz.func287 rfl Tryz.ntmps287 rfl ?_
 repeat' (first|(apply aa;exact rfl;exact rfl;(intro w hm;exact pg a b w))|refine sT ?_|refine sM fun _=> ?_|(refine sC ?_ ?_<;>intro hb<;>try omega)|fail)
 (refine rT1 ?_)
 rfl
theorem v6 (c:Int) (w:World):aF Tryz.prog 284 [.int .i64 c] w (.bool (decide (1≤c) && decide (c≤5))):=by
 refine aA Tryz.func284 rfl Tryz.ntmps284 rfl ?_
 repeat' (first|refine sT ?_|refine sM fun _=> ?_|(refine sC ?_ ?_<;>intro hb<;>try omega)|fail)
 all_goals ((refine rT1 ?_);simp_all<;>omega)
theorem zZ {k:Nat} (h1:1≤k) (h2:k≤5): ∃ s,ed.drop (k - 1)=s::ed.drop k∧cM.getD k ay=mkB s∧iC s∧s.length≤10:=by
 rcases (by omega:k=1∨k=2∨k=3∨k=4∨k=5) with rfl|rfl|rfl|rfl|rfl<;>refine ⟨_,rfl,rfl,?_,by decide⟩<;>(intro c hc;simp at hc;omega)
theorem nT (l:List Int):(mkB l).size=l.length:=by simp [mkB,ByteArray.size]
def lr (l:List Int):Option (Tk × Nat):=(kN l ed 1).map fun x=>(⟨4,x.1,ay,aW,0⟩,x.2)
set_option maxHeartbeats 1000000 in
theorem Mb (a:ByteArray) (ha:a.size≤100000) (i:Nat) (hi:i≤a.size) (g:Nat) (w:World) (hr:Ro w g 0 [.string a]) (hW:Words w):
  aF Tryz.prog 248 [.pointer (some ⟨g,0,none⟩),.int .i64 (i:Int)] w (DV (atT i (lr ((ap a).drop i)))):=by
 refine aA Tryz.func248 rfl Tryz.ntmps248 rfl ?_
 have hl:=au a
 unfold lr
 generalize hF:kN ((ap a).drop i) ed 1=F
 repeat' (first|refine sT ?_|refine sT2 ?_|refine sM fun _=> ?_|(refine sC ?_ ?_<;>intro hb<;>try omega)|fail)
 rename_i g4
 refine ax [0,1,4,5] rfl (fun k:Nat=> [(6,.int .i64 (k:Int))]) (fun _=> [.box g4 291 (bk dq)]) (fun k=>1≤k∧k≤6∧F=kN ((ap a).drop i) (ed.drop (k - 1)) k) (fun k=>6 - k) 1 ⟨by omega,by omega,hF.symm⟩ sB mS ?_
 rintro k ⟨hk1,hk2,hk3⟩
 by_cases hk:k≤5
 ·
  obtain ⟨s,e1,e2,e3,e4⟩:=zZ hk1 hk
  have e5:gF (k:Int)=⟨4,(k:Int),ay⟩:=by rw [gF,if_neg (by omega)]
  have hFa:=mY (k:Int)
  rw [e5] at hFa
  have hSh:=fun w' h=>Mv (k:Int) (by omega) (by omega) w' h
  rw [RO,e2] at hSh
  rw [e1,kN] at hk3
  have hlit:(decide (1≤(k:Int)) && decide ((k:Int)≤5))=true:=by simp;omega
  have hL:=v6 (k:Int)
  rw [hlit] at hL
  have hms:=nT s
  have hcut:ap (sub a i (i+s.length))=((ap a).drop i).take s.length:=by rw [eF,show i+s.length - i=s.length by omega]
  have hU:=fun h=>rj (sub a i (i+s.length)) h
  have hdec:upB (sub a i (i+s.length))=mkB s↔(((ap a).drop i).take s.length).map upC=s:=by
   rw [upB,hcut,LS _ e3]
   rw [← hcut,← qK]
   exact mR _
  rw [← hms] at hU hdec hk3
  repeat' (first|(apply aj;exact rfl;apply aN (o:=0) (off:=0);exact hr;exact rfl;exact rfl)|(apply aa;exact rfl;exact rfl;(intro w hm;exact hL w))|(apply aa;exact rfl;exact rfl;(intro w hm;exact hFa w))|(apply aa;exact rfl;exact rfl;(intro w' hm;exact hSh w' (hW.next hm)))|(apply aa;exact rfl;exact rfl;(intro w hm;exact hU (by rw [cD _ (by omega)];omega) w))|refine sT ?_|refine sT2 ?_|refine sN ?_|refine sM fun _=> ?_|(refine sC ?_ ?_<;>intro hb<;>try omega)|fail)
  ·
   (refine lI ?_)
   rw [hk3,if_pos (hdec.1 hb)]
   rfl
  ·
   refine ⟨k+1,?_,(by first|omega|(dsimp only;omega)),sB,sB,mS⟩
   refine ⟨by omega,by omega,?_⟩
   rw [hk3,if_neg fun h=>hb (hdec.2 h)]
   rfl
  ·
   refine ⟨k+1,?_,(by first|omega|(dsimp only;omega)),sB,sB,mS⟩
   refine ⟨by omega,by omega,?_⟩
   rw [hk3,if_neg]
   ·
    rfl
   ·
    intro h
    have:=congrArg List.length h
    rw [Ps,Pr,Pp] at this
    omega
 ·
  have e:k=6:=by omega
  subst e
  rw [show ed.drop (6 - 1)= [] from rfl,kN] at hk3
  rw [hk3]
  have hL:=v6 6
  rw [show (decide (1≤(6:Int)) && decide ((6:Int)≤5))=false from rfl] at hL
  repeat' (first|(apply aa;exact rfl;exact rfl;(intro w hm;exact hL w))|refine sT ?_|refine sT2 ?_|refine sM fun _=> ?_|(refine sC ?_ ?_<;>intro hb<;>try omega)|fail)
  all_goals try (exfalso;omega)
  (refine lI ?_)
  rfl
def FZ:List Value:=fk.map fun x=> .string (mkB x.1)
def F2:List Value:=fk.map fun x=> .int .i64 x.2
theorem zH (w:World):FnAt Tryz.prog 286 [] w fun v H=> ∃ g g',v= .tuple #[sl (some g) 13 13,sl (some g') 13 13]∧H= [.own (some g) 9 1 13 13 FZ,.own (some g') 2 1 13 13 F2]:=by
 refine aA Tryz.func286 rfl Tryz.ntmps286 rfl ?_
 repeat' (first|refine sT ?_|refine sM fun _=> ?_|(refine sC ?_ ?_<;>intro hb<;>try omega)|fail)
 rename_i g g'
 refine cN (.inl rfl) rfl rfl rfl (H' := [.own (some g) 9 1 13 13 FZ,.own (some g') 2 1 13 13 F2]) ?_ ⟨g,g',rfl,rfl⟩
 exact mS
theorem Nw {k:Nat} (h:k<13): ∃ s n,fk.drop k=(s,n)::fk.drop (k+1)∧FZ[k]? =some (.string (mkB s))∧F2[k]? =some (.int .i64 n)∧iC s∧s.length≤2:=by
 rcases (by omega:k=0∨k=1∨k=2∨k=3∨k=4∨k=5∨k=6∨k=7∨k=8∨k=9∨k=10∨k=11∨k=12) with rfl|rfl|rfl|rfl|rfl|rfl|rfl|rfl|rfl|rfl|rfl|rfl|rfl<;>refine ⟨_,_,rfl,rfl,rfl,?_,by decide⟩<;>(intro c hc;simp at hc;omega)
def iK (l:List Int):Option (Tk × Nat):=
 match opL l fk with
 |some (k,n)=>some (⟨8,k,ay,aW,0⟩,n)
 |none=>if l.headD 0=40 then some (⟨9,0,ay,aW,0⟩,1) else if l.headD 0=41 then some (⟨10,0,ay,aW,0⟩,1) else if l.headD 0=44 then some (⟨11,0,ay,aW,0⟩,1) else none
set_option maxHeartbeats 1000000 in
theorem LD (a:ByteArray) (ha:a.size≤100000) (i:Nat) (hi:i<a.size) (g:Nat) (w:World) (hr:Ro w g 0 [.string a]):
  aF Tryz.prog 249 [.pointer (some ⟨g,0,none⟩),.int .i64 (i:Int)] w (DV (atT i (iK ((ap a).drop i)))):=by
 refine aA Tryz.func249 rfl Tryz.ntmps249 rfl ?_
 have hl:=au a
 unfold iK
 rw [l8]
 generalize hF:opL ((ap a).drop i) fk=F
 repeat' (first|(apply aS;exact rfl;exact rfl;(intro w' hm;exact zH w');(rintro v H' ⟨gs,gn,rfl,rfl⟩))|refine sT ?_|refine sT2 ?_|refine sM fun _=> ?_|(refine sC ?_ ?_<;>intro hb<;>try omega)|fail)
 rename_i g4
 refine ax [0,1,4,5,7,14,15] rfl (fun k:Nat=> [(16,.int .i64 (k:Int))]) (fun _=> [.box g4 291 (bk dq),.own (some gs) 9 1 13 13 FZ,.own (some gn) 2 1 13 13 F2]) (fun k=>k≤13∧F=opL ((ap a).drop i) (fk.drop k)) (fun k=>13 - k) 0 ⟨by omega,hF.symm⟩ sB mS ?_
 rintro k ⟨hk2,hk3⟩
 by_cases hk:k<13
 ·
  obtain ⟨s,m,e1,e2,e3,e4,e5⟩:=Nw hk
  rw [e1,opL] at hk3
  have hms:=nT s
  have hP:=zV (sub a i a.size) (mkB s)
  rw [oI,nX e4,hms] at hP
  repeat' (first|(apply aj;exact rfl;apply aN (o:=0) (off:=0);exact hr;exact rfl;exact rfl)|(apply aa;exact rfl;exact rfl;(intro w hm;exact hP w))|(apply aj;exact rfl;apply ag (j:=k);exact rfl;exact rfl;exact hk)|(apply aj;exact rfl;apply aC;exact rfl;exact pK;(rw [show 0+k*1=k by omega];first|exact e2|exact e3))|refine sT ?_|refine sT2 ?_|refine sN ?_|refine sM fun _=> ?_|(refine sC ?_ ?_<;>intro hb<;>try omega)|fail)
  ·
   (refine lI ?_)
   rw [hk3,if_pos hb,hms]
   rfl
  ·
   refine ⟨k+1,?_,(by first|omega|(dsimp only;omega)),sB,sB,mS⟩
   exact ⟨hk,by rw [hk3,if_neg hb]⟩
 ·
  have e:k=13:=by omega
  subst e
  rw [show fk.drop 13= [] from rfl,opL] at hk3
  subst hk3
  repeat' (first|(apply aj;exact rfl;apply aN (o:=0) (off:=0);exact hr;exact rfl;exact rfl)|refine sT ?_|refine sT2 ?_|refine sN ?_|refine sM fun _=> ?_|(refine sC ?_ ?_<;>intro hb<;>try omega)|fail)
  all_goals try (exfalso;omega)
  all_goals
   (refine lI ?_)
   simp_all
   try rfl
end Go.SL
namespace Go.SL
open Go
theorem vH {p:Pc} {c:Int} (h:cf c=true):cC p c=lh p (upC c):=by
 simp only [cf,QU,Pm,decide_eq_true_eq] at h
 rw [cC,if_pos]
 unfold upC
 split<;>omega
theorem gU {p:Pc} {c:Int} (h:aJ c=true):cC p c=gC p c:=by
 simp only [aJ,Pm,decide_eq_true_eq] at h
 exact vJ h.1 h.2
theorem mL {p:Pc} {c:Int} (h:cf c=false) (h2:aJ c=false):(cC p c).ok=false:=by
 simp only [cf,aJ,Bool.or_eq_false_iff,QF,decide_eq_false_iff_not] at h h2
 rw [yd (by omega) (by omega) (by omega)]
theorem EJ {p:Pc} (h:p.ok=false) (c:Int):(cC p c).ok=false:=by
 unfold cC
 split
 ·
  simp [lh,h]
 ·
  split
  ·
   simp [gC,h]
  ·
   rfl
theorem nZ: ∀ (l:List Int) {p:Pc},p.ok=false→(l.foldl cC p).ok=false
 | [],_,h=>h
 |c::r,_,h=>nZ r (EJ h c)
theorem CN: ∀ (l:List Int) (p:Pc),(∀ c∈l,cf c=true)→p.m1=0→l.foldl cC p=⟨p.m0+l.length,0,bC l p.v0,p.v1,p.ok⟩
 | [],p,_,h=>by obtain ⟨a,b,c,d,e⟩:=p;simp only at h;subst h;simp [bC]
 |c::r,p,hl,h=>by
  rw [Qc,vH (hl c O7),CN r _ (fun d hd=>hl d (O9 _ hd)) (by simp [lh,h])]
  simp only [lh,h,bC,decide_true,Qq,Pe,Pc.mk.injEq,true_and,and_true]
  refine ⟨by push_cast;omega,?_⟩
  rw [show 26*p.v0+(upC c - 65)+1=26*p.v0+(upC c - 64) by omega]
theorem wt: ∀ (l:List Int) (p:Pc),(∀ c∈l,aJ c=true)→0<p.m1→l.foldl cC p=⟨p.m0,p.m1+l.length,p.v0,m8 l p.v1,p.ok⟩
 | [],p,_,_=>by obtain ⟨a,b,c,d,e⟩:=p;simp [m8]
 |c::r,p,hl,h=>by
  rw [Qc,gU (hl c O7),wt r _ (fun d hd=>hl d (O9 _ hd)) (by simp [gC];omega)]
  simp only [gC,h,m8,decide_true,Bool.or_true,Qq,Pe,Pc.mk.injEq,true_and,and_true]
  push_cast;omega
theorem pY: ∀ (l:List Int) (p:Pc),(l.all aJ=false)→0<p.m1→(l.foldl cC p).ok=false
 | [],_,h,_=>by simp at h
 |c::r,p,h,hm=>by
  rw [Qc]
  cases hd:aJ c
  ·
   apply nZ
   cases hl:cf c
   ·
    exact mL hl hd
   ·
    rw [vH hl]
    simp only [lh]
    rw [decide_eq_false (by omega)]
    simp
  ·
   rw [QN,hd,PZ] at h
   apply pY r _ h
   rw [gU hd]
   simp only [gC];omega
theorem mQ: ∀ (l:List Int) {v:Int},(∀ c∈l,cf c=true)→0≤v→(l≠ []∨1≤v)→1≤bC l v
 | [],v,_,_,h=>by rcases h with h|h;exact absurd rfl h;exact h
 |c::r,v,hl,h0,_=>by
  have hc:=hl c O7
  simp only [cf,QU,Pm,decide_eq_true_eq] at hc
  have hu:65≤upC c:=by unfold upC;split<;>omega
  simp only [bC]
  exact mQ r (fun d hd=>hl d (O9 _ hd)) (by omega) (.inr (by omega))
theorem BI: ∀ (l:List Int) {v:Int},(∀ c∈l,aJ c=true)→1≤v→1≤m8 l v
 | [],_,_,h=>h
 |c::r,v,hl,h=>by
  have hc:=hl c O7
  simp only [aJ,Pm,decide_eq_true_eq] at hc
  simp only [m8]
  exact BI r (fun d hd=>hl d (O9 _ hd)) (by omega)
theorem o9 {p:Int→Bool}: ∀ {l:List Int} {c:Int},c∈l.takeWhile p→p c=true
 |d::r,c,h=>by
  rw [List.takeWhile_cons] at h
  split at h
  ·
   rename_i hp
   rcases PF.1 h with rfl|h
   ·
    exact hp
   ·
    exact o9 h
  ·
   cases h
theorem Kz (l:List Int):yY l=cF l:=by
 unfold yY cF
 dsimp only
 generalize ha:l.takeWhile cf=a
 generalize hd:l.dropWhile cf=d
 have hl:l=a++d:=by rw [← ha,← hd,List.takeWhile_append_dropWhile]
 have hal: ∀ c∈a,cf c=true:=fun c hc=>o9 (ha ▸ hc)
 have hp:tL l=d.foldl cC ⟨a.length,0,bC a 0,0,true⟩:=by
  rw [tL,hl,RN,CN a pc0 hal rfl]
  simp [pc0]
 rw [hp]
 cases d with
 |nil=>simp
 |cons c r=>
  have hcl:cf c=false:=by
   cases hq:cf c
   ·
    rfl
   ·
    exfalso
    have hne:l.dropWhile cf≠ []:=by rw [hd];simp
    have:=List.head_dropWhile_not cf hne
    simp only [hd,List.head_cons] at this
    rw [hq] at this;cases this
  rw [Qc]
  by_cases ha0:a= []
  ·
   subst ha0
   have:(List.foldl cC (cC ⟨(([]:List Int).length:Int),0,bC [] 0,0,true⟩ c) r).ok=false∨(List.foldl cC (cC ⟨(([]:List Int).length:Int),0,bC [] 0,0,true⟩ c) r).m0=0∨(List.foldl cC (cC ⟨(([]:List Int).length:Int),0,bC [] 0,0,true⟩ c) r).m1=0:=by
    cases hdc:aJ c
    ·
     exact .inl (nZ r (mL hcl hdc))
    ·
     cases hr:r.all aJ
     ·
      left
      apply pY r _ hr
      rw [gU hdc];simp [gC]
     ·
      right;left
      rw [wt r _ (by simpa using hr) (by rw [gU hdc];simp [gC])]
      rw [gU hdc];simp [gC]
   rw [if_pos this,if_pos (show (([]:List Int)= []∨_) from .inl rfl)]
  ·
   have hlen:0<(a.length:Int):=by
    have:=RG.2 ha0
    omega
   cases hdc:aJ c
   ·
    rw [if_pos (.inl (nZ r (mL hcl hdc))),if_pos (.inr (.inr (.inr (by simp [hdc]))))]
   ·
    rw [gU hdc]
    by_cases h48:c=48
    ·
     rw [if_pos (.inl (nZ r (by simp [gC,h48]))),if_pos (.inr (.inr (.inl (by simp [h48]))))]
    ·
     cases hr:r.all aJ
     ·
      rw [if_pos (.inl (pY r _ hr (by simp [gC]))),if_pos (.inr (.inr (.inr (by simp [hr]))))]
     ·
      have hr' : ∀ x∈r,aJ x=true:=by simpa using hr
      have hp2:List.foldl cC (gC ⟨a.length,0,bC a 0,0,true⟩ c) r=⟨a.length,1+r.length,bC a 0,m8 (c::r) 0,true⟩:=by
       rw [wt r _ hr' (by simp [gC])]
       simp [gC,h48,m8]
      rw [hp2,if_neg (c:=(a= []∨_)) (by simp [ha0,h48,hdc,hr])]
      have hd2:=hdc
      simp only [aJ,Pm,decide_eq_true_eq] at hd2
      have h1:=mQ a hal (QZ 0) (.inl ha0)
      have h3:1≤m8 (c::r) 0:=BI r (v:=min (10*0+(c - 48)) 1025) hr' (by omega)
      generalize m8 (c::r) 0=u at h3 ⊢
      split
      ·
       rename_i h
       exfalso
       rcases h with h|h|h
       ·
        cases h
       ·
        exact absurd h (by show ¬ ((a.length:Int)=0);omega)
       ·
        exact absurd h (by show ¬ (1+(r.length:Int)=0);omega)
      ·
       by_cases hb:1024<bC a 0∨1024<u
       ·
        rw [if_pos hb,if_neg]
        simp only [valid,Pm,decide_eq_true_eq]
        omega
       ·
        rw [if_neg hb,if_pos]
        simp only [valid,Pm,decide_eq_true_eq]
        omega
end Go.SL
namespace Go.SL
open Go Go.Proofs
attribute [local irreducible] W WL WQ WG WA WX WLI WR WT VOp thn blk bZ scp bA ck FnAt FnIn
def ib (l:List Int):Option (Tk × Nat):=
 if cf (l.headD 0)=false then none
 else if (l.drop (aI da l)).headD 0=40 then some (⟨7,0,mkB (upW l),aW,0⟩,aI da l)
 else if mkB (upW l)=nB then some (⟨3,1,ay,aW,0⟩,aI da l)
 else if mkB (upW l)=lH then some (⟨3,0,ay,aW,0⟩,aI da l)
 else if (cF (upW l)).2.2≠0 then none
 else if (l.drop (aI da l)).headD 0=58∧cf ((l.drop (aI da l+1)).headD 0)=true∧(cF (upW (l.drop (aI da l+1)))).2.2=0∧(l.drop (aI da l+1+aI da (l.drop (aI da l+1)))).headD 0≠40 then
  some (⟨if (cF (upW l)).1=(cF (upW (l.drop (aI da l+1)))).1∧(cF (upW l)).2.1=(cF (upW (l.drop (aI da l+1)))).2.1 then 5 else 6,0,ay,
   ⟨min (cF (upW l)).1 (cF (upW (l.drop (aI da l+1)))).1,min (cF (upW l)).2.1 (cF (upW (l.drop (aI da l+1)))).2.1,max (cF (upW l)).1 (cF (upW (l.drop (aI da l+1)))).1,max (cF (upW l)).2.1 (cF (upW (l.drop (aI da l+1)))).2.1⟩,0⟩,aI da l+1+aI da (l.drop (aI da l+1)))
 else some (⟨5,0,ay,bB (cF (upW l)).1 (cF (upW l)).2.1,0⟩,aI da l)
theorem f4 (a b:Int):(if b<a then b else a)=min a b:=by omega
theorem f5 (a b:Int):(if a<b then b else a)=max a b:=by omega
theorem Dn (l:List Int) (hl:iC l) (hlen:l.length≤100000) (w:World):aF Tryz.prog 283 [.string (mkB l)] w (.tuple #[.agg (aw ⟨(cF l).1,(cF l).2.1⟩).toArray,.int .i64 (cF l).2.2]):=by
 have h:=Aq (mkB l) (by rw [nT];exact hlen) w
 rw [nX hl,Kz] at h
 exact h
set_option maxHeartbeats 2000000 in
theorem KX (a:ByteArray) (ha:a.size≤10000) (i:Nat) (hi:i<a.size) (g:Nat) (w:World) (hr:Ro w g 0 [.string a]):
  aF Tryz.prog 247 [.pointer (some ⟨g,0,none⟩),.int .i64 (i:Int)] w (DV (atT i (ib ((ap a).drop i)))):=by
 refine aA Tryz.func247 rfl Tryz.ntmps247 rfl ?_
 have hl:=au a
 have hP1:=fun w' h=>Ce a (by omega) i (by omega) g w' h
 have hwl:=co da ((ap a).drop i)
 have hul:=uQ ((ap a).drop i)
 have huk:iC (upW ((ap a).drop i)):=Jg fun c hc=>mR a c (QA hc)
 rw [Pp] at hwl
 have hW:ib ((ap a).drop i)=ib ((ap a).drop i):=rfl
 unfold ib at hW ⊢
 clear hW
 rw [l8]
 simp only [Qy]
 generalize hn:aI da ((ap a).drop i)=n at*
 generalize hu:upW ((ap a).drop i)=u at*
 rw [l8]
 have hus:(mkB u).size=n:=by rw [nT,hul]
 have hA1:=Dn u huk (by omega)
 generalize hau:cF u=A1 at hA1
 obtain ⟨c1,r1,e1⟩:=A1
 dsimp only at hA1 ⊢
 have hN1:=fun w' h=>zL a (by omega) (i+n) g w' h
 have hN2:=fun w' h=>zL a (by omega) (i+n+1) g w' h
 have hb1l:bat a (i+n)≠0→i+n<a.size:=fun h=>by
  rcases Qm (i+n) a.size with h1|h1
  ·
   exact h1
  ·
   exfalso;apply h;rw [bat,PE,P5 (by omega)];rfl
 generalize hb1:bat a (i+n)=b1 at hN1 hb1l
 rw [show i+(n+1)=i+n+1 by omega]
 have hvl:=uQ ((ap a).drop (i+n+1))
 have hvk:iC (upW ((ap a).drop (i+n+1))):=Jg fun c hc=>mR a c (QA hc)
 have hvr:=co da ((ap a).drop (i+n+1))
 rw [Pp] at hvr
 have hP2:=fun w' hi h=>Ce a (by omega) (i+n+1) hi g w' h
 generalize hm:aI da ((ap a).drop (i+n+1))=m at*
 generalize hv:upW ((ap a).drop (i+n+1))=v at*
 rw [l8,l8]
 have hvs:(mkB v).size=m:=by rw [nT,hvl]
 have hA2:=Dn v hvk (by omega)
 generalize hav:cF v=A2 at hA2
 obtain ⟨c2,r2,e2⟩:=A2
 dsimp only at hA2 ⊢
 rw [show i+(n+1+m)=i+n+1+m by omega]
 have hN3:=fun w' h=>zL a (by omega) (i+n+1+m) g w' h
 generalize hb2:bat a (i+n+1)=b2 at hN2
 generalize hb3:bat a (i+n+1+m)=b3 at hN3
 repeat' (first|(apply aj;exact rfl;apply aN (o:=0) (off:=0);exact hr;exact rfl;exact rfl)|(apply aa;exact rfl;exact rfl;(intro w hm;exact qJ _ w))|(apply aj (d:=28);exact rfl;apply rD;exact rfl;exact hus)|(apply aj (d:=90);exact rfl;apply rD;exact rfl;exact hvs)|(apply aj (d:=126);exact rfl;apply rD;exact rfl;exact hvs)|(apply aa (d:=26);exact rfl;exact rfl;(intro w' hm;exact hP1 w' (hr.next hm)))|(apply aa (d:=77);exact rfl;exact rfl;(intro w' hm;exact hP2 w' (hb1l (by omega)) (hr.next hm)))|(apply aa (d:=34);exact rfl;exact rfl;(intro w' hm;exact hN1 w' (hr.next hm)))|(apply aa (d:=65);exact rfl;exact rfl;(intro w' hm;exact hN1 w' (hr.next hm)))|(apply aa (d:=71);exact rfl;exact rfl;(intro w' hm;exact hN2 w' (hr.next hm)))|(apply aa (d:=92);exact rfl;exact rfl;(intro w' hm;exact hN3 w' (hr.next hm)))|(apply aa;exact rfl;exact rfl;(intro w hm;exact hA1 w))|(apply aa;exact rfl;exact rfl;(intro w hm;exact hA2 w))|(apply aj (d:=99);exact rfl;exact f4 _ _ ▸ iF rfl rfl)|(apply aj (d:=104);exact rfl;exact f4 _ _ ▸ iF rfl rfl)|(apply aj (d:=109);exact rfl;exact f5 _ _ ▸ iG rfl rfl)|(apply aj (d:=114);exact rfl;exact f5 _ _ ▸ iG rfl rfl)|(apply aj (d:=118);exact rfl;exact Jd (a:=⟨c1,r1⟩) (b:=⟨c2,r2⟩) rfl rfl)|(apply aa;exact rfl;exact rfl;(intro w hm;exact Aw ⟨c1,r1⟩ w))|refine sT ?_|refine sT2 ?_|refine sN ?_|refine sM fun _=> ?_|(refine sC ?_ ?_<;>intro hb<;>try omega)|fail)
 all_goals
  (refine lI ?_)
  simp_all [nB,lH,DV,atT,bk,aw,aW,ay,bB,eqF,aH,dq]
def nJ:List (List Int→Option (Tk × Nat)):= [fS,nG,ib,lr,iK]
def mW (l:List Int):List (List Int→Option (Tk × Nat))→Option (Tk × Nat)
 | []=>none
 |r::rs=>match r l with
  |some x=>some x
  |none=>mW l rs
def dA (l:List Int):Option (Tk × Nat):=mW l nJ
def bo (tk:List Int→Option (Tk × Nat)) (l:List Int):Nat→Nat→Except Nat (List Tk)
 |0,_=> .ok []
 |f+1,i=>
  match l.drop i with
  | []=> .ok []
  |c::_=>
   if c=32 then bo tk l f (i+1)
   else match tk (l.drop i) with
    |none=> .error i
    |some (t,n)=>(bo tk l f (i+n)).map fun r=>{ t with at_:=(i:Int) }::r
def Fits (l:List Int) (o:Option (Tk × Nat)):Prop:= ∀ t n,o=some (t,n)→0<n∧n≤l.length
theorem Fits.none {l:List Int}:Fits l none:=fun _ _ h=>by cases h
theorem Fits.some {l:List Int} {t:Tk} {n:Nat} (h1:0<n) (h2:n≤l.length):Fits l (some (t,n)):=fun _ _ h=>by cases h;exact ⟨h1,h2⟩
theorem l7 {l:List Int} {c:Int} (h:l.headD 0=c) (hc:c≠0):0<l.length:=by
 cases l with
 |nil=>exact absurd h.symm hc
 |cons=>simp
theorem EF (l:List Int):cv l=0∨cv l+1≤l.length:=by
 unfold cv
 split
 ·
  right
  rename_i r
  have:=co aJ r
  simp;omega
 ·
  left;rfl
theorem s5 (l:List Int):Fits l (fS l):=by
 unfold fS
 dsimp only
 have h1:=co aJ l
 have h2:=EF (l.drop (aI aJ l))
 rw [Pp] at h2
 have h3:(if cv (l.drop (aI aJ l))=0 then aI aJ l else aI aJ l+1+cv (l.drop (aI aJ l)))≤l.length∧aI aJ l≤(if cv (l.drop (aI aJ l))=0 then aI aJ l else aI aJ l+1+cv (l.drop (aI aJ l))):=by
  split<;>omega
 generalize (if cv (l.drop (aI aJ l))=0 then aI aJ l else aI aJ l+1+cv (l.drop (aI aJ l)))=m at h3 ⊢
 split
 ·
  exact .none
 ·
  rename_i h
  split
  ·
   exact .none
  ·
   exact .some (by omega) (by omega)
theorem oQ: ∀ (n:Nat) (l:List Int) (k:Nat),l.length≤n→cO l=some k→k<l.length
 |_,[],_,_,h=>by simp [cO] at h
 |0,c::r,_,hn,_=>by simp at hn
 |n+1,c::r,k,hn,h=>by
  by_cases hc:c=34
  ·
   subst hc
   cases r with
   |nil=>simp [cO] at h;subst h;simp
   |cons d r' =>
    by_cases hd:d=34
    ·
     subst hd
     simp only [cO,ne_eq,not_true_eq_false,if_false,if_true,P7] at h
     obtain ⟨j,hj,rfl⟩:=h
     have:=oQ n r' j (by simp at hn;omega) hj
     simp;omega
    ·
     simp [cO,hd] at h
     subst h;simp
  ·
   rw [lu hc,P7] at h
   obtain ⟨j,hj,rfl⟩:=h
   have:=oQ n r j (by simp at hn;omega) hj
   simp;omega
theorem G6 (l:List Int):Fits l (nG l):=by
 unfold nG
 split
 ·
  exact .none
 ·
  rename_i h
  have h0:=l7 (c:=34) (Decidable.not_not.1 h) (by decide)
  split
  ·
   exact .none
  ·
   rename_i k hk
   have:=oQ _ _ k (Ph _) hk
   rw [Pp] at this
   split
   ·
    exact .none
   ·
    exact .some (by omega) (by omega)
theorem xE (l:List Int):Fits l (ib l):=by
 have h1:=co da l
 have h2:=co da (l.drop (aI da l+1))
 rw [Pp] at h2
 have hpos:cf (l.headD 0)≠false→0<aI da l:=fun h=>by
  cases l with
  |nil=>exact absurd rfl h
  |cons c r=>
   have:cf c=true:=by simpa using h
   simp [aI,da,this]
 unfold ib
 split
 ·
  exact .none
 ·
  rename_i h
  have hp:=hpos h
  split
  ·
   exact .some hp h1
  ·
   split
   ·
    exact .some hp h1
   ·
    split
    ·
     exact .some hp h1
    ·
     split
     ·
      exact .none
     ·
      split
      ·
       rename_i hq
       have:=l7 hq.1 (by decide)
       rw [Pp] at this
       exact .some (by omega) (by omega)
      ·
       exact .some hp h1
theorem wE (l:List Int): ∀ (ns:List (List Int)) (c k:Int) (n:Nat),(∀ s∈ns,s≠ [])→kN l ns c=some (k,n)→0<n∧n≤l.length
 | [],_,_,_,_,h=>by cases h
 |s::r,c,k,n,hs,h=>by
  rw [kN] at h
  split at h
  ·
   rename_i he
   cases h
   have:=congrArg List.length he
   rw [Ps,Pr] at this
   have:=RG.2 (hs s O7)
   omega
  ·
   exact wE l r _ k n (fun s hs' =>hs s (O9 _ hs')) h
theorem yC (l:List Int):Fits l (lr l):=by
 intro t n h
 unfold lr at h
 rw [P7] at h
 obtain ⟨⟨c,m⟩,h1,h2⟩:=h
 cases h2
 exact wE l ed 1 c _ (by decide) h1
theorem Cj (l:List Int): ∀ (ns:List (List Int × Int)) (k:Int) (n:Nat),(∀ s∈ns,s.1≠ [])→opL l ns=some (k,n)→0<n∧n≤l.length
 | [],_,_,_,h=>by cases h
 |(s,c)::r,k,n,hs,h=>by
  rw [opL] at h
  split at h
  ·
   rename_i he
   cases h
   have:=congrArg List.length he
   rw [Pr] at this
   have:=RG.2 (hs _ O7)
   dsimp only at this
   omega
  ·
   exact Cj l r k n (fun s hs' =>hs s (O9 _ hs')) h
theorem xX (l:List Int):Fits l (iK l):=by
 unfold iK
 split
 ·
  rename_i k n h
  have:=Cj l fk k n (by decide) h
  exact .some this.1 this.2
 ·
  split
  ·
   exact .some (by omega) (l7 (by assumption) (by decide))
  ·
   split
   ·
    exact .some (by omega) (l7 (by assumption) (by decide))
   ·
    split
    ·
     exact .some (by omega) (l7 (by assumption) (by decide))
    ·
     exact .none
theorem wz (l:List Int): ∀ rs:List (List Int→Option (Tk × Nat)),(∀ r∈rs,Fits l (r l))→Fits l (mW l rs)
 | [],_=> .none
 |r::rs,h=>by
  unfold mW
  split
  ·
   rename_i x hx
   exact hx ▸ h r O7
  ·
   exact wz l rs fun r hr=>h r (O9 _ hr)
theorem Hg (l:List Int): ∀ r∈nJ,Fits l (r l):=by
 intro r hr
 simp only [nJ,PF,RI,or_false] at hr
 rcases hr with rfl|rfl|rfl|rfl|rfl
 ·
  exact s5 l
 ·
  exact G6 l
 ·
  exact xE l
 ·
  exact yC l
 ·
  exact xX l
theorem uU (l:List Int):Fits l (dA l):=wz l _ (Hg l)
theorem qj {tk:List Int→Option (Tk × Nat)} {l:List Int} (ht: ∀ m,Fits m (tk m)): ∀ (b d f i:Nat),d≤b→l.length - i=d→d≤f→bo tk l f i=bo tk l d i:=by
 intro b
 induction b with
 |zero=>
  intro d f i hb hd hf
  have:d=0:=by omega
  subst this
  cases f with
  |zero=>rfl
  |succ f=>
   simp only [bo]
   rw [PA (by omega)]
 |succ b ih=>
  intro d f i hb hd hf
  cases d with
  |zero=>
   cases f with
   |zero=>rfl
   |succ f=>
    simp only [bo]
    rw [PA (by omega)]
  |succ m=>
   obtain ⟨g,rfl⟩: ∃ g,f=g+1:=⟨f - 1,by omega⟩
   simp only [bo]
   have hi:i<l.length:=by omega
   rw [Pf hi]
   dsimp only
   split
   ·
    exact ih m g (i+1) (by omega) (by omega) (by omega)
   ·
    split
    ·
     rfl
    ·
     rename_i t n hn
     have:=ht _ t n hn
     rw [ih (l.length - (i+n)) g (i+n) (by omega) rfl (by omega),ih (l.length - (i+n)) m (i+n) (by omega) rfl (by omega)]
def bw (tk:List Int→Option (Tk × Nat)) (l:List Int):List Tk × Int × Int:=
 if 256<l.length then ([],0,5)
 else match l.findIdx? (fun c=> !bL c) with
  |some i=>([],(i:Int),4)
  |none=>match bo tk l l.length 0 with
   | .ok r=>(r,0,0)
   | .error i=>([],(i:Int),4)
def FP (A:Option Nat) (cap:Nat) (r:List Tk × Int × Int):Value:= .tuple #[sl A r.1.length cap,.int .i64 r.2.1,.int .i64 r.2.2]
def Ei:List Nat:= [245,246,247,248,249]
theorem LI (a:ByteArray) (ha:a.size≤10000) (i:Nat) (hi:i<a.size) (g:Nat) (k:Nat) (hk:k<5):
  ∃ f r,nJ.drop k=r::nJ.drop (k+1)∧(Ei.map fun f=>Value.func (.func f) #[.pointer (some ⟨g,0,none⟩)] #[])[k]? =some (.func (.func f) #[.pointer (some ⟨g,0,none⟩)] #[])∧Callable Tryz.prog f∧
   ∀ w,Ro w g 0 [.string a]→Words w→aF Tryz.prog f [.pointer (some ⟨g,0,none⟩),.int .i64 (i:Int)] w (DV (atT i (r ((ap a).drop i)))):=by
 rcases (by omega:k=0∨k=1∨k=2∨k=3∨k=4) with rfl|rfl|rfl|rfl|rfl
 ·
  exact ⟨_,_,rfl,rfl,inferInstance,fun w hr _=>HM a (by omega) i (by omega) g w hr⟩
 ·
  exact ⟨_,_,rfl,rfl,inferInstance,fun w hr _=>LA a (by omega) i hi g w hr⟩
 ·
  exact ⟨_,_,rfl,rfl,inferInstance,fun w hr _=>KX a ha i hi g w hr⟩
 ·
  exact ⟨_,_,rfl,rfl,inferInstance,fun w hr hW=>Mb a (by omega) i (by omega) g w hr hW⟩
 ·
  exact ⟨_,_,rfl,rfl,inferInstance,fun w hr _=>LD a (by omega) i hi g w hr⟩
theorem n8 {a:ByteArray} {q:Int→Bool} {i:Nat} (h:i<a.size) (hq:q (bat a i)=true) (hno: ∀ j,j<i→q (bat a j)=false):(ap a).findIdx? q=some i:=by
 rw [P8]
 have hl:=au a
 have hg: ∀ j (hj:j<(ap a).length),(ap a)[j]=bat a j:=fun j hj=>by
  have:=gK (a:=a) (i:=j) (by omega)
  rw [O5 hj] at this
  exact Option.some.inj this
 refine ⟨by omega,by rw [hg];exact hq,fun j hj=> ?_⟩
 rw [hg,hno j hj];simp
theorem mM {a:ByteArray} {q:Int→Bool} (hno: ∀ j,j<a.size→q (bat a j)=false):(ap a).findIdx? q=none:=by
 rw [Qg]
 intro x hx
 obtain ⟨j,hj,rfl⟩:=P1 hx
 have hl:=au a
 have:=gK (a:=a) (i:=j) (by omega)
 rw [O5 hj] at this
 rw [Option.some.inj this]
 exact hno j (by omega)
set_option maxHeartbeats 2000000 in
theorem Iw (a:ByteArray) (w:World) (hW:Words w):
  FnAt Tryz.prog 199 [.string a] w fun v H=> ∃ A cap,v=FP A cap (bw dA (ap a))∧H= [.own A 291 8 (bw dA (ap a)).1.length cap ((bw dA (ap a)).1.flatMap bk)]:=by
 refine aA Tryz.func199 rfl Tryz.ntmps199 rfl ?_
 have hl:=au a
 unfold bw
 refine aK 291 8 ?_
 by_cases hlen:256<(ap a).length
 ·
  rw [if_pos hlen]
  repeat' (first|refine sT ?_|refine sS ?_|refine sT2 ?_|refine sM fun _=> ?_|(refine sC ?_ ?_<;>intro hb<;>try omega)|fail)
  all_goals try (exfalso;omega)
  exact kS (.inl rfl) rfl rfl rfl rfl (.refl _) ⟨none,0,rfl,rfl⟩
 ·
  rw [if_neg hlen]
  repeat' (first|refine sT ?_|refine sS ?_|refine sT2 ?_|refine sM fun _=> ?_|(refine sC ?_ ?_<;>intro hb<;>try omega)|fail)
  all_goals try (exfalso;omega)
  refine ax [0,2,17] rfl (fun i:Nat=> [(18,.int .i64 (i:Int))]) (fun _=> [.own none 291 8 0 0 []]) (fun i=>i≤a.size∧ ∀ j,j<i→bL (bat a j)=true) (fun i=>a.size - i) 0 ⟨by omega,fun j h=>by omega⟩ sB mS ?_
  rintro i ⟨hi,hpl⟩
  by_cases hlt:i<a.size
  ·
   repeat' (first|refine sT ?_|refine sS ?_|refine sT2 ?_|refine sN ?_|refine sM fun _=> ?_|(refine sC ?_ ?_<;>intro hb<;>try omega)|fail)
   ·
    have hf:(ap a).findIdx? (fun c=> !bL c)=some i:=by
     refine n8 hlt ?_ fun j hj=>by rw [hpl j hj];rfl
     simp only [bL,RP,QF,decide_eq_false_iff_not]
     omega
    rw [hf]
    exact kS (.inl rfl) rfl rfl rfl rfl (.refl _) ⟨none,0,rfl,rfl⟩
   ·
    have hf:(ap a).findIdx? (fun c=> !bL c)=some i:=by
     refine n8 hlt ?_ fun j hj=>by rw [hpl j hj];rfl
     simp only [bL,RP,QF,decide_eq_false_iff_not]
     omega
    rw [hf]
    exact kS (.inl rfl) rfl rfl rfl rfl (.refl _) ⟨none,0,rfl,rfl⟩
   ·
    refine ⟨i+1,?_,(by first|omega|(dsimp only;omega)),sB,sB,mS⟩
    refine ⟨hlt,fun j hj=> ?_⟩
    rcases (by omega:j<i∨j=i) with h|rfl
    ·
     exact hpl j h
    ·
     rename_i h1
     simp only [bL,Pm,decide_eq_true_eq]
     omega
  ·
   have e:i=a.size:=by omega
   subst e
   have hf:(ap a).findIdx? (fun c=> !bL c)=none:=mM fun j hj=>by rw [hpl j hj];rfl
   rw [hf]
   dsimp only
   repeat' (first|(apply aj;exact rfl;apply mB;exact rfl)|(apply ux;(iterate 6 exact rfl))|refine sT ?_|refine sS ?_|refine sT2 ?_|refine sN ?_|refine sM fun _=> ?_|(refine sC ?_ ?_<;>intro hb<;>try omega)|fail)
   all_goals try (exfalso;omega)
   rename_i g6 g7
   generalize hT:bo dA (ap a) (ap a).length 0=T
   refine ax [0,6,7] rfl (fun x:Nat × List Tk × Option Nat × Nat=> [(2,sl x.2.2.1 x.2.1.length x.2.2.2),(8,.int .i64 (x.1:Int))]) (fun x=> [.own x.2.2.1 291 8 x.2.1.length x.2.2.2 (x.2.1.flatMap bk),.box g7 336 (Ei.map fun f=>Value.func (.func f) #[.pointer (some ⟨g6,0,none⟩)] #[]),.box g6 334 [.string a]])
    (fun x=>x.1≤a.size∧x.2.1.length≤x.1∧T=(bo dA (ap a) (a.size - x.1) x.1).map (x.2.1++ ·)) (fun x=>a.size - x.1) (0,[],none,0) ⟨by omega,by simp,by rw [← hT,hl];cases bo dA (ap a) a.size 0<;>rfl⟩ sB mS ?_
   rintro ⟨i,toks,A,cap⟩ ⟨hi2,hi3,hi4⟩
   dsimp only at hi2 hi3 hi4 ⊢
   by_cases hlt2:i<a.size
   ·
    obtain ⟨f,hf1⟩: ∃ f,a.size - i=f+1:=⟨a.size - i - 1,by omega⟩
    rw [hf1] at hi4
    simp only [bo] at hi4
    have hdr:=bn hlt2
    generalize hld:(ap a).drop i=ld at hi4 hdr
    rw [hdr] at hi4
    dsimp only at hi4
    by_cases h32:bat a i=32
    ·
     rw [if_pos h32] at hi4
     repeat' (first|refine sT ?_|refine sS ?_|refine sT2 ?_|refine sN ?_|refine sM fun _=> ?_|(refine sC ?_ ?_<;>intro hb<;>try omega)|fail)
     all_goals try (exfalso;omega)
     refine ⟨(i+1,toks,A,cap),?_,(by first|omega|(dsimp only;omega)),sB,sB,mS⟩
     exact ⟨hlt2,by dsimp only;omega,by dsimp only;rw [show a.size - (i+1)=f by omega];exact hi4⟩
    ·
     rw [if_neg h32,← hdr] at hi4
     repeat' (first|refine sT ?_|refine sS ?_|refine sT2 ?_|refine sN ?_|refine sM fun _=> ?_|(refine sC ?_ ?_<;>intro hb<;>try omega)|fail)
     all_goals try (exfalso;omega)
     have hldl:ld.length=a.size - i:=by rw [← hld,Pp,hl]
     refine ax [0,2,6,7,8,57] rfl (fun k:Nat=> [(58,.int .i64 (k:Int))]) (fun _=> [.own A 291 8 toks.length cap (toks.flatMap bk),.box g7 336 (Ei.map fun f=>Value.func (.func f) #[.pointer (some ⟨g6,0,none⟩)] #[]),.box g6 334 [.string a]]) (fun k=>k≤5∧dA ld=mW ld (nJ.drop k)) (fun k=>5 - k) 0 ⟨by omega,rfl⟩ sB mS ?_
     rintro k ⟨hk,hkt⟩
     by_cases hk5:k<5
     ·
      obtain ⟨f2,r,r1,r2,r3,r4⟩:=LI a (by omega) i hlt2 g6 k hk5
      rw [hld] at r4
      rw [r1,mW] at hkt
      cases ho:r ld with
      |none=>
       rw [ho] at hkt r4
       dsimp only at hkt
       repeat' (first|(apply aj;exact rfl;apply nu;exact rfl;exact rfl;exact hk5;exact r2)|(apply rq;exact rfl;exact rfl;exact r3;exact rfl;(intro w' hm;exact r4 w' (Ro.of_box hm pK) (hW.next hm)))|refine sT ?_|refine sS ?_|refine sT2 ?_|refine sN ?_|refine sM fun _=> ?_|(refine sC ?_ ?_<;>intro hb<;>try omega)|fail)
       all_goals try (exfalso;omega)
       refine ⟨k+1,?_,(by first|omega|(dsimp only;omega)),sB,sB,mS⟩
       exact ⟨hk5,hkt⟩
      |some x=>
       obtain ⟨t,m⟩:=x
       rw [ho] at hkt r4
       dsimp only at hkt
       have hfit:=uU ld t m hkt
       rw [hkt] at hi4
       dsimp only at hi4
       have hm0:0<m:=hfit.1
       repeat' (first|(apply aj;exact rfl;apply nu;exact rfl;exact rfl;exact hk5;exact r2)|(apply rq;exact rfl;exact rfl;exact r3;exact rfl;(intro w' hm;exact r4 w' (Ro.of_box hm pK) (hW.next hm)))|(apply aU;(iterate 3 exact rfl);exact pK;exact pK;exact rfl;(simp [bk,Value.oneCell']);omega;(simp only [maxLen];omega);intro g8 c8)|refine sT ?_|refine sS ?_|refine sT2 ?_|refine sN ?_|refine sM fun _=> ?_|(refine sC ?_ ?_<;>intro hb<;>try omega)|fail)
       all_goals try (exfalso;omega)
       refine ⟨(i+m,toks++ [{ t with at_:=(i:Int) }],some g8,c8),⟨by dsimp only;omega,by simp;omega,?_⟩,(by dsimp only;omega),?_,sB,?_⟩
       ·
        dsimp only
        rw [hi4,qj uU f (a.size - (i+m)) f (i+m) (by omega) (by omega) (by omega)]
        cases bo dA (ap a) (a.size - (i+m)) (i+m)<;>simp [Except.map]
       ·
        simp only [O2,O6]
        exact sB
       ·
        simp only [O2,O6,Pj,Pd,Pq,Pa]
        exact mS
     ·
      have e:k=5:=by omega
      subst e
      rw [show mW ld (nJ.drop 5)=none from rfl] at hkt
      rw [hkt] at hi4
      dsimp only [Except.map] at hi4
      rw [hi4]
      refine aK 291 8 ?_
      repeat' (first|refine sT ?_|refine sS ?_|refine sT2 ?_|refine sN ?_|refine sM fun _=> ?_|(refine sC ?_ ?_<;>intro hb<;>try omega)|fail)
      all_goals try (exfalso;omega)
      exact kS (.inl rfl) rfl rfl rfl rfl (H' := [.own none 291 8 0 0 []]) mS ⟨none,0,rfl,rfl⟩
   ·
    have e:i=a.size:=by omega
    subst e
    rw [show a.size - a.size=0 by omega] at hi4
    simp only [bo,Except.map,Pa] at hi4
    rw [hi4]
    repeat' (first|refine sT ?_|refine sS ?_|refine sT2 ?_|refine sN ?_|refine sM fun _=> ?_|(refine sC ?_ ?_<;>intro hb<;>try omega)|fail)
    all_goals try (exfalso;omega)
    exact kS (.inl rfl) rfl rfl rfl rfl (H' := [.own A 291 8 toks.length cap (toks.flatMap bk)]) mS ⟨A,cap,rfl,rfl⟩
end Go.SL
namespace Go.SL
open Go Go.Proofs
attribute [local irreducible] W WL WQ WG WA VOp thn blk bA FnAt FnIn
def du:List ByteArray:= [
 ⟨#[65,66,83]⟩,⟨#[83,73,71,78]⟩,⟨#[73,78,84]⟩,⟨#[84,82,85,78,67]⟩,⟨#[82,79,85,78,68]⟩,
 ⟨#[77,79,68]⟩,⟨#[80,79,87,69,82]⟩,⟨#[83,81,82,84]⟩,⟨#[83,85,77]⟩,⟨#[80,82,79,68,85,67,84]⟩,
 ⟨#[67,79,85,78,84]⟩,⟨#[67,79,85,78,84,65]⟩,⟨#[67,79,85,78,84,66,76,65,78,75]⟩,⟨#[65,86,69,82,65,71,69]⟩,⟨#[77,73,78]⟩,
 ⟨#[77,65,88]⟩,⟨#[77,69,68,73,65,78]⟩,⟨#[76,65,82,71,69]⟩,⟨#[83,77,65,76,76]⟩,⟨#[73,70]⟩,
 ⟨#[65,78,68]⟩,⟨#[79,82]⟩,⟨#[88,79,82]⟩,⟨#[78,79,84]⟩,⟨#[73,70,69,82,82,79,82]⟩,
 ⟨#[73,83,69,82,82,79,82]⟩,⟨#[73,83,66,76,65,78,75]⟩,⟨#[73,83,78,85,77,66,69,82]⟩,⟨#[73,83,84,69,88,84]⟩,⟨#[67,72,79,79,83,69]⟩,
 ⟨#[76,69,78]⟩,⟨#[76,69,70,84]⟩,⟨#[82,73,71,72,84]⟩,⟨#[77,73,68]⟩,⟨#[85,80,80,69,82]⟩,
 ⟨#[76,79,87,69,82]⟩,⟨#[84,82,73,77]⟩,⟨#[67,79,78,67,65,84]⟩,⟨#[82,69,80,84]⟩,⟨#[69,88,65,67,84]⟩,
 ⟨#[70,73,78,68]⟩,⟨#[86,65,76,85,69]⟩,⟨#[73,78,68,69,88]⟩,⟨#[77,65,84,67,72]⟩,⟨#[67,79,85,78,84,73,70]⟩,
 ⟨#[68,83,85,77]⟩,⟨#[68,67,79,85,78,84]⟩,⟨#[68,65,86,71]⟩,⟨#[68,77,73,78]⟩,⟨#[68,77,65,88]⟩]
theorem JU (w:World):aF Tryz.prog 363 [] w (.agg (du.map Value.string).toArray):=by
 refine aA Tryz.func363 rfl Tryz.ntmps363 rfl ?_
 repeat' (first|(apply AR;(iterate 5 exact rfl))|refine sT ?_|refine sT2 ?_|refine sM fun _=> ?_|(refine sC ?_ ?_<;>intro hb<;>try omega)|fail)
 exact Ho (.inl rfl) Tryz.results363 rfl .hd rfl (MSub.nil _) rfl
theorem Ro.str1 {w:World} {g o:Nat} {L:List ByteArray} (h:Ro w g o (L.map Value.string)) (i:Nat) (hi:i<L.length):Ro w g (o+i*1) [Value.string L[i]]:=by
 have h1:=(h.drop (k:=i)).take (k:=1)
 rw [← List.map_drop,← List.map_take,Pf hi] at h1
 rw [QD]
 exact h1
def eu:List ByteArray→ByteArray→Int→Int
 | [],_,_=> -1
 |a::r,s,i=>if s=a then i else eu r s (i+1)
theorem KK (L:List ByteArray) (b:ByteArray) (tv:Value) (w:World) (ht:Reads w tv L.length (L.map Value.string)):aF Tryz.prog 364 [tv,.string b] w (.int .i64 (eu L b 0)):=by
 obtain ⟨Al,cl,rfl,hl1,hl2,hl3⟩:=ht
 refine aA Tryz.func364 rfl Tryz.ntmps364 rfl ?_
 repeat' (first|refine sT ?_|refine sT2 ?_|refine sM fun _=> ?_|(refine sC ?_ ?_<;>intro hb<;>try omega)|fail)
 refine eH (fun i:Nat=> [(0,.slice Al L.length cl),(1,.string b),(7,.int .i64 (L.length:Int)),(8,.int .i64 (i:Int))]) (fun _=> []) (fun i=>i≤L.length∧eu L b 0=eu (L.drop i) b (i:Int)) (fun i=>L.length - i) 0 ⟨by omega,rfl⟩ ?_ ?_ ?_
 ·
  exact sB
 ·
  exact mS
 ·
  rintro i ⟨hi,hrec⟩
  by_cases hlt:i<L.length
  ·
   obtain ⟨gl,ol,rfl,hrl⟩:=hl3 (by omega)
   have he:=hrl.str1 i hlt
   rw [Pf hlt,eu] at hrec
   repeat' (first|(apply aj;exact rfl;apply ag;exact rfl;exact rfl;exact hlt)|(apply aj;exact rfl;apply uJ;exact rfl;exact he)|(apply aj;exact rfl;apply gI;exact rfl;exact rfl;(simp only [maxLen] at*;omega))|refine sT ?_|refine sT2 ?_|refine sM fun _=> ?_|(refine sC ?_ ?_<;>intro hb<;>try omega)|fail)
   ·
    (refine rT1 ?_)
    rw [hrec,if_pos hb]
   ·
    refine ⟨i+1,⟨by omega,?_⟩,by omega,?_,?_⟩
    ·
     rw [hrec,if_neg hb]
     rfl
    ·
     exact sB
    ·
     exact mS
  ·
   have e:i=L.length:=by omega
   subst e
   repeat' (first|refine sT ?_|refine sT2 ?_|refine sM fun _=> ?_|(refine sC ?_ ?_<;>intro hb<;>try omega)|fail)
   (refine rT1 ?_)
   rw [hrec,PT,eu]
theorem jn:du.length=50:=rfl
theorem jp (L:List ByteArray) (b:ByteArray) (i:Int) (h:0≤i):eu L b i= -1∨(i≤eu L b i∧eu L b i<i+L.length):=by
 induction L generalizing i with
 |nil=>exact .inl rfl
 |cons a r ih=>
  unfold eu
  rw [Pe]
  split
  ·
   right;omega
  ·
   rcases ih (i+1) (by omega) with h1|h1
   ·
    exact .inl h1
   ·
    right;omega
def bf (b:ByteArray):Int × Int:=if eu du b 0<0 then (0,6) else (eu du b 0+1,0)
theorem Dq (b:ByteArray) (w:World):aF Tryz.prog 358 [.string b] w (.tuple #[.int .u8 (bf b).1,.int .i64 (bf b).2]):=by
 refine aA Tryz.func358 rfl Tryz.ntmps358 rfl ?_
 have hb1:=jp du b 0 (by omega)
 rw [jn] at hb1
 have hix:=fun w tv (h:Reads w tv (du.map Value.string).length (du.map Value.string))=>KK du b tv w h
 unfold bf
 generalize eu du b 0=r at hb1 hix
 repeat' (first|(apply aa;exact rfl;exact rfl;(intro w hm;exact JU w))|(apply aj;exact rfl;apply Bc;exact rfl)|(apply aa;exact rfl;exact rfl;(intro w' hm;exact hix w' _ (Reads.of_box hm pK rfl)))|(apply aj;exact rfl;apply eC;exact rfl;exact rfl;exact I64.wrap ⟨by omega,by omega⟩)|(apply aj;exact rfl;apply xM;exact rfl;exact fa (by omega) (by omega))|refine sT ?_|refine sT2 ?_|refine sM fun _=> ?_|(refine sC ?_ ?_<;>intro hb<;>try omega)|fail)
 ·
  refine cN (.inl rfl) Tryz.results358 rfl rfl (.nil _) ?_
  rw [if_pos hb]
 ·
  refine cN (.inl rfl) Tryz.results358 rfl rfl (.nil _) ?_
  rw [if_neg (by omega)]
end Go.SL
