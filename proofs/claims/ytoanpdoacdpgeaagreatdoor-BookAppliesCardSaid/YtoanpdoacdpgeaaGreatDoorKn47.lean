/-
  Lemmas and walks, put together: Ud Ui.
-/
import Derived.Test.YtoanpdoacdpgeaaGreatDoorKn37
import Derived.Test.YtoanpdoacdpgeaaGreatDoorKn39
import Derived.Test.YtoanpdoacdpgeaaGreatDoorKn40
import Derived.Test.YtoanpdoacdpgeaaGreatDoorKn43
set_option linter.unusedSimpArgs false
set_option linter.unusedVariables false
set_option maxRecDepth 20000
namespace Go.SL
open Go Go.Proofs
attribute [local irreducible] W WL WQ WG WA WX WLI WR WT WC WE VOp RW thn blk bE scp ba bo bL aP FnIn FnP ceP
theorem uY (r:Rct) (L:List Rl) (lv:Value) (w:World) (hl:Reads w lv L.length (L.flatMap aV)):ay Tryz.prog 148 [.agg (bH r).toArray,lv] w (.int .i64 (eW r L)):=by
 have hR:=fun w=>dP r w
 have hC:=fun (w' :World) (H:List Blk) (hm:Mem w w' H)=>ij 64 L lv w' (hl.of_w0 hm)
 obtain ⟨Al,cl,rfl, -⟩:=hl
 refine aq Tryz.func148 rfl Tryz.ntmps148 rfl ?_
 unfold eW
 generalize iF 64 L=ae at hC ⊢
 cases hr:aI r with
 |false=>
  rw [hr] at hR
  rw [if_pos rfl]
  repeat' (first|(apply aa;exact rfl;exact rfl;(intro w hm;exact hR w))|refine sT ?_|refine sS ?_|refine sM fun _=> ?_|(refine sC ?_ ?_<;>intro hb<;>try omega)|fail)
  all_goals first|(exfalso;omega)|((refine rT1 ?_);rfl)|trace_state
 |true=>
  rw [hr] at hR
  rw [if_neg (by decide)]
  repeat' (first|(apply aa;exact rfl;exact rfl;(intro w hm;exact hR w))|(apply aa (f:=34);exact rfl;exact rfl;(intro w' hm;exact hC w' _ hm))|refine sT ?_|refine sS ?_|refine sM fun _=> ?_|(refine sC ?_ ?_<;>intro hb<;>try omega)|fail)
  all_goals first|(exfalso;omega)|((refine rT1 ?_);rfl)|trace_state
theorem s9 {r:Rct} {L:List Rl} (h:eW r L=0) (f:Rl→BitVec 64):u5 f r L=ja ((xp r L).map fun a=>(L[fL L a]?.map f).getD 0#64):=by
 unfold eW at h
 split at h
 ·
  cases h
 ·
  rename_i hr
  exact (LC (by simpa using hr) fun R hR=>((xV.1 h).2.2.2.2 R hR).1).symm
set_option maxHeartbeats 16000000 in
theorem oN (r:Rct) (L:List Rl) (lv:Value) (w:World) (hl:Reads w lv L.length (L.flatMap aV)):
    ay Tryz.prog 111 [.agg (bH r).toArray,lv] w (.tuple #[.agg #[vS (ovE r L).1.1,vS (ovE r L).1.2.1,vS (ovE r L).1.2.2],.int .i64 (ovE r L).2]):=by
  have hck:=fun (w' :World) (H:List Blk) (hm:Mem w w' H)=>uY r L lv w' (hl.of_w0 hm)
  have hl0:=hl
  obtain ⟨Al,cl,rfl,hl1,hl2,hl3⟩:=hl
  refine aq Tryz.func111 rfl Tryz.ntmps111 rfl ?_
  unfold ovE
  by_cases hc:eW r L≠0
  · rw [if_pos hc]
    repeat' (first|(apply aa (f:=148);exact rfl;exact rfl;(intro w' hm;exact hck w' _ hm))|refine sT ?_|refine sS ?_|refine sM fun _=> ?_|(refine sC ?_ ?_<;>intro hb<;>try omega)|fail)
    all_goals first
      |(exfalso;omega)
      |((refine du ?_);rfl)
      |trace_state
  rw [if_neg hc]
  obtain ⟨hr,hne,hlen⟩:=wy hc
  have hc0:eW r L=0:=by omega
  rw [hc0] at hck
  rw [s9 hc0,s9 hc0,s9 hc0]
  have hacl:(iF 64 L).2=0:=by
    unfold eW at hc0
    rw [if_neg (by rw [hr];decide)] at hc0;exact hc0
  have hall:=fun w=>qu 64 w
  rw [show (df 64).1=BitVec.allOnes 64 by decide+kernel,show (df 64).2=0 by decide+kernel] at hall
  have hP:=fun (w' :World) (H:List Blk) (hm:Mem w w' H)=>sV r L _ w' (hl0.of_w0 hm) hr (fun R hR=>((xV.1 hacl).2.2.2.2 R hR).1) (by omega)
  have hLa:=fun (a:Rf) (w' :World) (H:List Blk) (hm:Mem w w' H)=>xm a L _ w' (hl0.of_w0 hm)
  generalize xp r L=PZ at hP ⊢
  repeat' (first|(apply aa (f:=148);exact rfl;exact rfl;(intro w' hm;exact hck w' _ hm))|(apply aa;exact rfl;exact rfl;(intro w hm;exact hall w))|(apply aC (f:=149);exact rfl;exact rfl;(intro w' hm;exact hP w' _ hm);rintro _ _ ⟨Ap,cp,rfl,rfl⟩)|refine sT ?_|refine sS ?_|refine sM fun _=> ?_|(refine sC ?_ ?_<;>intro hb<;>try omega)|fail)
  all_goals try (exfalso;omega)
  rename_i g2 g4 g9
  refine ax [1,4,9,10] rfl (fun i:Nat=> [(11,.int .i64 (i:Int))]) (fun i=> [.box g9 35 [vS (ja ((PZ.take i).map fun a=>(L[fL L a]?.map (fun x=>x.read)).getD 0#64)),vS (ja ((PZ.take i).map fun a=>(L[fL L a]?.map (fun x=>x.write)).getD 0#64)),vS (ja ((PZ.take i).map fun a=>(L[fL L a]?.map (fun x=>x.own)).getD 0#64))],.own Ap 50 2 PZ.length cp (PZ.flatMap cw),.box g4 35 [vS 0#64,vS 0#64,vS 0#64]]) (fun i=>i≤PZ.length) (fun i=>PZ.length - i) 0 (Ns _) sB mS ?_
  rintro i hi
  try dsimp only at hi ⊢
  refine Gg (A:=Ap) pK fun q1 q2 q3=> ?_
  by_cases hlt:i<PZ.length
  · refine eG (A:=Ap) pK (by omega) fun gp hAp=> ?_
    subst hAp
    have hread:=MZ hlt
    have hstep: ∀ f:Rl→BitVec 64,ja ((PZ.take (i+1)).map fun a=>(L[fL L a]?.map f).getD 0#64)=ja ((PZ.take i).map fun a=>(L[fL L a]?.map f).getD 0#64) &&& ((L[fL L PZ[i]]?.map f).getD 0#64):=fun f=>by
      rw [Nk hlt,Ok,NM,OD,wE]
    have hkl:=HO (a:=PZ[i]) hne
    have hLi:=hLa PZ[i]
    generalize PZ[i]=a at hread hstep hkl hLi
    generalize fL L a=k at hstep hkl hLi
    obtain ⟨gl,ol,rfl,hrl⟩:=hl3 (by omega)
    obtain ⟨_,_,_,_,hrr⟩:=Rl.ro (hrl.elem cI k hkl)
    have hstep: ∀ f:Rl→BitVec 64,ja ((PZ.take (i+1)).map fun a=>(L[fL L a]?.map f).getD 0#64)=ja ((PZ.take i).map fun a=>(L[fL L a]?.map f).getD 0#64) &&& f L[k]:=fun f=>by
      rw [hstep,Nc hkl];rfl
    have s1:=hstep fun x=>x.read
    have s2:=hstep fun x=>x.write
    have s3:=hstep fun x=>x.own
    generalize L[k]=x at hrr s1 s2 s3
    generalize ja ((PZ.take i).map fun a=>(L[fL L a]?.map (fun x=>x.read)).getD 0#64)=o1 at s1 ⊢
    generalize ja ((PZ.take i).map fun a=>(L[fL L a]?.map (fun x=>x.write)).getD 0#64)=o2 at s2 ⊢
    generalize ja ((PZ.take i).map fun a=>(L[fL L a]?.map (fun x=>x.own)).getD 0#64)=o3 at s3 ⊢
    repeat' (first|(apply ak (d:=40);exact rfl;apply aj (j:=i);exact rfl;exact rfl;exact hlt)|(apply ak (d:=41);exact rfl;apply aQ (ys:=cw a);exact rfl;exact pK;exact hread;exact rfl)|(apply aa (f:=150);exact rfl;exact rfl;(intro w' hm;exact hLi w' _ hm))|(apply ak (d:=44);exact rfl;apply aj (j:=k);exact rfl;exact rfl;exact hkl)|(apply ak (d:=46);exact rfl;apply aA;exact rfl;exact hrr;exact rfl)|(apply ak;exact rfl;apply ou;exact rfl;exact rfl)|refine sT ?_|refine sS ?_|refine sN ?_|refine sM fun _=> ?_|(refine sC ?_ ?_<;>intro hb<;>try omega)|fail)
    all_goals first
      |(exfalso;omega)
      | (refine ⟨i + 1, hlt, by omega, by exact sB, by exact sB, ?_⟩
         rw [s1,s2,s3]
         exact mS)
      |trace_state
  · have e:i=PZ.length:=by omega
    subst e
    rw [N0]
    repeat' (first|refine sT ?_|refine sS ?_|refine sN ?_|refine sM fun _=> ?_|(refine sC ?_ ?_<;>intro hb<;>try omega)|fail)
    all_goals first
      |(exfalso;omega)
      |((refine du ?_);rfl)
      |trace_state
set_option maxHeartbeats 16000000 in
theorem uV (step:Int) (x:Ox) (dn:Bool) (L:List Rl) (N:List Gn) (lv nv:Value) (w:World) (hl:Reads w lv L.length (L.flatMap aV)) (hn:Reads w nv N.length (N.flatMap aW)):
    ay Tryz.prog 50 [.int .i64 step,.agg (bi x).toArray,.bool dn,lv,nv] w (.tuple #[.agg (aN (evO step x dn L N).1).toArray,.int .i64 (evO step x dn L N).2]):=by
  have hacl:=fun (w' :World) (H:List Blk) (hm:Mem w w' H)=>ij 64 L lv w' (hl.of_w0 hm)
  have hgnt:=fun (w' :World) (H:List Blk) (hm:Mem w w' H)=>mX 64 N nv w' (hn.of_w0 hm)
  have hov:=fun (r:Rct) (w' :World) (H:List Blk) (hm:Mem w w' H)=>oN r L lv w' (hl.of_w0 hm)
  obtain ⟨Al,cl,rfl,hl1,hl2,hl3⟩:=hl
  obtain ⟨An,cn,rfl,hn1,hn2,hn3⟩:=hn
  refine aq Tryz.func50 rfl Tryz.ntmps50 rfl ?_
  have hop:=fun w=>mW x w
  have hmu:=fun w=>lM x w
  have hus:=fun w=>oP x.user w
  obtain ⟨us,hq⟩: ∃ us,(decide (0≤x.user) && decide (x.user<64))=us:=⟨_,rfl⟩
  have hq2:us=true↔0≤x.user∧x.user<64:=by rw [← hq,Nm,decide_eq_true_eq,decide_eq_true_eq]
  rw [hq] at hus
  clear hq
  unfold evO
  generalize jx x.kind=mk at hmu ⊢
  generalize opE x=oe at hop ⊢
  generalize iF 64 L=ae at hacl ⊢
  generalize kB 64 N=ne at hgnt ⊢
  cases mk with
  |false=>
    rw [if_pos rfl]
    repeat' (first
      |((with_reducible apply aa);exact rfl;exact rfl;(intro w hm;exact hop w))
      |((with_reducible apply aa);exact rfl;exact rfl;(intro w hm;exact hmu w))
      |((with_reducible apply aa);exact rfl;exact rfl;(intro w hm;exact hus w))
      |((with_reducible apply ak);exact rfl;(first|((with_reducible apply Ld);exact rfl)|((with_reducible apply yE);exact rfl)|((with_reducible apply Gx);exact rfl)|((with_reducible apply Gw);exact rfl)|((with_reducible apply dC);exact rfl;(repeat first|exact .hd|apply Sel.tl|apply In.tl);exact rfl)|((with_reducible apply Lj);exact rfl;exact rfl)|((with_reducible apply v_neqb);exact rfl;exact rfl)|((with_reducible apply yA);exact rfl;(repeat first|exact .hd|apply Sel.tl|apply In.tl);exact rfl)|((with_reducible apply yC);exact rfl;(repeat first|exact .hd|apply Sel.tl|apply In.tl);exact rfl;exact rfl)|((with_reducible apply JI);(iterate 3 exact rfl))))
      |((with_reducible apply Jp);exact rfl;exact rfl)
      |((with_reducible apply F9);(iterate 4 exact rfl))
      |((with_reducible apply F8);(iterate 3 exact rfl))
      |((with_reducible apply Jq);exact rfl;exact rfl;intro _)
      |((with_reducible apply Jr);(iterate 3 exact rfl);intro _)
      |((with_reducible apply Gd);exact rfl;intro _)
      |((with_reducible apply uK);exact rfl;exact rfl;(repeat first|exact .hd|apply Sel.tl|apply In.tl);(iterate 3 exact rfl))
      |((with_reducible apply yj);exact rfl;exact rfl;(repeat first|exact .hd|apply Sel.tl|apply In.tl);(iterate 4 exact rfl))
      |((with_reducible apply Ef)<;>first|exact rfl|(intro hb;(replace hb:=Tidy.out hb;try (exfalso;omega))))
      |(with_reducible first|apply ny|apply Mx|apply Me|apply Gi|apply Mf|apply K5|apply K9|apply Jw|apply Mv|apply My|apply MP|apply MN|apply MQ|apply Jt|apply Ju|apply scp_n|apply MB|apply scp_e)
      |((with_reducible apply yw);exact rfl)
      |((with_reducible apply wR);exact rfl)
      |((with_reducible apply Lb)<;>first|exact rfl|(intro hb;(replace hb:=Tidy.out hb;try (exfalso;omega))))
      |((with_reducible apply MM);exact rfl))
    all_goals first|(exfalso;omega)|((first|refine DE (.inl rfl) rfl rfl (by (repeat first|exact .hd|apply Sel.tl|apply In.tl)) rfl rfl (MSub.nil _) ?_|refine DE (.inr rfl) rfl rfl (by (repeat first|exact .hd|apply Sel.tl|apply In.tl)) rfl rfl (MSub.nil _) ?_);rfl)|trace_state
  |true=>
    rw [if_neg (by decide)]
    by_cases h1:step<0∨oe≠0∨x.user<0∨64≤x.user
    · rw [if_pos h1]
      have hq3:us=true→step<0∨oe≠0:=fun h=>by have:=hq2.1 h;omega
      cases us
      all_goals try simp only [forall_const] at hq3
      all_goals
       repeat' (first
         |((with_reducible apply aa);exact rfl;exact rfl;(intro w hm;exact hop w))
         |((with_reducible apply aa);exact rfl;exact rfl;(intro w hm;exact hmu w))
         |((with_reducible apply aa);exact rfl;exact rfl;(intro w hm;exact hus w))
         |((with_reducible apply ak);exact rfl;(first|((with_reducible apply Ld);exact rfl)|((with_reducible apply yE);exact rfl)|((with_reducible apply Gx);exact rfl)|((with_reducible apply Gw);exact rfl)|((with_reducible apply dC);exact rfl;(repeat first|exact .hd|apply Sel.tl|apply In.tl);exact rfl)|((with_reducible apply Lj);exact rfl;exact rfl)|((with_reducible apply v_neqb);exact rfl;exact rfl)|((with_reducible apply yA);exact rfl;(repeat first|exact .hd|apply Sel.tl|apply In.tl);exact rfl)|((with_reducible apply yC);exact rfl;(repeat first|exact .hd|apply Sel.tl|apply In.tl);exact rfl;exact rfl)|((with_reducible apply JI);(iterate 3 exact rfl))))
         |((with_reducible apply Jp);exact rfl;exact rfl)
         |((with_reducible apply F9);(iterate 4 exact rfl))
         |((with_reducible apply F8);(iterate 3 exact rfl))
         |((with_reducible apply Jq);exact rfl;exact rfl;intro _)
         |((with_reducible apply Jr);(iterate 3 exact rfl);intro _)
         |((with_reducible apply Gd);exact rfl;intro _)
         |((with_reducible apply uK);exact rfl;exact rfl;(repeat first|exact .hd|apply Sel.tl|apply In.tl);(iterate 3 exact rfl))
         |((with_reducible apply yj);exact rfl;exact rfl;(repeat first|exact .hd|apply Sel.tl|apply In.tl);(iterate 4 exact rfl))
         |((with_reducible apply Ef)<;>first|exact rfl|(intro hb;(replace hb:=Tidy.out hb;try (exfalso;omega))))
         |(with_reducible first|apply ny|apply Mx|apply Me|apply Gi|apply Mf|apply K5|apply K9|apply Jw|apply Mv|apply My|apply MP|apply MN|apply MQ|apply Jt|apply Ju|apply scp_n|apply MB|apply scp_e)
         |((with_reducible apply yw);exact rfl)
         |((with_reducible apply wR);exact rfl)
         |((with_reducible apply Lb)<;>first|exact rfl|(intro hb;(replace hb:=Tidy.out hb;try (exfalso;omega))))
         |((with_reducible apply MM);exact rfl))
      all_goals first|(exfalso;omega)|((first|refine DE (.inl rfl) rfl rfl (by (repeat first|exact .hd|apply Sel.tl|apply In.tl)) rfl rfl (MSub.nil _) ?_|refine DE (.inr rfl) rfl rfl (by (repeat first|exact .hd|apply Sel.tl|apply In.tl)) rfl rfl (MSub.nil _) ?_);rfl)|trace_state
    rw [if_neg h1]
    have hu1:us=true:=hq2.2 (by omega)
    subst hu1
    clear hq2
    by_cases h2:ae.2≠0
    · rw [if_pos h2]
      repeat' (first
        |((with_reducible apply aa);exact rfl;exact rfl;(intro w hm;exact hop w))
        |((with_reducible apply aa);exact rfl;exact rfl;(intro w hm;exact hmu w))
        |((with_reducible apply aa);exact rfl;exact rfl;(intro w hm;exact hus w))
        |((with_reducible apply aa (f:=34));exact rfl;exact rfl;(intro w' hm;exact hacl w' _ hm))
        |((with_reducible apply ak);exact rfl;(first|((with_reducible apply Ld);exact rfl)|((with_reducible apply yE);exact rfl)|((with_reducible apply Gx);exact rfl)|((with_reducible apply Gw);exact rfl)|((with_reducible apply dC);exact rfl;(repeat first|exact .hd|apply Sel.tl|apply In.tl);exact rfl)|((with_reducible apply Lj);exact rfl;exact rfl)|((with_reducible apply v_neqb);exact rfl;exact rfl)|((with_reducible apply yA);exact rfl;(repeat first|exact .hd|apply Sel.tl|apply In.tl);exact rfl)|((with_reducible apply yC);exact rfl;(repeat first|exact .hd|apply Sel.tl|apply In.tl);exact rfl;exact rfl)|((with_reducible apply JI);(iterate 3 exact rfl))))
        |((with_reducible apply Jp);exact rfl;exact rfl)
        |((with_reducible apply F9);(iterate 4 exact rfl))
        |((with_reducible apply F8);(iterate 3 exact rfl))
        |((with_reducible apply Jq);exact rfl;exact rfl;intro _)
        |((with_reducible apply Jr);(iterate 3 exact rfl);intro _)
        |((with_reducible apply Gd);exact rfl;intro _)
        |((with_reducible apply uK);exact rfl;exact rfl;(repeat first|exact .hd|apply Sel.tl|apply In.tl);(iterate 3 exact rfl))
        |((with_reducible apply yj);exact rfl;exact rfl;(repeat first|exact .hd|apply Sel.tl|apply In.tl);(iterate 4 exact rfl))
        |((with_reducible apply Ef)<;>first|exact rfl|(intro hb;(replace hb:=Tidy.out hb;try (exfalso;omega))))
        |(with_reducible first|apply ny|apply Mx|apply Me|apply Gi|apply Mf|apply K5|apply K9|apply Jw|apply Mv|apply My|apply MP|apply MN|apply MQ|apply Jt|apply Ju|apply scp_n|apply MB|apply scp_e)
        |((with_reducible apply yw);exact rfl)
        |((with_reducible apply wR);exact rfl)
        |((with_reducible apply Lb)<;>first|exact rfl|(intro hb;(replace hb:=Tidy.out hb;try (exfalso;omega))))
        |((with_reducible apply MM);exact rfl))
      all_goals first|(exfalso;omega)|((first|refine DE (.inl rfl) rfl rfl (by (repeat first|exact .hd|apply Sel.tl|apply In.tl)) rfl rfl (MSub.nil _) ?_|refine DE (.inr rfl) rfl rfl (by (repeat first|exact .hd|apply Sel.tl|apply In.tl)) rfl rfl (MSub.nil _) ?_);rfl)|trace_state
    rw [if_neg h2]
    by_cases h3:ne.2≠0
    · rw [if_pos h3]
      repeat' (first
        |((with_reducible apply aa);exact rfl;exact rfl;(intro w hm;exact hop w))
        |((with_reducible apply aa);exact rfl;exact rfl;(intro w hm;exact hmu w))
        |((with_reducible apply aa);exact rfl;exact rfl;(intro w hm;exact hus w))
        |((with_reducible apply aa (f:=34));exact rfl;exact rfl;(intro w' hm;exact hacl w' _ hm))
        |((with_reducible apply aa (f:=64));exact rfl;exact rfl;(intro w' hm;exact hgnt w' _ hm))
        |((with_reducible apply ak);exact rfl;(first|((with_reducible apply Ld);exact rfl)|((with_reducible apply yE);exact rfl)|((with_reducible apply Gx);exact rfl)|((with_reducible apply Gw);exact rfl)|((with_reducible apply dC);exact rfl;(repeat first|exact .hd|apply Sel.tl|apply In.tl);exact rfl)|((with_reducible apply Lj);exact rfl;exact rfl)|((with_reducible apply v_neqb);exact rfl;exact rfl)|((with_reducible apply yA);exact rfl;(repeat first|exact .hd|apply Sel.tl|apply In.tl);exact rfl)|((with_reducible apply yC);exact rfl;(repeat first|exact .hd|apply Sel.tl|apply In.tl);exact rfl;exact rfl)|((with_reducible apply JI);(iterate 3 exact rfl))))
        |((with_reducible apply Jp);exact rfl;exact rfl)
        |((with_reducible apply F9);(iterate 4 exact rfl))
        |((with_reducible apply F8);(iterate 3 exact rfl))
        |((with_reducible apply Jq);exact rfl;exact rfl;intro _)
        |((with_reducible apply Jr);(iterate 3 exact rfl);intro _)
        |((with_reducible apply Gd);exact rfl;intro _)
        |((with_reducible apply uK);exact rfl;exact rfl;(repeat first|exact .hd|apply Sel.tl|apply In.tl);(iterate 3 exact rfl))
        |((with_reducible apply yj);exact rfl;exact rfl;(repeat first|exact .hd|apply Sel.tl|apply In.tl);(iterate 4 exact rfl))
        |((with_reducible apply Ef)<;>first|exact rfl|(intro hb;(replace hb:=Tidy.out hb;try (exfalso;omega))))
        |(with_reducible first|apply ny|apply Mx|apply Me|apply Gi|apply Mf|apply K5|apply K9|apply Jw|apply Mv|apply My|apply MP|apply MN|apply MQ|apply Jt|apply Ju|apply scp_n|apply MB|apply scp_e)
        |((with_reducible apply yw);exact rfl)
        |((with_reducible apply wR);exact rfl)
        |((with_reducible apply Lb)<;>first|exact rfl|(intro hb;(replace hb:=Tidy.out hb;try (exfalso;omega))))
        |((with_reducible apply MM);exact rfl))
      all_goals first|(exfalso;omega)|((first|refine DE (.inl rfl) rfl rfl (by (repeat first|exact .hd|apply Sel.tl|apply In.tl)) rfl rfl (MSub.nil _) ?_|refine DE (.inr rfl) rfl rfl (by (repeat first|exact .hd|apply Sel.tl|apply In.tl)) rfl rfl (MSub.nil _) ?_);rfl)|trace_state
    rw [if_neg h3]
    obtain ⟨sa,has⟩: ∃ sa,sa=ofS x.user:=⟨_,rfl⟩
    have hof: ∀ w',ay Tryz.prog 112 [.int .i64 x.user] w' (vS sa.1):=fun w' =>by
      obtain ⟨m,hm⟩: ∃ m:Nat,x.user=(m:Int):=⟨x.user.toNat,by omega⟩
      have h2:sa.1=1#64<<<m:=by
        rw [has,ofS,if_neg (by omega),hm];rfl
      rw [hm,h2]
      exact pW m (by omega) w'
    rw [← has]
    clear has
    by_cases h9:x.kind=9
    · by_cases h4:x.idx<0∨(N.length:Int)≤x.idx
      · rw [if_pos ⟨h9,h4⟩]
        repeat' (first
          |((with_reducible apply aa);exact rfl;exact rfl;(intro w hm;exact hop w))
          |((with_reducible apply aa);exact rfl;exact rfl;(intro w hm;exact hmu w))
          |((with_reducible apply aa);exact rfl;exact rfl;(intro w hm;exact hus w))
          |((with_reducible apply aa (f:=34));exact rfl;exact rfl;(intro w' hm;exact hacl w' _ hm))
          |((with_reducible apply aa (f:=64));exact rfl;exact rfl;(intro w' hm;exact hgnt w' _ hm))
          |((with_reducible apply ak);exact rfl;(first|((with_reducible apply Ld);exact rfl)|((with_reducible apply yE);exact rfl)|((with_reducible apply Gx);exact rfl)|((with_reducible apply Gw);exact rfl)|((with_reducible apply dC);exact rfl;(repeat first|exact .hd|apply Sel.tl|apply In.tl);exact rfl)|((with_reducible apply Lj);exact rfl;exact rfl)|((with_reducible apply v_neqb);exact rfl;exact rfl)|((with_reducible apply yA);exact rfl;(repeat first|exact .hd|apply Sel.tl|apply In.tl);exact rfl)|((with_reducible apply yC);exact rfl;(repeat first|exact .hd|apply Sel.tl|apply In.tl);exact rfl;exact rfl)|((with_reducible apply JI);(iterate 3 exact rfl))))
          |((with_reducible apply Jp);exact rfl;exact rfl)
          |((with_reducible apply F9);(iterate 4 exact rfl))
          |((with_reducible apply F8);(iterate 3 exact rfl))
          |((with_reducible apply Jq);exact rfl;exact rfl;intro _)
          |((with_reducible apply Jr);(iterate 3 exact rfl);intro _)
          |((with_reducible apply Gd);exact rfl;intro _)
          |((with_reducible apply uK);exact rfl;exact rfl;(repeat first|exact .hd|apply Sel.tl|apply In.tl);(iterate 3 exact rfl))
          |((with_reducible apply yj);exact rfl;exact rfl;(repeat first|exact .hd|apply Sel.tl|apply In.tl);(iterate 4 exact rfl))
          |((with_reducible apply Ef)<;>first|exact rfl|(intro hb;(replace hb:=Tidy.out hb;try (exfalso;omega))))
          |(with_reducible first|apply ny|apply Mx|apply Me|apply Gi|apply Mf|apply K5|apply K9|apply Jw|apply Mv|apply My|apply MP|apply MN|apply MQ|apply Jt|apply Ju|apply scp_n|apply MB|apply scp_e)
          |((with_reducible apply yw);exact rfl)
          |((with_reducible apply wR);exact rfl)
          |((with_reducible apply Lb)<;>first|exact rfl|(intro hb;(replace hb:=Tidy.out hb;try (exfalso;omega))))
          |((with_reducible apply MM);exact rfl))
        all_goals first|(exfalso;omega)|((first|refine DE (.inl rfl) rfl rfl (by (repeat first|exact .hd|apply Sel.tl|apply In.tl)) rfl rfl (MSub.nil _) ?_|refine DE (.inr rfl) rfl rfl (by (repeat first|exact .hd|apply Sel.tl|apply In.tl)) rfl rfl (MSub.nil _) ?_);rfl)|trace_state
      rw [if_neg (fun h=>h4 h.2)]
      obtain ⟨j,hj⟩: ∃ j:Nat,x.idx=(j:Int):=⟨x.idx.toNat,by omega⟩
      have hjl:j<N.length:=by omega
      obtain ⟨gn,on,rfl,hrn⟩:=hn3 (by omega)
      obtain ⟨hrr,_⟩:=Gn.ro (hrn.elem bW j hjl)
      have ht:evT x N=N[j].rect:=by unfold evT;rw [if_pos h9,hj,Ov,Nc hjl];rfl
      rw [ht]
      generalize N[j].rect=t at hrr ⊢
      have hre:=fun w=>dP t w
      have hov' :=hov t
      generalize ovE t L=ov at hov' ⊢
      by_cases h5:aI t=false
      · rw [if_pos h5]
        rw [h5] at hre
        repeat' (first
          |((with_reducible apply aa);exact rfl;exact rfl;(intro w hm;exact hop w))
          |((with_reducible apply aa);exact rfl;exact rfl;(intro w hm;exact hmu w))
          |((with_reducible apply aa);exact rfl;exact rfl;(intro w hm;exact hus w))
          |((with_reducible apply aa);exact rfl;exact rfl;(intro w hm;exact hre w))
          |((with_reducible apply aa (f:=34));exact rfl;exact rfl;(intro w' hm;exact hacl w' _ hm))
          |((with_reducible apply aa (f:=64));exact rfl;exact rfl;(intro w' hm;exact hgnt w' _ hm))
          |((with_reducible apply ak);exact rfl;(with_reducible apply aj (j:=j));exact rfl;(rw [hj];exact rfl);exact hjl)
          |((with_reducible apply ak);exact rfl;(first|((with_reducible apply Ld);exact rfl)|((with_reducible apply yE);exact rfl)|((with_reducible apply Gx);exact rfl)|((with_reducible apply Gw);exact rfl)|((with_reducible apply dC);exact rfl;(repeat first|exact .hd|apply Sel.tl|apply In.tl);exact rfl)|((with_reducible apply Lj);exact rfl;exact rfl)|((with_reducible apply v_neqb);exact rfl;exact rfl)|((with_reducible apply yA);exact rfl;(repeat first|exact .hd|apply Sel.tl|apply In.tl);exact rfl)|((with_reducible apply yC);exact rfl;(repeat first|exact .hd|apply Sel.tl|apply In.tl);exact rfl;exact rfl)|((with_reducible apply JI);(iterate 3 exact rfl))))
          |((with_reducible apply Jp);exact rfl;exact rfl)
          |((with_reducible apply F9);(iterate 4 exact rfl))
          |((with_reducible apply F8);(iterate 3 exact rfl))
          |((with_reducible apply Jq);exact rfl;exact rfl;intro _)
          |((with_reducible apply Jr);(iterate 3 exact rfl);intro _)
          |((with_reducible apply Gd);exact rfl;intro _)
          |((with_reducible apply uK);exact rfl;exact rfl;(repeat first|exact .hd|apply Sel.tl|apply In.tl);(iterate 3 exact rfl))
          |((with_reducible apply yj);exact rfl;exact rfl;(repeat first|exact .hd|apply Sel.tl|apply In.tl);(iterate 4 exact rfl))
          |((with_reducible apply Ef)<;>first|exact rfl|(intro hb;(replace hb:=Tidy.out hb;try (exfalso;omega))))
          |(with_reducible first|apply ny|apply Mx|apply Me|apply Gi|apply Mf|apply K5|apply K9|apply Jw|apply Mv|apply My|apply MP|apply MN|apply MQ|apply Jt|apply Ju|apply scp_n|apply MB|apply scp_e)
          |((with_reducible apply yw);exact rfl)
          |((with_reducible apply wR);exact rfl)
          |((with_reducible apply Lb)<;>first|exact rfl|(intro hb;(replace hb:=Tidy.out hb;try (exfalso;omega))))
          |((with_reducible apply MM);exact rfl)
          |((with_reducible apply ak);exact rfl;(with_reducible apply aj);exact rfl;exact rfl;(first|assumption|omega))
          |((with_reducible apply ak);exact rfl;(with_reducible apply aA);exact rfl;assumption;exact rfl)
          |((with_reducible apply ak);exact rfl;(with_reducible apply dh);exact rfl;assumption)
          |((with_reducible apply ak);exact rfl;(with_reducible apply dB);exact rfl;assumption;exact rfl)
          |((with_reducible apply bZ);(iterate 3 exact rfl);(with_reducible apply aj (j:=j));exact rfl;(rw [hj];exact rfl);exact hjl)
          |((with_reducible apply bZ);(iterate 3 exact rfl);(first|((with_reducible apply Ld);exact rfl)|((with_reducible apply yE);exact rfl)|((with_reducible apply Gx);exact rfl)|((with_reducible apply Gw);exact rfl)|((with_reducible apply dC);exact rfl;(repeat first|exact .hd|apply Sel.tl|apply In.tl);exact rfl)|((with_reducible apply Lj);exact rfl;exact rfl)|((with_reducible apply v_neqb);exact rfl;exact rfl)|((with_reducible apply yA);exact rfl;(repeat first|exact .hd|apply Sel.tl|apply In.tl);exact rfl)|((with_reducible apply yC);exact rfl;(repeat first|exact .hd|apply Sel.tl|apply In.tl);exact rfl;exact rfl)|((with_reducible apply JI);(iterate 3 exact rfl))))
          |((with_reducible apply bZ);(iterate 3 exact rfl);(with_reducible apply aj);exact rfl;exact rfl;(first|assumption|omega))
          |((with_reducible apply bZ);(iterate 3 exact rfl);(with_reducible apply aA);exact rfl;assumption;exact rfl)
          |((with_reducible apply bZ);(iterate 3 exact rfl);(with_reducible apply dh);exact rfl;assumption)
          |((with_reducible apply bZ);(iterate 3 exact rfl);(with_reducible apply dB);exact rfl;assumption;exact rfl)
          |((with_reducible apply K4);(iterate 3 exact rfl))
          |((with_reducible apply wc_gno0);exact rfl)
          |((with_reducible apply MW);exact rfl;exact rfl)
          |((with_reducible apply MV);(iterate 4 exact rfl);(first|((with_reducible apply Ld);exact rfl)|((with_reducible apply yE);exact rfl)|((with_reducible apply Gx);exact rfl)|((with_reducible apply Gw);exact rfl)|((with_reducible apply dC);exact rfl;(repeat first|exact .hd|apply Sel.tl|apply In.tl);exact rfl)|((with_reducible apply Lj);exact rfl;exact rfl)|((with_reducible apply v_neqb);exact rfl;exact rfl)|((with_reducible apply yA);exact rfl;(repeat first|exact .hd|apply Sel.tl|apply In.tl);exact rfl)|((with_reducible apply yC);exact rfl;(repeat first|exact .hd|apply Sel.tl|apply In.tl);exact rfl;exact rfl)|((with_reducible apply JI);(iterate 3 exact rfl))))
          |((with_reducible apply El)<;>first|exact rfl|(intro hb;(replace hb:=Tidy.out hb;try (exfalso;omega))))
          |(with_reducible apply K3)
          |((with_reducible apply FG);(repeat (first|exact MSub.nil _|refine MSub.pick (by (repeat first|exact .hd|apply Sel.tl|apply In.tl)) ?_|exact MSub.refl _|refine MSub.drop .hd ?_))))
        all_goals first|(exfalso;omega)|((first|refine DE (.inl rfl) rfl rfl (by (repeat first|exact .hd|apply Sel.tl|apply In.tl)) rfl rfl (MSub.nil _) ?_|refine DE (.inr rfl) rfl rfl (by (repeat first|exact .hd|apply Sel.tl|apply In.tl)) rfl rfl (MSub.nil _) ?_);rfl)|trace_state
      · rw [if_neg h5]
        rw [show aI _=true from by simpa using h5] at hre
        repeat' (first
          |((with_reducible apply aa);exact rfl;exact rfl;(intro w hm;exact hop w))
          |((with_reducible apply aa);exact rfl;exact rfl;(intro w hm;exact hmu w))
          |((with_reducible apply aa);exact rfl;exact rfl;(intro w hm;exact hus w))
          |((with_reducible apply aa);exact rfl;exact rfl;(intro w hm;exact hre w))
          |((with_reducible apply aa (f:=34));exact rfl;exact rfl;(intro w' hm;exact hacl w' _ hm))
          |((with_reducible apply aa (f:=64));exact rfl;exact rfl;(intro w' hm;exact hgnt w' _ hm))
          |((with_reducible apply aa (f:=111));exact rfl;exact rfl;(intro w' hm;exact hov' w' _ hm))
          |((refine fP (id:=17) [11,14] [] [.box _ 37 _,.box _ 32 _,.box _ 35 _] (by kernel_rfl) (by kernel_rfl) (by kernel_rfl) (by (repeat (first|exact MSub.nil _|refine MSub.pick (by (repeat first|exact .hd|apply Sel.tl|apply In.tl)) ?_|exact MSub.refl _|refine MSub.drop .hd ?_))) ?_))
          |((with_reducible apply aa (f:=112));exact rfl;exact rfl;(intro w' _;exact hof w'))
          |((with_reducible apply ak);exact rfl;(with_reducible apply aj (j:=j));exact rfl;(rw [hj];exact rfl);exact hjl)
          |((with_reducible apply bZ);(iterate 3 exact rfl);(with_reducible apply dg);exact rfl;exact rfl)
          |((with_reducible apply ak);exact rfl;(first|((with_reducible apply Ld);exact rfl)|((with_reducible apply yE);exact rfl)|((with_reducible apply Gx);exact rfl)|((with_reducible apply Gw);exact rfl)|((with_reducible apply dC);exact rfl;(repeat first|exact .hd|apply Sel.tl|apply In.tl);exact rfl)|((with_reducible apply Lj);exact rfl;exact rfl)|((with_reducible apply v_neqb);exact rfl;exact rfl)|((with_reducible apply yA);exact rfl;(repeat first|exact .hd|apply Sel.tl|apply In.tl);exact rfl)|((with_reducible apply yC);exact rfl;(repeat first|exact .hd|apply Sel.tl|apply In.tl);exact rfl;exact rfl)|((with_reducible apply JI);(iterate 3 exact rfl))))
          |((with_reducible apply Jp);exact rfl;exact rfl)
          |((with_reducible apply F9);(iterate 4 exact rfl))
          |((with_reducible apply F8);(iterate 3 exact rfl))
          |((with_reducible apply Jq);exact rfl;exact rfl;intro _)
          |((with_reducible apply Jr);(iterate 3 exact rfl);intro _)
          |((with_reducible apply Gd);exact rfl;intro _)
          |((with_reducible apply uK);exact rfl;exact rfl;(repeat first|exact .hd|apply Sel.tl|apply In.tl);(iterate 3 exact rfl))
          |((with_reducible apply yj);exact rfl;exact rfl;(repeat first|exact .hd|apply Sel.tl|apply In.tl);(iterate 4 exact rfl))
          |((with_reducible apply Ef)<;>first|exact rfl|(intro hb;(replace hb:=Tidy.out hb;try (exfalso;omega))))
          |(with_reducible first|apply ny|apply Mx|apply Me|apply Gi|apply Mf|apply K5|apply K9|apply Jw|apply Mv|apply My|apply MP|apply MN|apply MQ|apply Jt|apply Ju|apply scp_n|apply MB|apply scp_e)
          |((with_reducible apply yw);exact rfl)
          |((with_reducible apply wR);exact rfl)
          |((with_reducible apply Lb)<;>first|exact rfl|(intro hb;(replace hb:=Tidy.out hb;try (exfalso;omega))))
          |((with_reducible apply MM);exact rfl)
          |((with_reducible apply ak);exact rfl;(with_reducible apply aj);exact rfl;exact rfl;(first|assumption|omega))
          |((with_reducible apply ak);exact rfl;(with_reducible apply aA);exact rfl;assumption;exact rfl)
          |((with_reducible apply ak);exact rfl;(with_reducible apply dh);exact rfl;assumption)
          |((with_reducible apply ak);exact rfl;(with_reducible apply dB);exact rfl;assumption;exact rfl)
          |((with_reducible apply bZ);(iterate 3 exact rfl);(with_reducible apply aj (j:=j));exact rfl;(rw [hj];exact rfl);exact hjl)
          |((with_reducible apply bZ);(iterate 3 exact rfl);(first|((with_reducible apply Ld);exact rfl)|((with_reducible apply yE);exact rfl)|((with_reducible apply Gx);exact rfl)|((with_reducible apply Gw);exact rfl)|((with_reducible apply dC);exact rfl;(repeat first|exact .hd|apply Sel.tl|apply In.tl);exact rfl)|((with_reducible apply Lj);exact rfl;exact rfl)|((with_reducible apply v_neqb);exact rfl;exact rfl)|((with_reducible apply yA);exact rfl;(repeat first|exact .hd|apply Sel.tl|apply In.tl);exact rfl)|((with_reducible apply yC);exact rfl;(repeat first|exact .hd|apply Sel.tl|apply In.tl);exact rfl;exact rfl)|((with_reducible apply JI);(iterate 3 exact rfl))))
          |((with_reducible apply bZ);(iterate 3 exact rfl);(with_reducible apply aj);exact rfl;exact rfl;(first|assumption|omega))
          |((with_reducible apply bZ);(iterate 3 exact rfl);(with_reducible apply aA);exact rfl;assumption;exact rfl)
          |((with_reducible apply bZ);(iterate 3 exact rfl);(with_reducible apply dh);exact rfl;assumption)
          |((with_reducible apply bZ);(iterate 3 exact rfl);(with_reducible apply dB);exact rfl;assumption;exact rfl)
          |((with_reducible apply K4);(iterate 3 exact rfl))
          |((with_reducible apply wc_gno0);exact rfl)
          |((with_reducible apply MW);exact rfl;exact rfl)
          |((with_reducible apply MV);(iterate 4 exact rfl);(first|((with_reducible apply Ld);exact rfl)|((with_reducible apply yE);exact rfl)|((with_reducible apply Gx);exact rfl)|((with_reducible apply Gw);exact rfl)|((with_reducible apply dC);exact rfl;(repeat first|exact .hd|apply Sel.tl|apply In.tl);exact rfl)|((with_reducible apply Lj);exact rfl;exact rfl)|((with_reducible apply v_neqb);exact rfl;exact rfl)|((with_reducible apply yA);exact rfl;(repeat first|exact .hd|apply Sel.tl|apply In.tl);exact rfl)|((with_reducible apply yC);exact rfl;(repeat first|exact .hd|apply Sel.tl|apply In.tl);exact rfl;exact rfl)|((with_reducible apply JI);(iterate 3 exact rfl))))
          |((with_reducible apply El)<;>first|exact rfl|(intro hb;(replace hb:=Tidy.out hb;try (exfalso;omega))))
          |(with_reducible apply K3)
          |((with_reducible apply FG);(repeat (first|exact MSub.nil _|refine MSub.pick (by (repeat first|exact .hd|apply Sel.tl|apply In.tl)) ?_|exact MSub.refl _|refine MSub.drop .hd ?_))))
        all_goals first|(exfalso;omega)|((first|refine DE (.inl rfl) rfl rfl (by (repeat first|exact .hd|apply Sel.tl|apply In.tl)) rfl rfl (MSub.nil _) ?_|refine DE (.inr rfl) rfl rfl (by (repeat first|exact .hd|apply Sel.tl|apply In.tl)) rfl rfl (MSub.nil _) ?_);rfl)|trace_state
    · rw [if_neg (fun h=>h9 h.1)]
      have ht:evT x N=x.rect:=by unfold evT;rw [if_neg h9]
      rw [ht]
      have hre:=fun w=>dP x.rect w
      have hov' :=hov x.rect
      generalize ovE x.rect L=ov at hov' ⊢
      by_cases h5:aI x.rect=false
      · rw [if_pos h5]
        rw [h5] at hre
        repeat' (first
          |((with_reducible apply aa);exact rfl;exact rfl;(intro w hm;exact hop w))
          |((with_reducible apply aa);exact rfl;exact rfl;(intro w hm;exact hmu w))
          |((with_reducible apply aa);exact rfl;exact rfl;(intro w hm;exact hus w))
          |((with_reducible apply aa);exact rfl;exact rfl;(intro w hm;exact hre w))
          |((with_reducible apply aa (f:=34));exact rfl;exact rfl;(intro w' hm;exact hacl w' _ hm))
          |((with_reducible apply aa (f:=64));exact rfl;exact rfl;(intro w' hm;exact hgnt w' _ hm))
          |((with_reducible apply ak);exact rfl;(first|((with_reducible apply Ld);exact rfl)|((with_reducible apply yE);exact rfl)|((with_reducible apply Gx);exact rfl)|((with_reducible apply Gw);exact rfl)|((with_reducible apply dC);exact rfl;(repeat first|exact .hd|apply Sel.tl|apply In.tl);exact rfl)|((with_reducible apply Lj);exact rfl;exact rfl)|((with_reducible apply v_neqb);exact rfl;exact rfl)|((with_reducible apply yA);exact rfl;(repeat first|exact .hd|apply Sel.tl|apply In.tl);exact rfl)|((with_reducible apply yC);exact rfl;(repeat first|exact .hd|apply Sel.tl|apply In.tl);exact rfl;exact rfl)|((with_reducible apply JI);(iterate 3 exact rfl))))
          |((with_reducible apply Jp);exact rfl;exact rfl)
          |((with_reducible apply F9);(iterate 4 exact rfl))
          |((with_reducible apply F8);(iterate 3 exact rfl))
          |((with_reducible apply Jq);exact rfl;exact rfl;intro _)
          |((with_reducible apply Jr);(iterate 3 exact rfl);intro _)
          |((with_reducible apply Gd);exact rfl;intro _)
          |((with_reducible apply uK);exact rfl;exact rfl;(repeat first|exact .hd|apply Sel.tl|apply In.tl);(iterate 3 exact rfl))
          |((with_reducible apply yj);exact rfl;exact rfl;(repeat first|exact .hd|apply Sel.tl|apply In.tl);(iterate 4 exact rfl))
          |((with_reducible apply Ef)<;>first|exact rfl|(intro hb;(replace hb:=Tidy.out hb;try (exfalso;omega))))
          |(with_reducible first|apply ny|apply Mx|apply Me|apply Gi|apply Mf|apply K5|apply K9|apply Jw|apply Mv|apply My|apply MP|apply MN|apply MQ|apply Jt|apply Ju|apply scp_n|apply MB|apply scp_e)
          |((with_reducible apply yw);exact rfl)
          |((with_reducible apply wR);exact rfl)
          |((with_reducible apply Lb)<;>first|exact rfl|(intro hb;(replace hb:=Tidy.out hb;try (exfalso;omega))))
          |((with_reducible apply MM);exact rfl)
          |((with_reducible apply ak);exact rfl;(with_reducible apply aj);exact rfl;exact rfl;(first|assumption|omega))
          |((with_reducible apply ak);exact rfl;(with_reducible apply aA);exact rfl;assumption;exact rfl)
          |((with_reducible apply ak);exact rfl;(with_reducible apply dh);exact rfl;assumption)
          |((with_reducible apply ak);exact rfl;(with_reducible apply dB);exact rfl;assumption;exact rfl)
          |((with_reducible apply bZ);(iterate 3 exact rfl);(first|((with_reducible apply Ld);exact rfl)|((with_reducible apply yE);exact rfl)|((with_reducible apply Gx);exact rfl)|((with_reducible apply Gw);exact rfl)|((with_reducible apply dC);exact rfl;(repeat first|exact .hd|apply Sel.tl|apply In.tl);exact rfl)|((with_reducible apply Lj);exact rfl;exact rfl)|((with_reducible apply v_neqb);exact rfl;exact rfl)|((with_reducible apply yA);exact rfl;(repeat first|exact .hd|apply Sel.tl|apply In.tl);exact rfl)|((with_reducible apply yC);exact rfl;(repeat first|exact .hd|apply Sel.tl|apply In.tl);exact rfl;exact rfl)|((with_reducible apply JI);(iterate 3 exact rfl))))
          |((with_reducible apply bZ);(iterate 3 exact rfl);(with_reducible apply aj);exact rfl;exact rfl;(first|assumption|omega))
          |((with_reducible apply bZ);(iterate 3 exact rfl);(with_reducible apply aA);exact rfl;assumption;exact rfl)
          |((with_reducible apply bZ);(iterate 3 exact rfl);(with_reducible apply dh);exact rfl;assumption)
          |((with_reducible apply bZ);(iterate 3 exact rfl);(with_reducible apply dB);exact rfl;assumption;exact rfl)
          |((with_reducible apply K4);(iterate 3 exact rfl))
          |((with_reducible apply wc_gno0);exact rfl)
          |((with_reducible apply MW);exact rfl;exact rfl)
          |((with_reducible apply MV);(iterate 4 exact rfl);(first|((with_reducible apply Ld);exact rfl)|((with_reducible apply yE);exact rfl)|((with_reducible apply Gx);exact rfl)|((with_reducible apply Gw);exact rfl)|((with_reducible apply dC);exact rfl;(repeat first|exact .hd|apply Sel.tl|apply In.tl);exact rfl)|((with_reducible apply Lj);exact rfl;exact rfl)|((with_reducible apply v_neqb);exact rfl;exact rfl)|((with_reducible apply yA);exact rfl;(repeat first|exact .hd|apply Sel.tl|apply In.tl);exact rfl)|((with_reducible apply yC);exact rfl;(repeat first|exact .hd|apply Sel.tl|apply In.tl);exact rfl;exact rfl)|((with_reducible apply JI);(iterate 3 exact rfl))))
          |((with_reducible apply El)<;>first|exact rfl|(intro hb;(replace hb:=Tidy.out hb;try (exfalso;omega))))
          |(with_reducible apply K3)
          |((with_reducible apply FG);(repeat (first|exact MSub.nil _|refine MSub.pick (by (repeat first|exact .hd|apply Sel.tl|apply In.tl)) ?_|exact MSub.refl _|refine MSub.drop .hd ?_))))
        all_goals first|(exfalso;omega)|((first|refine DE (.inl rfl) rfl rfl (by (repeat first|exact .hd|apply Sel.tl|apply In.tl)) rfl rfl (MSub.nil _) ?_|refine DE (.inr rfl) rfl rfl (by (repeat first|exact .hd|apply Sel.tl|apply In.tl)) rfl rfl (MSub.nil _) ?_);rfl)|trace_state
      · rw [if_neg h5]
        rw [show aI _=true from by simpa using h5] at hre
        repeat' (first
          |((with_reducible apply aa);exact rfl;exact rfl;(intro w hm;exact hop w))
          |((with_reducible apply aa);exact rfl;exact rfl;(intro w hm;exact hmu w))
          |((with_reducible apply aa);exact rfl;exact rfl;(intro w hm;exact hus w))
          |((with_reducible apply aa);exact rfl;exact rfl;(intro w hm;exact hre w))
          |((with_reducible apply aa (f:=34));exact rfl;exact rfl;(intro w' hm;exact hacl w' _ hm))
          |((with_reducible apply aa (f:=64));exact rfl;exact rfl;(intro w' hm;exact hgnt w' _ hm))
          |((with_reducible apply aa (f:=111));exact rfl;exact rfl;(intro w' hm;exact hov' w' _ hm))
          |((refine fP (id:=17) [11,14] [] [.box _ 37 _,.box _ 32 _,.box _ 35 _] (by kernel_rfl) (by kernel_rfl) (by kernel_rfl) (by (repeat (first|exact MSub.nil _|refine MSub.pick (by (repeat first|exact .hd|apply Sel.tl|apply In.tl)) ?_|exact MSub.refl _|refine MSub.drop .hd ?_))) ?_))
          |((with_reducible apply aa (f:=112));exact rfl;exact rfl;(intro w' _;exact hof w'))
          |((with_reducible apply bZ);(iterate 3 exact rfl);(with_reducible apply dg);exact rfl;exact rfl)
          |((with_reducible apply ak);exact rfl;(first|((with_reducible apply Ld);exact rfl)|((with_reducible apply yE);exact rfl)|((with_reducible apply Gx);exact rfl)|((with_reducible apply Gw);exact rfl)|((with_reducible apply dC);exact rfl;(repeat first|exact .hd|apply Sel.tl|apply In.tl);exact rfl)|((with_reducible apply Lj);exact rfl;exact rfl)|((with_reducible apply v_neqb);exact rfl;exact rfl)|((with_reducible apply yA);exact rfl;(repeat first|exact .hd|apply Sel.tl|apply In.tl);exact rfl)|((with_reducible apply yC);exact rfl;(repeat first|exact .hd|apply Sel.tl|apply In.tl);exact rfl;exact rfl)|((with_reducible apply JI);(iterate 3 exact rfl))))
          |((with_reducible apply Jp);exact rfl;exact rfl)
          |((with_reducible apply F9);(iterate 4 exact rfl))
          |((with_reducible apply F8);(iterate 3 exact rfl))
          |((with_reducible apply Jq);exact rfl;exact rfl;intro _)
          |((with_reducible apply Jr);(iterate 3 exact rfl);intro _)
          |((with_reducible apply Gd);exact rfl;intro _)
          |((with_reducible apply uK);exact rfl;exact rfl;(repeat first|exact .hd|apply Sel.tl|apply In.tl);(iterate 3 exact rfl))
          |((with_reducible apply yj);exact rfl;exact rfl;(repeat first|exact .hd|apply Sel.tl|apply In.tl);(iterate 4 exact rfl))
          |((with_reducible apply Ef)<;>first|exact rfl|(intro hb;(replace hb:=Tidy.out hb;try (exfalso;omega))))
          |(with_reducible first|apply ny|apply Mx|apply Me|apply Gi|apply Mf|apply K5|apply K9|apply Jw|apply Mv|apply My|apply MP|apply MN|apply MQ|apply Jt|apply Ju|apply scp_n|apply MB|apply scp_e)
          |((with_reducible apply yw);exact rfl)
          |((with_reducible apply wR);exact rfl)
          |((with_reducible apply Lb)<;>first|exact rfl|(intro hb;(replace hb:=Tidy.out hb;try (exfalso;omega))))
          |((with_reducible apply MM);exact rfl)
          |((with_reducible apply ak);exact rfl;(with_reducible apply aj);exact rfl;exact rfl;(first|assumption|omega))
          |((with_reducible apply ak);exact rfl;(with_reducible apply aA);exact rfl;assumption;exact rfl)
          |((with_reducible apply ak);exact rfl;(with_reducible apply dh);exact rfl;assumption)
          |((with_reducible apply ak);exact rfl;(with_reducible apply dB);exact rfl;assumption;exact rfl)
          |((with_reducible apply bZ);(iterate 3 exact rfl);(first|((with_reducible apply Ld);exact rfl)|((with_reducible apply yE);exact rfl)|((with_reducible apply Gx);exact rfl)|((with_reducible apply Gw);exact rfl)|((with_reducible apply dC);exact rfl;(repeat first|exact .hd|apply Sel.tl|apply In.tl);exact rfl)|((with_reducible apply Lj);exact rfl;exact rfl)|((with_reducible apply v_neqb);exact rfl;exact rfl)|((with_reducible apply yA);exact rfl;(repeat first|exact .hd|apply Sel.tl|apply In.tl);exact rfl)|((with_reducible apply yC);exact rfl;(repeat first|exact .hd|apply Sel.tl|apply In.tl);exact rfl;exact rfl)|((with_reducible apply JI);(iterate 3 exact rfl))))
          |((with_reducible apply bZ);(iterate 3 exact rfl);(with_reducible apply aj);exact rfl;exact rfl;(first|assumption|omega))
          |((with_reducible apply bZ);(iterate 3 exact rfl);(with_reducible apply aA);exact rfl;assumption;exact rfl)
          |((with_reducible apply bZ);(iterate 3 exact rfl);(with_reducible apply dh);exact rfl;assumption)
          |((with_reducible apply bZ);(iterate 3 exact rfl);(with_reducible apply dB);exact rfl;assumption;exact rfl)
          |((with_reducible apply K4);(iterate 3 exact rfl))
          |((with_reducible apply wc_gno0);exact rfl)
          |((with_reducible apply MW);exact rfl;exact rfl)
          |((with_reducible apply MV);(iterate 4 exact rfl);(first|((with_reducible apply Ld);exact rfl)|((with_reducible apply yE);exact rfl)|((with_reducible apply Gx);exact rfl)|((with_reducible apply Gw);exact rfl)|((with_reducible apply dC);exact rfl;(repeat first|exact .hd|apply Sel.tl|apply In.tl);exact rfl)|((with_reducible apply Lj);exact rfl;exact rfl)|((with_reducible apply v_neqb);exact rfl;exact rfl)|((with_reducible apply yA);exact rfl;(repeat first|exact .hd|apply Sel.tl|apply In.tl);exact rfl)|((with_reducible apply yC);exact rfl;(repeat first|exact .hd|apply Sel.tl|apply In.tl);exact rfl;exact rfl)|((with_reducible apply JI);(iterate 3 exact rfl))))
          |((with_reducible apply El)<;>first|exact rfl|(intro hb;(replace hb:=Tidy.out hb;try (exfalso;omega))))
          |(with_reducible apply K3)
          |((with_reducible apply FG);(repeat (first|exact MSub.nil _|refine MSub.pick (by (repeat first|exact .hd|apply Sel.tl|apply In.tl)) ?_|exact MSub.refl _|refine MSub.drop .hd ?_))))
        all_goals first|(exfalso;omega)|((first|refine DE (.inl rfl) rfl rfl (by (repeat first|exact .hd|apply Sel.tl|apply In.tl)) rfl rfl (MSub.nil _) ?_|refine DE (.inr rfl) rfl rfl (by (repeat first|exact .hd|apply Sel.tl|apply In.tl)) rfl rfl (MSub.nil _) ?_);rfl)|trace_state
end Go.SL
