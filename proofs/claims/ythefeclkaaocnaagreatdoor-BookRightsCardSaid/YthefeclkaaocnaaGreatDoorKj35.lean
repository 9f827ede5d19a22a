/-
  Lemmas and walks, put together: Oh4 Oh.
-/
import Derived.Test.YthefeclkaaocnaaGreatDoorKj34
set_option linter.unusedSimpArgs false
set_option linter.unusedVariables false
set_option maxRecDepth 20000
namespace Go.SL
open Go Go.Proofs
attribute [local irreducible] W WL WQ WG WA WX WLI WR WT WC WE VOp RW thn blk bG scp bg bi bT aQ FnIn FnP ceP
set_option maxHeartbeats 16000000 in
theorem yN (b:Bk) (x:Bv) (o:Ox) (L:List Rf) (v:Value) (w:World) (h:BRd w b x) (hv:Reads w v L.length (L.flatMap cu)) (hW:Words w) (hs1:jf b=true) (hb0:bkE b=0) (hin: ¬ 300<o.input.size) (hL20: ¬ 20<L.length) (hst:b.step≠1099511627776) (hcs:dh o.kind=true∧(apE b o).2.1=0):ax Tryz.prog 6 [.agg (aW b x).toArray,.agg (bu o).toArray,v] w (.bool true):=by
  obtain ⟨Av,cv,rfl,hv1,hv2,hv3⟩:=hv
  refine aq Tryz.func6 rfl Tryz.ntmps6 rfl ?_
  have hS1:=fun (w' :World) (H:List Blk) (hm:Mem w w' H)=>jY b x w' (h.of_w0 hm)
  have haw:=fun (w' :World) (H:List Blk) (hm:Mem w w' H)=>jX w' (hW.next hm)
  rw [hs1] at hS1
  have hsb:=jC hs1
  have hm1:=mR hs1
  have hC1:=fun (w' :World) (H:List Blk) (hm:Mem w w' H)=>fT b x w' (h.of_w0 hm) hm1.e
  rw [hb0] at hC1
  have hbs:=(dz.1 hb0).s
  have hA:=fun (w' :World) (H:List Blk) (hm:Mem w w' H)=>lJ b x o w' (h.of_w0 hm) (hW.next hm) hm1
  have hap:=(Bu (o:=o) (dz.1 hb0) hst).2
  have hR:=nY (o:=o) (dz.1 hb0) hst
  have hPl:=yC (b:=b) (o:=o)
  have hacl:=kY (dz.1 hb0).r
  rw [hap] at hA
  generalize (apE b o).2.1=cd at hA hR hcs
  generalize (apE b o).2.2.1=pl at hA
  generalize (apE b o).1=P at hA hR hPl
  have hP0:=dz.2 hR.ok
  have hPst:=hR.step
  have hPus:=hR.users
  have hPacl:=kY hR.ok.r
  have hK:=fun (a:Bo) (w' :World) (H:List Blk) (hm:Mem w w' H) (hrd:BRd w' P a.v)=>iF P a.v w' hrd (hW.next hm) (by omega)
  rw [hP0] at hK
  repeat' (first
    |((with_reducible apply dA (d:=3));exact rfl;exact rfl;intro g3)
    |((with_reducible apply dA (d:=4));exact rfl;exact rfl;intro g4)
    |((with_reducible apply dH (d:=7));exact rfl;intro g7)
    |((with_reducible apply aa (d:=29));exact rfl;exact rfl;(intro w' hm;exact hS1 w' _ hm))
    |((with_reducible apply aa (d:=33));exact rfl;exact rfl;(intro w' hm;exact hC1 w' _ hm))
    |((with_reducible apply aG (d:=50));exact rfl;exact rfl;(intro w' hm;exact hA w' _ hm);rintro _ _ ⟨a2,rfl,rfl⟩;unfold bz)
    |((with_reducible apply aa (d:=73));exact rfl;exact rfl;(intro w' hm;exact hK a2 w' _ hm (BRd.of_rows hm (by (repeat first|exact .hd|apply Sel.tl|apply In.tl)) (by (repeat first|exact .hd|apply Sel.tl|apply In.tl)) (by (repeat first|exact .hd|apply Sel.tl|apply In.tl)) (by (repeat first|exact .hd|apply Sel.tl|apply In.tl)) (by (repeat first|exact .hd|apply Sel.tl|apply In.tl)))))
    |((with_reducible apply ak (d:=81));exact rfl;(with_reducible apply dw);exact rfl;exact rfl;exact ⟨by omega,by omega⟩)
    |((with_reducible apply aa (d:=96));exact rfl;exact rfl;(intro w' hm;exact kB hR.rels (Reads.of_own (A:=a2.s) hm (by (repeat first|exact .hd|apply Sel.tl|apply In.tl))) (h.of_w0 hm).s))
    |(refine lM (id:=8) [2,3,4,7,8] rfl (fun y:Bool=> [(11,.bool y)]) (fun y=>y=dh o.kind) ?_ ?_)
    |((with_reducible apply bf (i:=true))<;>first|(apply KG;omega)|((repeat (first|exact Sub.nil _|refine Sub.cons rfl ?_));done)|((repeat (first|exact MSub.nil _|refine MSub.pick (by (repeat first|exact .hd|apply Sel.tl|apply In.tl)) ?_|exact MSub.refl _|refine MSub.drop .hd ?_));done))
    |((with_reducible apply bf (i:=decide (o.kind=9)))<;>first|(apply KH<;>omega)|((repeat (first|exact Sub.nil _|refine Sub.cons rfl ?_));done)|((repeat (first|exact MSub.nil _|refine MSub.pick (by (repeat first|exact .hd|apply Sel.tl|apply In.tl)) ?_|exact MSub.refl _|refine MSub.drop .hd ?_));done))
    |((with_reducible apply ak);exact rfl;(first|((with_reducible apply jd);exact rfl)|((with_reducible apply cA);exact rfl)|((with_reducible apply mz);exact rfl)|((with_reducible apply ij);exact rfl)|((with_reducible apply bM);exact rfl;(repeat first|exact .hd|apply Sel.tl|apply In.tl);exact rfl)|((with_reducible apply je);exact rfl;exact rfl)|((with_reducible apply ic);exact rfl;exact rfl)|((with_reducible apply cw);exact rfl;(repeat first|exact .hd|apply Sel.tl|apply In.tl);exact rfl)|((with_reducible apply cy);exact rfl;(repeat first|exact .hd|apply Sel.tl|apply In.tl);exact rfl;exact rfl)|((with_reducible apply f4);exact rfl;exact rfl;exact rfl)|((with_reducible apply jZ);exact rfl;exact rfl;exact rfl)))
    |((with_reducible apply iH);exact rfl;exact rfl)
    |((with_reducible apply fO);exact rfl;exact rfl;exact rfl;exact rfl)
    |((with_reducible apply fN);exact rfl;exact rfl;exact rfl)
    |((with_reducible apply dA);exact rfl;exact rfl;intro _)
    |((with_reducible apply iI);exact rfl;exact rfl;exact rfl;intro _)
    |((with_reducible apply dH);exact rfl;intro _)
    |((with_reducible apply bY);exact rfl;exact rfl;(repeat first|exact .hd|apply Sel.tl|apply In.tl);exact rfl;exact rfl;exact rfl)
    |((with_reducible apply dm);exact rfl;exact rfl;(repeat first|exact .hd|apply Sel.tl|apply In.tl);exact rfl;exact rfl;exact rfl;exact rfl)
    |((with_reducible apply eE)<;>first|exact rfl|(intro hb;(replace hb:=Tidy.out hb;try (exfalso;omega))))
    |(with_reducible first|apply jJ|apply oG|apply oD|apply fP|apply oE|apply kG|apply kH|apply iL|apply oF|apply oH|apply oV|apply oU|apply oW|apply cut_r|apply cut_e|apply iJ|apply iK|apply scp_n|apply oJ|apply scp_e)
    |((with_reducible apply dq);exact rfl)
    |((with_reducible apply cM);exact rfl)
    |((with_reducible apply kI)<;>first|exact rfl|(intro hb;(replace hb:=Tidy.out hb;try (exfalso;omega))))
    |((with_reducible apply oT);exact rfl)
    |((with_reducible apply bf (i:=()))<;>first|exact trivial|((repeat (first|exact Sub.nil _|refine Sub.cons rfl ?_));done)|((repeat (first|exact MSub.nil _|refine MSub.pick (by (repeat first|exact .hd|apply Sel.tl|apply In.tl)) ?_|exact MSub.refl _|refine MSub.drop .hd ?_));done)))
  all_goals try (exfalso;omega)
  rintro _ rfl
  refine y5 (A:=a2.l) (by (repeat first|exact .hd|apply Sel.tl|apply In.tl)) fun _ hc1 hc2=> ?_
  obtain ⟨ev,hev1,hev2,hev3⟩:=hR.log
  have hll:b.log.length≤P.log.length:=by rw [hev3];split<;>simp
  have hcl:b.log.length≤a2.cl:=by omega
  have htk:(P.log.flatMap aL).take (b.log.length*9)=b.log.flatMap aL:=by
    rw [hev3]
    split
    · rw [NR];exact QC (aI bw b.log)
    · exact N9 (by rw [aI bw b.log];omega)
  have hlg:(cd=0∨cd=5)∧dh o.kind=true:=⟨.inl hcs.2,hcs.1⟩
  rw [if_pos hlg] at hev3
  have hln:P.log.length=b.log.length+1:=by rw [hev3];simp
  have hget:P.log[b.log.length]? =some ev:=by rw [hev3];simp
  obtain ⟨hlt,hget⟩:=NV.1 hget
  have hdn:(P.log.flatMap aL)[0+b.log.length*9+7]? =some (.bool (decide (cd=0))):=by
    rw [N7,jG bw P.log _ 7 hlt (by decide),hget]
    show some (Value.bool ev.done)=_
    rw [hev1]
  have hsn:(P.log.flatMap aL)[0+b.log.length*9+0]? =some (.int .i64 b.step):=by
    rw [N7,jG bw P.log _ 0 hlt (by decide),hget]
    show some (Value.int .i64 ev.step)=_
    rw [hev2]
  clear hev1 hev2 hev3 hget
  obtain ⟨hcd,hmk⟩:=hlg
  rw [hmk]
  refine gx (A:=a2.l) (by (repeat first|exact .hd|apply Sel.tl|apply In.tl)) (by omega) fun gl hA2=> ?_
  obtain ⟨ae,ar,ag,al,as_,ce,cr,cg,cl,cs⟩:=a2
  subst hA2
  dsimp only at hcl hc1 hc2
  have hc0:cd=0:=hcs.2
  subst hc0
  have hk9:=ni.1 hmk
  obtain ⟨hu0,hu1⟩:=hR.user rfl
  obtain ⟨m,hm⟩: ∃ m:Nat,o.user=(m:Int):=⟨o.user.toNat,by omega⟩
  have hm64:m<64:=by omega
  have hov:o.kind≠9→(ovE o.rect b.rules).2=0:=fun hk=>by rw [Iv hacl (hR.rect rfl (by omega))]
  have hz2:(o.kind=3∨o.kind=4)→decide ((ovE o.rect b.rules).1.2.1>>>m &&& 1#64=0#64)=false:=fun hk=>by
    have h1:=hR.maySet rfl hk
    unfold eU at h1
    simp only [NK] at h1
    rw [hm,OZ] at h1
    rw [Bl,h1.2];rfl
  have hz3:(o.kind=7∨o.kind=8)→decide ((ovE o.rect b.rules).1.2.2>>>m &&& 1#64=0#64)=false:=fun hk=>by
    have h1:=hR.mayOwn rfl hk
    unfold eU at h1
    simp only [NK] at h1
    rw [hm,OZ] at h1
    rw [Bl,h1.2];rfl
  have hov1:=fun (w' :World) (H:List Blk) (hm:Mem w w' H)=>yF o.rect b.rules _ w' (h.of_w0 hm).r
  generalize ovE o.rect b.rules=ov at hov hz2 hz3 hov1
  obtain ⟨⟨ov1,ov2,ov3⟩,ove⟩:=ov
  dsimp only at hov hz2 hz3 hov1
  repeat' (first
    |((refine dX (id:=12) [18] [] [.box g7 28 (aW P (Bo.v ⟨ae,ar,ag,some gl,as_,ce,cr,cg,cl,cs⟩)),.box g3 28 (aW b x)] (by kernel_rfl) (by kernel_rfl) (by kernel_rfl) (by (repeat (first|exact MSub.nil _|refine MSub.pick (by (repeat first|exact .hd|apply Sel.tl|apply In.tl)) ?_|exact MSub.refl _|refine MSub.drop .hd ?_))) ?_))
    |((with_reducible apply cC (d:=138));exact rfl;exact rfl;exact rfl;(with_reducible apply dw);exact rfl;exact rfl;exact ⟨by omega,by omega⟩)
    |((with_reducible apply cC (d:=146));exact rfl;exact rfl;exact rfl;(with_reducible apply mG (A:=some gl) (hi:=b.log.length));exact rfl;exact rfl;exact hcl)
    |((with_reducible apply pE (d:=149));exact rfl;exact rfl;exact rfl;exact rfl;(intro w' hm;exact mo (A:=some gl) hm (by (repeat first|exact .hd|apply Sel.tl|apply In.tl)) hll htk (h.of_w0 hm).l))
    |((refine dX (id:=14) [] [] [.box g7 28 (aW P (Bo.v ⟨ae,ar,ag,some gl,as_,ce,cr,cg,cl,cs⟩)),.box g3 28 (aW b x),.own (some gl) 48 9 P.log.length cl (P.log.flatMap aL)] (by kernel_rfl) (by kernel_rfl) (by kernel_rfl) (by (repeat (first|exact MSub.nil _|refine MSub.pick (by (repeat first|exact .hd|apply Sel.tl|apply In.tl)) ?_|exact MSub.refl _|refine MSub.drop .hd ?_))) ?_))
    |((with_reducible apply cC (d:=160));exact rfl;exact rfl;exact rfl;(with_reducible apply aj (j:=b.log.length));exact rfl;exact rfl;exact hlt)
    |((with_reducible apply cC (d:=162));exact rfl;exact rfl;exact rfl;(with_reducible apply bF);exact rfl;(repeat first|exact .hd|apply Sel.tl|apply In.tl);exact hdn)
    |((with_reducible apply cC (d:=165));exact rfl;exact rfl;exact rfl;(with_reducible apply pH);exact rfl;exact rfl)
    |((with_reducible apply cC (d:=172));exact rfl;exact rfl;exact rfl;(with_reducible apply aj (j:=b.log.length));exact rfl;exact rfl;exact hlt)
    |((with_reducible apply cC (d:=174));exact rfl;exact rfl;exact rfl;(with_reducible apply bF);exact rfl;(repeat first|exact .hd|apply Sel.tl|apply In.tl);exact hsn)
    |((refine lM (id:=18) [2,3,4,7] rfl (fun y:Bool × Bool=> [(13,.bool y.1),(14,.bool y.2)]) (fun y=>y.1=decide (o.kind=3∨o.kind=4)∧y.2=decide (o.kind=7∨o.kind=8)) ?_ ?_))
    |((refine dX (id:=18) [] [] [.box g4 41 (bu o)] (by kernel_rfl) (by kernel_rfl) (by kernel_rfl) (by (repeat (first|exact MSub.nil _|refine MSub.pick (by (repeat first|exact .hd|apply Sel.tl|apply In.tl)) ?_|exact MSub.refl _|refine MSub.drop .hd ?_))) ?_))
    |((with_reducible apply bf (i:=(true,decide (o.kind=8))))<;>first|(refine ⟨?_,?_⟩<;>(dsimp only;rw [Bool.eq_iff_iff];simp only [decide_eq_true_eq,true_iff];omega))|((repeat (first|exact Sub.nil _|refine Sub.cons rfl ?_));done)|((repeat (first|exact MSub.nil _|refine MSub.pick (by (repeat first|exact .hd|apply Sel.tl|apply In.tl)) ?_|exact MSub.refl _|refine MSub.drop .hd ?_));done))
    |((with_reducible apply bf (i:=(decide (o.kind=4),true)))<;>first|(refine ⟨?_,?_⟩<;>(dsimp only;rw [Bool.eq_iff_iff];simp only [decide_eq_true_eq,true_iff];omega))|((repeat (first|exact Sub.nil _|refine Sub.cons rfl ?_));done)|((repeat (first|exact MSub.nil _|refine MSub.pick (by (repeat first|exact .hd|apply Sel.tl|apply In.tl)) ?_|exact MSub.refl _|refine MSub.drop .hd ?_));done))
    |((with_reducible apply bf (i:=(decide (o.kind=4),decide (o.kind=8))))<;>first|(refine ⟨?_,?_⟩<;>(dsimp only;rw [Bool.eq_iff_iff];simp only [decide_eq_true_eq,true_iff];omega))|((repeat (first|exact Sub.nil _|refine Sub.cons rfl ?_));done)|((repeat (first|exact MSub.nil _|refine MSub.pick (by (repeat first|exact .hd|apply Sel.tl|apply In.tl)) ?_|exact MSub.refl _|refine MSub.drop .hd ?_));done))
    |((with_reducible apply ak);exact rfl;(first|((with_reducible apply jd);exact rfl)|((with_reducible apply cA);exact rfl)|((with_reducible apply mz);exact rfl)|((with_reducible apply ij);exact rfl)|((with_reducible apply bM);exact rfl;(repeat first|exact .hd|apply Sel.tl|apply In.tl);exact rfl)|((with_reducible apply je);exact rfl;exact rfl)|((with_reducible apply ic);exact rfl;exact rfl)|((with_reducible apply cw);exact rfl;(repeat first|exact .hd|apply Sel.tl|apply In.tl);exact rfl)|((with_reducible apply cy);exact rfl;(repeat first|exact .hd|apply Sel.tl|apply In.tl);exact rfl;exact rfl)|((with_reducible apply f4);exact rfl;exact rfl;exact rfl)|((with_reducible apply jZ);exact rfl;exact rfl;exact rfl)))
    |((with_reducible apply iH);exact rfl;exact rfl)
    |((with_reducible apply fO);exact rfl;exact rfl;exact rfl;exact rfl)
    |((with_reducible apply fN);exact rfl;exact rfl;exact rfl)
    |((with_reducible apply dA);exact rfl;exact rfl;intro _)
    |((with_reducible apply iI);exact rfl;exact rfl;exact rfl;intro _)
    |((with_reducible apply dH);exact rfl;intro _)
    |((with_reducible apply bY);exact rfl;exact rfl;(repeat first|exact .hd|apply Sel.tl|apply In.tl);exact rfl;exact rfl;exact rfl)
    |((with_reducible apply dm);exact rfl;exact rfl;(repeat first|exact .hd|apply Sel.tl|apply In.tl);exact rfl;exact rfl;exact rfl;exact rfl)
    |((with_reducible apply eE)<;>first|exact rfl|(intro hb;(replace hb:=Tidy.out hb;try (exfalso;omega))))
    |(with_reducible first|apply jJ|apply oG|apply oD|apply fP|apply oE|apply kG|apply kH|apply iL|apply oF|apply oH|apply oV|apply oU|apply oW|apply cut_r|apply cut_e|apply iJ|apply iK|apply scp_n|apply oJ|apply scp_e)
    |((with_reducible apply dq);exact rfl)
    |((with_reducible apply cM);exact rfl)
    |((with_reducible apply kI)<;>first|exact rfl|(intro hb;(replace hb:=Tidy.out hb;try (exfalso;omega))))
    |((with_reducible apply oT);exact rfl)
    |((with_reducible apply bf (i:=()))<;>first|exact trivial|((repeat (first|exact Sub.nil _|refine Sub.cons rfl ?_));done)|((repeat (first|exact MSub.nil _|refine MSub.pick (by (repeat first|exact .hd|apply Sel.tl|apply In.tl)) ?_|exact MSub.refl _|refine MSub.drop .hd ?_));done))
    |((with_reducible apply cC);exact rfl;exact rfl;exact rfl;(first|((with_reducible apply jd);exact rfl)|((with_reducible apply cA);exact rfl)|((with_reducible apply mz);exact rfl)|((with_reducible apply ij);exact rfl)|((with_reducible apply bM);exact rfl;(repeat first|exact .hd|apply Sel.tl|apply In.tl);exact rfl)|((with_reducible apply je);exact rfl;exact rfl)|((with_reducible apply ic);exact rfl;exact rfl)|((with_reducible apply cw);exact rfl;(repeat first|exact .hd|apply Sel.tl|apply In.tl);exact rfl)|((with_reducible apply cy);exact rfl;(repeat first|exact .hd|apply Sel.tl|apply In.tl);exact rfl;exact rfl)|((with_reducible apply f4);exact rfl;exact rfl;exact rfl)|((with_reducible apply jZ);exact rfl;exact rfl;exact rfl)))
    |((with_reducible apply G0);exact rfl;exact rfl;exact rfl)
    |((with_reducible apply wc_gno0);exact rfl)
    |((with_reducible apply MH);exact rfl;exact rfl)
    |((with_reducible apply MG);exact rfl;exact rfl;exact rfl;exact rfl;(first|((with_reducible apply jd);exact rfl)|((with_reducible apply cA);exact rfl)|((with_reducible apply mz);exact rfl)|((with_reducible apply ij);exact rfl)|((with_reducible apply bM);exact rfl;(repeat first|exact .hd|apply Sel.tl|apply In.tl);exact rfl)|((with_reducible apply je);exact rfl;exact rfl)|((with_reducible apply ic);exact rfl;exact rfl)|((with_reducible apply cw);exact rfl;(repeat first|exact .hd|apply Sel.tl|apply In.tl);exact rfl)|((with_reducible apply cy);exact rfl;(repeat first|exact .hd|apply Sel.tl|apply In.tl);exact rfl;exact rfl)|((with_reducible apply f4);exact rfl;exact rfl;exact rfl)|((with_reducible apply jZ);exact rfl;exact rfl;exact rfl)))
    |((with_reducible apply v7)<;>first|exact rfl|(intro hb;(replace hb:=Tidy.out hb;try (exfalso;omega))))
    |(with_reducible apply GZ)
    |((with_reducible apply JG);(repeat (first|exact MSub.nil _|refine MSub.pick (by (repeat first|exact .hd|apply Sel.tl|apply In.tl)) ?_|exact MSub.refl _|refine MSub.drop .hd ?_))))
  all_goals try (exfalso;omega)
  rintro ⟨y1,y2⟩ ⟨e1,e2⟩
  dsimp only at e1 e2
  subst e1 e2
  dsimp only
  have hRe:=fun (h3: ¬ (o.kind=3∨o.kind=4))=>hR.ents (fun e=>h3 (.inl e)) (fun e=>h3 (.inr e))
  repeat' (first
    |((refine Ea (id:=19) [2,3,4,7,13,14] rfl ?_ ?_))
    |((refine Ea (id:=23) [2,3,4,7] rfl ?_ ?_))
    |((with_reducible apply aa (d:=233));exact rfl;exact rfl;(intro w' hm;exact hov1 w' _ hm))
    |((with_reducible apply ak (d:=245));exact rfl;(with_reducible apply bI (c:=(m:Int)));exact rfl;(simp only [IntKind.wrap_u64];omega))
    |((with_reducible apply ak (d:=246));exact rfl;(with_reducible apply xC (a:=ov2) (m:=m));exact rfl;exact rfl;omega)
    |((with_reducible apply ak (d:=247));exact rfl;(with_reducible apply G8);exact rfl;exact rfl)
    |((with_reducible apply ak (d:=248));exact rfl;(with_reducible apply tI);exact hz2 (by assumption);exact rfl;exact rfl)
    |((with_reducible apply ak (d:=258));exact rfl;(with_reducible apply bI (c:=(m:Int)));exact rfl;(simp only [IntKind.wrap_u64];omega))
    |((with_reducible apply ak (d:=259));exact rfl;(with_reducible apply xC (a:=ov3) (m:=m));exact rfl;exact rfl;omega)
    |((with_reducible apply ak (d:=260));exact rfl;(with_reducible apply G8);exact rfl;exact rfl)
    |((with_reducible apply ak (d:=261));exact rfl;(with_reducible apply tI);exact hz3 (by assumption);exact rfl;exact rfl)
    |((with_reducible apply aa (d:=271));exact rfl;exact rfl;(intro w' hm;exact kE (hRe (by assumption)) (Reads.of_own (A:=ae) hm (by (repeat first|exact .hd|apply Sel.tl|apply In.tl))) (h.of_w0 hm).e))
    |((with_reducible apply aa (d:=283));exact rfl;exact rfl;(intro w' hm;exact kC (hR.rules (by omega)) (Reads.of_own (A:=ar) hm (by (repeat first|exact .hd|apply Sel.tl|apply In.tl))) (h.of_w0 hm).r))
    |((with_reducible apply aa (d:=299));exact rfl;exact rfl;(intro w' hm;exact kD (hR.grants (by omega)) (Reads.of_own (A:=ag) hm (by (repeat first|exact .hd|apply Sel.tl|apply In.tl))) (h.of_w0 hm).g))
    |((with_reducible apply ak);exact rfl;(first|((with_reducible apply jd);exact rfl)|((with_reducible apply cA);exact rfl)|((with_reducible apply mz);exact rfl)|((with_reducible apply ij);exact rfl)|((with_reducible apply bM);exact rfl;(repeat first|exact .hd|apply Sel.tl|apply In.tl);exact rfl)|((with_reducible apply je);exact rfl;exact rfl)|((with_reducible apply ic);exact rfl;exact rfl)|((with_reducible apply cw);exact rfl;(repeat first|exact .hd|apply Sel.tl|apply In.tl);exact rfl)|((with_reducible apply cy);exact rfl;(repeat first|exact .hd|apply Sel.tl|apply In.tl);exact rfl;exact rfl)|((with_reducible apply f4);exact rfl;exact rfl;exact rfl)|((with_reducible apply jZ);exact rfl;exact rfl;exact rfl)))
    |((with_reducible apply iH);exact rfl;exact rfl)
    |((with_reducible apply fO);exact rfl;exact rfl;exact rfl;exact rfl)
    |((with_reducible apply fN);exact rfl;exact rfl;exact rfl)
    |((with_reducible apply dA);exact rfl;exact rfl;intro _)
    |((with_reducible apply iI);exact rfl;exact rfl;exact rfl;intro _)
    |((with_reducible apply dH);exact rfl;intro _)
    |((with_reducible apply bY);exact rfl;exact rfl;(repeat first|exact .hd|apply Sel.tl|apply In.tl);exact rfl;exact rfl;exact rfl)
    |((with_reducible apply dm);exact rfl;exact rfl;(repeat first|exact .hd|apply Sel.tl|apply In.tl);exact rfl;exact rfl;exact rfl;exact rfl)
    |((with_reducible apply eE)<;>first|exact rfl|(intro hb;(replace hb:=Tidy.out hb;try (exfalso;omega))))
    |(with_reducible first|apply jJ|apply oG|apply oD|apply fP|apply oE|apply kG|apply kH|apply iL|apply oF|apply oH|apply oV|apply oU|apply oW|apply cut_r|apply cut_e|apply iJ|apply iK|apply scp_n|apply oJ|apply scp_e)
    |((with_reducible apply dq);exact rfl)
    |((with_reducible apply cM);exact rfl)
    |((with_reducible apply kI)<;>first|exact rfl|(intro hb;(replace hb:=Tidy.out hb;try (exfalso;omega))))
    |((with_reducible apply oT);exact rfl)
    |((with_reducible apply bf (i:=()))<;>first|exact trivial|((repeat (first|exact Sub.nil _|refine Sub.cons rfl ?_));done)|((repeat (first|exact MSub.nil _|refine MSub.pick (by (repeat first|exact .hd|apply Sel.tl|apply In.tl)) ?_|exact MSub.refl _|refine MSub.drop .hd ?_));done)))
  all_goals try (exfalso;omega)
  refine ay [2,3,4,7] rfl (fun i:Nat=> [(17,.int .i64 (i:Int))]) (fun _=> .box g7 28 (aW P (Bo.v ⟨ae,ar,ag,some gl,as_,ce,cr,cg,cl,cs⟩)):: .box g4 41 (bu o):: .box g3 28 (aW b x)::bz P ⟨ae,ar,ag,some gl,as_,ce,cr,cg,cl,cs⟩) (fun i=>i≤L.length) (fun i=>L.length - i) 0 (NY _) (by (repeat (first|exact Sub.nil _|refine Sub.cons rfl ?_))) (by unfold bz;(repeat (first|exact MSub.nil _|refine MSub.pick (by (repeat first|exact .hd|apply Sel.tl|apply In.tl)) ?_|exact MSub.refl _|refine MSub.drop .hd ?_))) ?_
  intro i hi
  unfold bz
  by_cases hlt:i<L.length
  · obtain ⟨ga,oa,rfl,hra⟩:=hv3 (by omega)
    have he:=hra.elem Ba i hlt
    generalize L[i]=a at he
    have hva:a.valid=true↔1≤a.col∧a.col≤1024∧1≤a.row∧a.row≤1024:=qC
    by_cases hv:a.valid=true
    · have hv2:=hva.1 hv
      have hI1:=fun (w' :World) (H:List Blk) (hm:Mem w w' H)=>pw b x a w' (h.of_w0 hm) (hW.next hm) hm1.e
      have hI2:=fun (w' :World) (H:List Blk) (hm:Mem w w' H) (hrd:BRd w' P (Bo.v ⟨ae,ar,ag,some gl,as_,ce,cr,cg,cl,cs⟩))=>pw P _ a w' hrd (hW.next hm) (by omega)
      have hR1:=fun (w' :World) (H:List Blk) (hm:Mem w w' H)=>EY a b.rules _ w' (h.of_w0 hm).r
      have hR2:=fun (w' :World) (H:List Blk) (hm:Mem w w' H) (hrd:BRd w' P (Bo.v ⟨ae,ar,ag,some gl,as_,ce,cr,cg,cl,cs⟩))=>EY a P.rules _ w' hrd.r
      rw [JM hacl hv] at hR1
      rw [JM hPacl hv] at hR2
      rw [show Au b a=(mf a b.ents,0) by unfold Au;rw [if_neg (by rw [hb0];decide),if_neg (by rw [hv];decide)]] at hI1
      rw [show Au P a=(mf a P.ents,0) by unfold Au;rw [if_neg (by rw [hP0];decide),if_neg (by rw [hv];decide)]] at hI2
      have hO:=hR.out a
      have hN:=hR.ins rfl a
      generalize mf a b.ents=s1 at hI1 hO
      generalize mf a P.ents=s2 at hI2 hO hN
      generalize atR a b.rules=r1 at hR1 hO
      generalize atR a P.rules=r2 at hR2 hO hN
      obtain ⟨q1,q2,q3⟩:=r2
      have hii:di o.rect a=true↔o.rect.c1≤a.col∧a.col≤o.rect.c2∧o.rect.r1≤a.row∧a.row≤o.rect.r2:=dc
      cases hin2:di o.rect a with
      |false=>
        obtain ⟨rfl,rfl⟩:=hO hin2
        have hno: ¬ (o.rect.c1≤a.col∧a.col≤o.rect.c2∧o.rect.r1≤a.row∧a.row≤o.rect.r2):=fun h=>by rw [hii.2 h] at hin2;cases hin2
        clear hii hN
        dsimp only at hR1 hR2 hI1 hI2
        repeat' (first
          |((refine lM (id:=30) [2,3,4,7,17,18] rfl (fun y:Bool=> [(19,.bool y)]) (fun y=>y=false) ?_ (fun y hy=> ?_)))
          |((with_reducible apply bf (i:=false))<;>first|exact rfl|((repeat (first|exact Sub.nil _|refine Sub.cons rfl ?_));done)|((repeat (first|exact MSub.nil _|refine MSub.pick (by (repeat first|exact .hd|apply Sel.tl|apply In.tl)) ?_|exact MSub.refl _|refine MSub.drop .hd ?_));done))
          |((with_reducible apply bf (i:=decide (a.row≤o.rect.r2)))<;>first|(apply decide_eq_false;omega)|((repeat (first|exact Sub.nil _|refine Sub.cons rfl ?_));done)|((repeat (first|exact MSub.nil _|refine MSub.pick (by (repeat first|exact .hd|apply Sel.tl|apply In.tl)) ?_|exact MSub.refl _|refine MSub.drop .hd ?_));done))
          |((with_reducible apply ak (d:=311));exact rfl;(with_reducible apply aj (j:=i));exact rfl;exact rfl;exact hlt)
          |((with_reducible apply ak);exact rfl;(first|((with_reducible apply jd);exact rfl)|((with_reducible apply cA);exact rfl)|((with_reducible apply mz);exact rfl)|((with_reducible apply ij);exact rfl)|((with_reducible apply bM);exact rfl;(repeat first|exact .hd|apply Sel.tl|apply In.tl);exact rfl)|((with_reducible apply je);exact rfl;exact rfl)|((with_reducible apply ic);exact rfl;exact rfl)|((with_reducible apply cw);exact rfl;(repeat first|exact .hd|apply Sel.tl|apply In.tl);exact rfl)|((with_reducible apply cy);exact rfl;(repeat first|exact .hd|apply Sel.tl|apply In.tl);exact rfl;exact rfl)|((with_reducible apply f4);exact rfl;exact rfl;exact rfl)|((with_reducible apply jZ);exact rfl;exact rfl;exact rfl)))
          |((with_reducible apply iH);exact rfl;exact rfl)
          |((with_reducible apply fO);exact rfl;exact rfl;exact rfl;exact rfl)
          |((with_reducible apply fN);exact rfl;exact rfl;exact rfl)
          |((with_reducible apply dA);exact rfl;exact rfl;intro _)
          |((with_reducible apply iI);exact rfl;exact rfl;exact rfl;intro _)
          |((with_reducible apply dH);exact rfl;intro _)
          |((with_reducible apply bY);exact rfl;exact rfl;(repeat first|exact .hd|apply Sel.tl|apply In.tl);exact rfl;exact rfl;exact rfl)
          |((with_reducible apply dm);exact rfl;exact rfl;(repeat first|exact .hd|apply Sel.tl|apply In.tl);exact rfl;exact rfl;exact rfl;exact rfl)
          |((with_reducible apply eE)<;>first|exact rfl|(intro hb;(replace hb:=Tidy.out hb;try (exfalso;omega))))
          |(with_reducible first|apply jJ|apply oG|apply oD|apply fP|apply oE|apply kG|apply kH|apply iL|apply oF|apply oH|apply oV|apply oU|apply oW|apply cut_r|apply cut_e|apply iJ|apply iK|apply scp_n|apply oJ|apply scp_e)
          |((with_reducible apply dq);exact rfl)
          |((with_reducible apply cM);exact rfl)
          |((with_reducible apply kI)<;>first|exact rfl|(intro hb;(replace hb:=Tidy.out hb;try (exfalso;omega))))
          |((with_reducible apply oT);exact rfl)
          |((with_reducible apply bf (i:=()))<;>first|exact trivial|((repeat (first|exact Sub.nil _|refine Sub.cons rfl ?_));done)|((repeat (first|exact MSub.nil _|refine MSub.pick (by (repeat first|exact .hd|apply Sel.tl|apply In.tl)) ?_|exact MSub.refl _|refine MSub.drop .hd ?_));done))
          |((with_reducible apply ak);exact rfl;(with_reducible apply aj);exact rfl;exact rfl;(first|assumption|omega))
          |((with_reducible apply ak);exact rfl;(with_reducible apply aA);exact rfl;assumption;exact rfl)
          |((with_reducible apply ak);exact rfl;(with_reducible apply gy);exact rfl;assumption)
          |((with_reducible apply ak);exact rfl;(with_reducible apply cI);exact rfl;assumption;exact rfl))
        all_goals try (exfalso;omega)
        subst hy
        repeat' (first
          |((with_reducible apply aa (d:=364));exact rfl;exact rfl;(intro w' hm;exact hI1 w' _ hm))
          |((with_reducible apply aa (d:=370));exact rfl;exact rfl;(intro w' hm;exact hI2 w' _ hm (BRd.of_rows (a:=⟨ae,ar,ag,some gl,as_,ce,cr,cg,cl,cs⟩) hm (by (repeat first|exact .hd|apply Sel.tl|apply In.tl)) (by (repeat first|exact .hd|apply Sel.tl|apply In.tl)) (by (repeat first|exact .hd|apply Sel.tl|apply In.tl)) (by (repeat first|exact .hd|apply Sel.tl|apply In.tl)) (by (repeat first|exact .hd|apply Sel.tl|apply In.tl)))))
          |((with_reducible apply aa (d:=377));exact rfl;exact rfl;(intro w' hm;exact hR1 w' _ hm))
          |((with_reducible apply aa (d:=384));exact rfl;exact rfl;(intro w' hm;exact hR2 w' _ hm (BRd.of_rows (a:=⟨ae,ar,ag,some gl,as_,ce,cr,cg,cl,cs⟩) hm (by (repeat first|exact .hd|apply Sel.tl|apply In.tl)) (by (repeat first|exact .hd|apply Sel.tl|apply In.tl)) (by (repeat first|exact .hd|apply Sel.tl|apply In.tl)) (by (repeat first|exact .hd|apply Sel.tl|apply In.tl)) (by (repeat first|exact .hd|apply Sel.tl|apply In.tl)))))
          |((with_reducible apply ak (d:=407));exact rfl;(with_reducible apply mJ);exact rfl;exact rfl)
          |((with_reducible apply ak (d:=411));exact rfl;(with_reducible apply pI);exact rfl;exact rfl)
          |((with_reducible apply ak (d:=308));exact rfl;(with_reducible apply dg);exact rfl;exact rfl;(simp only [maxLen];omega))
          |((with_reducible apply ak);exact rfl;(first|((with_reducible apply jd);exact rfl)|((with_reducible apply cA);exact rfl)|((with_reducible apply mz);exact rfl)|((with_reducible apply ij);exact rfl)|((with_reducible apply bM);exact rfl;(repeat first|exact .hd|apply Sel.tl|apply In.tl);exact rfl)|((with_reducible apply je);exact rfl;exact rfl)|((with_reducible apply ic);exact rfl;exact rfl)|((with_reducible apply cw);exact rfl;(repeat first|exact .hd|apply Sel.tl|apply In.tl);exact rfl)|((with_reducible apply cy);exact rfl;(repeat first|exact .hd|apply Sel.tl|apply In.tl);exact rfl;exact rfl)|((with_reducible apply f4);exact rfl;exact rfl;exact rfl)|((with_reducible apply jZ);exact rfl;exact rfl;exact rfl)))
          |((with_reducible apply iH);exact rfl;exact rfl)
          |((with_reducible apply fO);exact rfl;exact rfl;exact rfl;exact rfl)
          |((with_reducible apply fN);exact rfl;exact rfl;exact rfl)
          |((with_reducible apply dA);exact rfl;exact rfl;intro _)
          |((with_reducible apply iI);exact rfl;exact rfl;exact rfl;intro _)
          |((with_reducible apply dH);exact rfl;intro _)
          |((with_reducible apply bY);exact rfl;exact rfl;(repeat first|exact .hd|apply Sel.tl|apply In.tl);exact rfl;exact rfl;exact rfl)
          |((with_reducible apply dm);exact rfl;exact rfl;(repeat first|exact .hd|apply Sel.tl|apply In.tl);exact rfl;exact rfl;exact rfl;exact rfl)
          |((with_reducible apply eE)<;>first|exact rfl|(intro hb;(replace hb:=Tidy.out hb;try (exfalso;omega))))
          |(with_reducible first|apply jJ|apply oG|apply oD|apply fP|apply oE|apply kG|apply kH|apply iL|apply oF|apply oH|apply oV|apply oU|apply oW|apply cut_r|apply cut_e|apply iJ|apply iK|apply scp_n|apply oJ|apply scp_e)
          |((with_reducible apply dq);exact rfl)
          |((with_reducible apply cM);exact rfl)
          |((with_reducible apply kI)<;>first|exact rfl|(intro hb;(replace hb:=Tidy.out hb;try (exfalso;omega))))
          |((with_reducible apply oT);exact rfl)
          |((with_reducible apply bf (i:=()))<;>first|exact trivial|((repeat (first|exact Sub.nil _|refine Sub.cons rfl ?_));done)|((repeat (first|exact MSub.nil _|refine MSub.pick (by (repeat first|exact .hd|apply Sel.tl|apply In.tl)) ?_|exact MSub.refl _|refine MSub.drop .hd ?_));done)))
        all_goals first
          |(exfalso;omega)
          |(refine ⟨i+1,by omega,by omega,by (repeat (first|exact Sub.nil _|refine Sub.cons rfl ?_)),by (repeat (first|exact Sub.nil _|refine Sub.cons rfl ?_)),by (repeat (first|exact MSub.nil _|refine MSub.pick (by (repeat first|exact .hd|apply Sel.tl|apply In.tl)) ?_|exact MSub.refl _|refine MSub.drop .hd ?_))⟩;done)
          |trace_state
      |true=>
        have hyes:=hii.1 hin2
        have hN2:=hN hin2
        clear hii hN hO
        obtain ⟨p1,p2,p3⟩:=r1
        dsimp only at hR1 hR2 hI1 hI2
        repeat' (first
          |((refine lM (id:=30) [2,3,4,7,17,18] rfl (fun y:Bool=> [(19,.bool y)]) (fun y=>y=true) ?_ (fun y hy=> ?_)))
          |((with_reducible apply bf (i:=decide (a.row≤o.rect.r2)))<;>first|(apply decide_eq_true;omega)|((repeat (first|exact Sub.nil _|refine Sub.cons rfl ?_));done)|((repeat (first|exact MSub.nil _|refine MSub.pick (by (repeat first|exact .hd|apply Sel.tl|apply In.tl)) ?_|exact MSub.refl _|refine MSub.drop .hd ?_));done))
          |((with_reducible apply ak (d:=311));exact rfl;(with_reducible apply aj (j:=i));exact rfl;exact rfl;exact hlt)
          |((with_reducible apply ak);exact rfl;(first|((with_reducible apply jd);exact rfl)|((with_reducible apply cA);exact rfl)|((with_reducible apply mz);exact rfl)|((with_reducible apply ij);exact rfl)|((with_reducible apply bM);exact rfl;(repeat first|exact .hd|apply Sel.tl|apply In.tl);exact rfl)|((with_reducible apply je);exact rfl;exact rfl)|((with_reducible apply ic);exact rfl;exact rfl)|((with_reducible apply cw);exact rfl;(repeat first|exact .hd|apply Sel.tl|apply In.tl);exact rfl)|((with_reducible apply cy);exact rfl;(repeat first|exact .hd|apply Sel.tl|apply In.tl);exact rfl;exact rfl)|((with_reducible apply f4);exact rfl;exact rfl;exact rfl)|((with_reducible apply jZ);exact rfl;exact rfl;exact rfl)))
          |((with_reducible apply iH);exact rfl;exact rfl)
          |((with_reducible apply fO);exact rfl;exact rfl;exact rfl;exact rfl)
          |((with_reducible apply fN);exact rfl;exact rfl;exact rfl)
          |((with_reducible apply dA);exact rfl;exact rfl;intro _)
          |((with_reducible apply iI);exact rfl;exact rfl;exact rfl;intro _)
          |((with_reducible apply dH);exact rfl;intro _)
          |((with_reducible apply bY);exact rfl;exact rfl;(repeat first|exact .hd|apply Sel.tl|apply In.tl);exact rfl;exact rfl;exact rfl)
          |((with_reducible apply dm);exact rfl;exact rfl;(repeat first|exact .hd|apply Sel.tl|apply In.tl);exact rfl;exact rfl;exact rfl;exact rfl)
          |((with_reducible apply eE)<;>first|exact rfl|(intro hb;(replace hb:=Tidy.out hb;try (exfalso;omega))))
          |(with_reducible first|apply jJ|apply oG|apply oD|apply fP|apply oE|apply kG|apply kH|apply iL|apply oF|apply oH|apply oV|apply oU|apply oW|apply cut_r|apply cut_e|apply iJ|apply iK|apply scp_n|apply oJ|apply scp_e)
          |((with_reducible apply dq);exact rfl)
          |((with_reducible apply cM);exact rfl)
          |((with_reducible apply kI)<;>first|exact rfl|(intro hb;(replace hb:=Tidy.out hb;try (exfalso;omega))))
          |((with_reducible apply oT);exact rfl)
          |((with_reducible apply bf (i:=()))<;>first|exact trivial|((repeat (first|exact Sub.nil _|refine Sub.cons rfl ?_));done)|((repeat (first|exact MSub.nil _|refine MSub.pick (by (repeat first|exact .hd|apply Sel.tl|apply In.tl)) ?_|exact MSub.refl _|refine MSub.drop .hd ?_));done))
          |((with_reducible apply ak);exact rfl;(with_reducible apply aj);exact rfl;exact rfl;(first|assumption|omega))
          |((with_reducible apply ak);exact rfl;(with_reducible apply aA);exact rfl;assumption;exact rfl)
          |((with_reducible apply ak);exact rfl;(with_reducible apply gy);exact rfl;assumption)
          |((with_reducible apply ak);exact rfl;(with_reducible apply cI);exact rfl;assumption;exact rfl))
        all_goals try (exfalso;omega)
        subst hy
        have hcase:(o.kind=3∧s2=o.input)∨(o.kind=4∧s2=au)∨(o.kind=7∧q1=o.rd∧q2=o.wr∧q3=o.ow)∨(¬ o.kind=3∧ ¬ o.kind=4∧ ¬ o.kind=7):=by
          rcases hk9 with hk|hk|hk|hk|hk
          · exact .inl ⟨hk,hN2.1 hk⟩
          · exact .inr (.inl ⟨hk,hN2.2.1 hk⟩)
          · have hq:=hN2.2.2 hk;exact .inr (.inr (.inl ⟨hk,congrArg (fun x=>x.1) hq,congrArg (fun x=>x.2.1) hq,congrArg (fun x=>x.2.2) hq⟩))
          · exact .inr (.inr (.inr (by omega)))
          · exact .inr (.inr (.inr (by omega)))
        clear hN2
        rcases hcase with ⟨hk,rfl⟩|⟨hk,rfl⟩|⟨hk,rfl,rfl,rfl⟩|hk
        all_goals
          repeat' (first
            |((with_reducible apply aa (d:=364));exact rfl;exact rfl;(intro w' hm;exact hI1 w' _ hm))
            |((with_reducible apply aa (d:=370));exact rfl;exact rfl;(intro w' hm;exact hI2 w' _ hm (BRd.of_rows (a:=⟨ae,ar,ag,some gl,as_,ce,cr,cg,cl,cs⟩) hm (by (repeat first|exact .hd|apply Sel.tl|apply In.tl)) (by (repeat first|exact .hd|apply Sel.tl|apply In.tl)) (by (repeat first|exact .hd|apply Sel.tl|apply In.tl)) (by (repeat first|exact .hd|apply Sel.tl|apply In.tl)) (by (repeat first|exact .hd|apply Sel.tl|apply In.tl)))))
            |((with_reducible apply aa (d:=377));exact rfl;exact rfl;(intro w' hm;exact hR1 w' _ hm))
            |((with_reducible apply aa (d:=384));exact rfl;exact rfl;(intro w' hm;exact hR2 w' _ hm (BRd.of_rows (a:=⟨ae,ar,ag,some gl,as_,ce,cr,cg,cl,cs⟩) hm (by (repeat first|exact .hd|apply Sel.tl|apply In.tl)) (by (repeat first|exact .hd|apply Sel.tl|apply In.tl)) (by (repeat first|exact .hd|apply Sel.tl|apply In.tl)) (by (repeat first|exact .hd|apply Sel.tl|apply In.tl)) (by (repeat first|exact .hd|apply Sel.tl|apply In.tl)))))
            |((with_reducible apply ak (d:=424));exact rfl;(with_reducible apply mJ);exact rfl;exact rfl)
            |((with_reducible apply ak (d:=432));exact rfl;(with_reducible apply mJ);exact rfl;exact rfl)
            |((with_reducible apply ak (d:=443));exact rfl;(with_reducible apply pI);exact rfl;exact rfl)
            |((with_reducible apply ak (d:=308));exact rfl;(with_reducible apply dg);exact rfl;exact rfl;(simp only [maxLen];omega))
            |((with_reducible apply ak);exact rfl;(first|((with_reducible apply jd);exact rfl)|((with_reducible apply cA);exact rfl)|((with_reducible apply mz);exact rfl)|((with_reducible apply ij);exact rfl)|((with_reducible apply bM);exact rfl;(repeat first|exact .hd|apply Sel.tl|apply In.tl);exact rfl)|((with_reducible apply je);exact rfl;exact rfl)|((with_reducible apply ic);exact rfl;exact rfl)|((with_reducible apply cw);exact rfl;(repeat first|exact .hd|apply Sel.tl|apply In.tl);exact rfl)|((with_reducible apply cy);exact rfl;(repeat first|exact .hd|apply Sel.tl|apply In.tl);exact rfl;exact rfl)|((with_reducible apply f4);exact rfl;exact rfl;exact rfl)|((with_reducible apply jZ);exact rfl;exact rfl;exact rfl)))
            |((with_reducible apply iH);exact rfl;exact rfl)
            |((with_reducible apply fO);exact rfl;exact rfl;exact rfl;exact rfl)
            |((with_reducible apply fN);exact rfl;exact rfl;exact rfl)
            |((with_reducible apply dA);exact rfl;exact rfl;intro _)
            |((with_reducible apply iI);exact rfl;exact rfl;exact rfl;intro _)
            |((with_reducible apply dH);exact rfl;intro _)
            |((with_reducible apply bY);exact rfl;exact rfl;(repeat first|exact .hd|apply Sel.tl|apply In.tl);exact rfl;exact rfl;exact rfl)
            |((with_reducible apply dm);exact rfl;exact rfl;(repeat first|exact .hd|apply Sel.tl|apply In.tl);exact rfl;exact rfl;exact rfl;exact rfl)
            |((with_reducible apply eE)<;>first|exact rfl|(intro hb;(replace hb:=Tidy.out hb;try (exfalso;omega))))
            |(with_reducible first|apply jJ|apply oG|apply oD|apply fP|apply oE|apply kG|apply kH|apply iL|apply oF|apply oH|apply oV|apply oU|apply oW|apply cut_r|apply cut_e|apply iJ|apply iK|apply scp_n|apply oJ|apply scp_e)
            |((with_reducible apply dq);exact rfl)
            |((with_reducible apply cM);exact rfl)
            |((with_reducible apply kI)<;>first|exact rfl|(intro hb;(replace hb:=Tidy.out hb;try (exfalso;omega))))
            |((with_reducible apply oT);exact rfl)
            |((with_reducible apply bf (i:=()))<;>first|exact trivial|((repeat (first|exact Sub.nil _|refine Sub.cons rfl ?_));done)|((repeat (first|exact MSub.nil _|refine MSub.pick (by (repeat first|exact .hd|apply Sel.tl|apply In.tl)) ?_|exact MSub.refl _|refine MSub.drop .hd ?_));done)))
        all_goals first
          |(exfalso;omega)
          |(refine ⟨i+1,by omega,by omega,by (repeat (first|exact Sub.nil _|refine Sub.cons rfl ?_)),by (repeat (first|exact Sub.nil _|refine Sub.cons rfl ?_)),by (repeat (first|exact MSub.nil _|refine MSub.pick (by (repeat first|exact .hd|apply Sel.tl|apply In.tl)) ?_|exact MSub.refl _|refine MSub.drop .hd ?_))⟩;done)
          |trace_state
    · have hnv: ¬ (1≤a.col∧a.col≤1024∧1≤a.row∧a.row≤1024):=fun h=>hv (hva.2 h)
      clear hva
      repeat' (first
        |((with_reducible apply ak (d:=311));exact rfl;(with_reducible apply aj (j:=i));exact rfl;exact rfl;exact hlt)
        |((with_reducible apply ak (d:=308));exact rfl;(with_reducible apply dg);exact rfl;exact rfl;(simp only [maxLen];omega))
        |((with_reducible apply ak);exact rfl;(first|((with_reducible apply jd);exact rfl)|((with_reducible apply cA);exact rfl)|((with_reducible apply mz);exact rfl)|((with_reducible apply ij);exact rfl)|((with_reducible apply bM);exact rfl;(repeat first|exact .hd|apply Sel.tl|apply In.tl);exact rfl)|((with_reducible apply je);exact rfl;exact rfl)|((with_reducible apply ic);exact rfl;exact rfl)|((with_reducible apply cw);exact rfl;(repeat first|exact .hd|apply Sel.tl|apply In.tl);exact rfl)|((with_reducible apply cy);exact rfl;(repeat first|exact .hd|apply Sel.tl|apply In.tl);exact rfl;exact rfl)|((with_reducible apply f4);exact rfl;exact rfl;exact rfl)|((with_reducible apply jZ);exact rfl;exact rfl;exact rfl)))
        |((with_reducible apply iH);exact rfl;exact rfl)
        |((with_reducible apply fO);exact rfl;exact rfl;exact rfl;exact rfl)
        |((with_reducible apply fN);exact rfl;exact rfl;exact rfl)
        |((with_reducible apply dA);exact rfl;exact rfl;intro _)
        |((with_reducible apply iI);exact rfl;exact rfl;exact rfl;intro _)
        |((with_reducible apply dH);exact rfl;intro _)
        |((with_reducible apply bY);exact rfl;exact rfl;(repeat first|exact .hd|apply Sel.tl|apply In.tl);exact rfl;exact rfl;exact rfl)
        |((with_reducible apply dm);exact rfl;exact rfl;(repeat first|exact .hd|apply Sel.tl|apply In.tl);exact rfl;exact rfl;exact rfl;exact rfl)
        |((with_reducible apply eE)<;>first|exact rfl|(intro hb;(replace hb:=Tidy.out hb;try (exfalso;omega))))
        |(with_reducible first|apply jJ|apply oG|apply oD|apply fP|apply oE|apply kG|apply kH|apply iL|apply oF|apply oH|apply oV|apply oU|apply oW|apply cut_r|apply cut_e|apply iJ|apply iK|apply scp_n|apply oJ|apply scp_e)
        |((with_reducible apply dq);exact rfl)
        |((with_reducible apply cM);exact rfl)
        |((with_reducible apply kI)<;>first|exact rfl|(intro hb;(replace hb:=Tidy.out hb;try (exfalso;omega))))
        |((with_reducible apply oT);exact rfl)
        |((with_reducible apply bf (i:=()))<;>first|exact trivial|((repeat (first|exact Sub.nil _|refine Sub.cons rfl ?_));done)|((repeat (first|exact MSub.nil _|refine MSub.pick (by (repeat first|exact .hd|apply Sel.tl|apply In.tl)) ?_|exact MSub.refl _|refine MSub.drop .hd ?_));done))
        |((with_reducible apply ak);exact rfl;(with_reducible apply aj);exact rfl;exact rfl;(first|assumption|omega))
        |((with_reducible apply ak);exact rfl;(with_reducible apply aA);exact rfl;assumption;exact rfl)
        |((with_reducible apply ak);exact rfl;(with_reducible apply gy);exact rfl;assumption)
        |((with_reducible apply ak);exact rfl;(with_reducible apply cI);exact rfl;assumption;exact rfl))
      all_goals first
        |(exfalso;omega)
        |(refine ⟨i+1,by omega,by omega,by (repeat (first|exact Sub.nil _|refine Sub.cons rfl ?_)),by (repeat (first|exact Sub.nil _|refine Sub.cons rfl ?_)),by (repeat (first|exact MSub.nil _|refine MSub.pick (by (repeat first|exact .hd|apply Sel.tl|apply In.tl)) ?_|exact MSub.refl _|refine MSub.drop .hd ?_))⟩;done)
        |trace_state
  · repeat' (first
      |((with_reducible apply aa (d:=447));exact rfl;exact rfl;(intro w' hm;exact haw w' _ hm))
      |((with_reducible apply ak);exact rfl;(first|((with_reducible apply jd);exact rfl)|((with_reducible apply cA);exact rfl)|((with_reducible apply mz);exact rfl)|((with_reducible apply ij);exact rfl)|((with_reducible apply bM);exact rfl;(repeat first|exact .hd|apply Sel.tl|apply In.tl);exact rfl)|((with_reducible apply je);exact rfl;exact rfl)|((with_reducible apply ic);exact rfl;exact rfl)|((with_reducible apply cw);exact rfl;(repeat first|exact .hd|apply Sel.tl|apply In.tl);exact rfl)|((with_reducible apply cy);exact rfl;(repeat first|exact .hd|apply Sel.tl|apply In.tl);exact rfl;exact rfl)|((with_reducible apply f4);exact rfl;exact rfl;exact rfl)|((with_reducible apply jZ);exact rfl;exact rfl;exact rfl)))
      |((with_reducible apply iH);exact rfl;exact rfl)
      |((with_reducible apply fO);exact rfl;exact rfl;exact rfl;exact rfl)
      |((with_reducible apply fN);exact rfl;exact rfl;exact rfl)
      |((with_reducible apply dA);exact rfl;exact rfl;intro _)
      |((with_reducible apply iI);exact rfl;exact rfl;exact rfl;intro _)
      |((with_reducible apply dH);exact rfl;intro _)
      |((with_reducible apply bY);exact rfl;exact rfl;(repeat first|exact .hd|apply Sel.tl|apply In.tl);exact rfl;exact rfl;exact rfl)
      |((with_reducible apply dm);exact rfl;exact rfl;(repeat first|exact .hd|apply Sel.tl|apply In.tl);exact rfl;exact rfl;exact rfl;exact rfl)
      |((with_reducible apply eE)<;>first|exact rfl|(intro hb;(replace hb:=Tidy.out hb;try (exfalso;omega))))
      |(with_reducible first|apply jJ|apply oG|apply oD|apply fP|apply oE|apply kG|apply kH|apply iL|apply oF|apply oH|apply oV|apply oU|apply oW|apply cut_r|apply cut_e|apply iJ|apply iK|apply scp_n|apply oJ|apply scp_e)
      |((with_reducible apply dq);exact rfl)
      |((with_reducible apply cM);exact rfl)
      |((with_reducible apply kI)<;>first|exact rfl|(intro hb;(replace hb:=Tidy.out hb;try (exfalso;omega))))
      |((with_reducible apply oT);exact rfl)
      |((with_reducible apply bf (i:=()))<;>first|exact trivial|((repeat (first|exact Sub.nil _|refine Sub.cons rfl ?_));done)|((repeat (first|exact MSub.nil _|refine MSub.pick (by (repeat first|exact .hd|apply Sel.tl|apply In.tl)) ?_|exact MSub.refl _|refine MSub.drop .hd ?_));done)))
    all_goals first|(exfalso;omega)|(((with_reducible apply dF);exact .inl rfl;exact rfl;exact rfl;exact MSub.nil _);rfl)|trace_state
theorem vk (b:Bk) (x:Bv) (o:Ox) (L:List Rf) (v:Value) (w:World) (h:BRd w b x) (hv:Reads w v L.length (L.flatMap cu)) (hW:Words w) (hs1:jf b=true) (hb0:bkE b=0) (hin: ¬ 300<o.input.size) (hL20: ¬ 20<L.length) (hst:b.step≠1099511627776):ax Tryz.prog 6 [.agg (aW b x).toArray,.agg (bu o).toArray,v] w (.bool true):=by
 cases hmk:dh o.kind with
 |false=>exact yM b x o L v w h hv hW hs1 hb0 hin hL20 hst ⟨hmk,rfl⟩
 |true=>
  by_cases h0:(apE b o).2.1=0
  ·
   exact yN b x o L v w h hv hW hs1 hb0 hin hL20 hst ⟨hmk,h0⟩
  by_cases h5:(apE b o).2.1=5
  ·
   exact yK b x o L v w h hv hW hs1 hb0 hin hL20 hst ⟨hmk,h5⟩
  ·
   exact yL b x o L v w h hv hW hs1 hb0 hin hL20 hst ⟨hmk,h0,h5⟩
set_option maxHeartbeats 16000000 in
theorem vW (b:Bk) (x:Bv) (o:Ox) (L:List Rf) (v:Value) (w:World) (h:BRd w b x) (hv:Reads w v L.length (L.flatMap cu)) (hW:Words w):ax Tryz.prog 6 [.agg (aW b x).toArray,.agg (bu o).toArray,v] w (.bool true):=by
 by_cases hgo:jf b=true∧bkE b=0∧ ¬ 300<o.input.size∧ ¬ 20<L.length∧b.step≠1099511627776
 ·
  exact vk b x o L v w h hv hW hgo.1 hgo.2.1 hgo.2.2.1 hgo.2.2.2.1 hgo.2.2.2.2
 obtain ⟨Av,cv,rfl,hv1,hv2,hv3⟩:=hv
 refine aq Tryz.func6 rfl Tryz.ntmps6 rfl ?_
 have hS1:=fun (w' :World) (H:List Blk) (hm:Mem w w' H)=>jY b x w' (h.of_w0 hm)
 have haw:=fun (w' :World) (H:List Blk) (hm:Mem w w' H)=>jX w' (hW.next hm)
 cases hs1:jf b with
 |false=>
  rw [hs1] at hS1
  repeat' (first|(apply aa (d:=29);exact rfl;exact rfl;(intro w' hm;exact hS1 w' _ hm))|refine sT ?_|refine sS ?_|refine sM fun _=> ?_|(refine sC ?_ ?_<;>intro hb<;>try omega)|fail)
  all_goals first|(exfalso;omega)|((refine rT1 ?_);rfl)|trace_state
 |true=>
 rw [hs1] at hS1
 have hsb:=jC hs1
 have hm1:=mR hs1
 have hC1:=fun (w' :World) (H:List Blk) (hm:Mem w w' H)=>fT b x w' (h.of_w0 hm) hm1.e
 by_cases hq:bkE b≠0∨300<o.input.size∨20<L.length
 ·
  generalize bkE b=e1 at hC1 hq
  repeat' (first|(apply aa (d:=29);exact rfl;exact rfl;(intro w' hm;exact hS1 w' _ hm))|(apply aa (d:=33);exact rfl;exact rfl;(intro w' hm;exact hC1 w' _ hm))|refine sT ?_|refine sS ?_|refine sM fun _=> ?_|(refine sC ?_ ?_<;>intro hb<;>try omega)|fail)
  all_goals first|(exfalso;omega)|((refine rT1 ?_);rfl)|trace_state
 have hb0:bkE b=0:=Decidable.not_not.1 fun hn=>hq (.inl hn)
 have hin: ¬ 300<o.input.size:=fun hn=>hq (.inr (.inl hn))
 have hL20: ¬ 20<L.length:=fun hn=>hq (.inr (.inr hn))
 clear hq
 rw [hb0] at hC1
 have hbs:=(dz.1 hb0).s
 have hA:=fun (w' :World) (H:List Blk) (hm:Mem w w' H)=>lJ b x o w' (h.of_w0 hm) (hW.next hm) hm1
 by_cases hst:b.step=1099511627776
 ·
  have hap:apE b o=(jc,0,0,5):=by unfold apE;rw [if_neg (by rw [hb0];decide),if_pos hst]
  rw [hap] at hA
  have hZ:=fun (a:Bo) (w' :World) (H:List Blk) (hm:Mem w w' H) (hrd:BRd w' jc a.v)=>Dy jc jc a.v sZ.v w' hrd ⟨jD _,jD _,jD _,jD _,jD _⟩
  rw [show F7 jc jc=true by decide+kernel] at hZ
  repeat' (first|(apply aa (d:=29);exact rfl;exact rfl;(intro w' hm;exact hS1 w' _ hm))|(apply aa (d:=33);exact rfl;exact rfl;(intro w' hm;exact hC1 w' _ hm))|(apply aG (d:=50);exact rfl;exact rfl;(intro w' hm;exact hA w' _ hm);rintro _ _ ⟨a2,rfl,rfl⟩;unfold bz)|(apply aa (d:=63);exact rfl;exact rfl;(intro w' hm;exact hZ a2 w' _ hm (BRd.of_rows hm pK pK pK pK pK)))|refine sT ?_|refine sS ?_|refine sM fun _=> ?_|(refine sC ?_ ?_<;>intro hb<;>try omega)|fail)
  all_goals first|(exfalso;omega)|((refine rT1 ?_);rfl)|trace_state
 exact absurd ⟨hs1,hb0,hin,hL20,hst⟩ hgo
end Go.SL
