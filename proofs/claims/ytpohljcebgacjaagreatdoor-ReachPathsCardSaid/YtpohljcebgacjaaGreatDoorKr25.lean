/-
  Lemmas and walks, put together: Q7 Oq Q8 Q9 W33 W34 Lu Gu Q10 Q11.
-/
import Derived.Test.YtpohljcebgacjaaGreatDoorKr24
set_option linter.unusedSimpArgs false
set_option linter.unusedVariables false
set_option maxRecDepth 20000
namespace Go.SL
open Go Go.Proofs
attribute [local irreducible] W WL WQ WG WA WX WLI WR WT WC VOp RW thn blk cutP scp retP retPP endB FnAt FnIn FnP ceP
theorem tokensV_size {tk:List Int→Option (Tk × Nat)} {a:ByteArray} (h:(tokensV tk (ints a)).2.2=0):a.size≤256:=by
 unfold tokensV at h
 split at h
 ·
  cases h
 ·
  rename_i h1
  rw [ints_length] at h1
  omega
set_option maxHeartbeats 4000000 in
theorem refFormula_at (a:ByteArray) (w:World) (r:List Nd × Int × Int) (hr:r=formulaV (tokensV tokenR (ints a)) (a.size:Int)):
  FnAt Tryz.prog 122 [.string a] w fun v H=> ∃ A cap,v=treeV A cap r∧H= [.own A 136 11 r.1.length cap (r.1.flatMap encN)]:=by
 refine fn_at Tryz.func122 rfl Tryz.ntmps122 rfl ?_
 have hT:=fun w' =>refTokens_at a w'
 have htl:=tokensV_len tokenR (ints a)
 have hch:=tokensV_chain (ints a)
 have hnum:=tokensV_num (ints a)
 have hsz:=tokensV_size (tk:=tokenR) (a:=a)
 obtain ⟨⟨toks,at0,e0⟩,hx⟩: ∃ x,tokensV tokenR (ints a)=x:=⟨_,rfl⟩
 rw [hx] at hr htl hch hnum hsz
 simp only [hx,tokV3] at hT
 dsimp only at htl hch hnum hsz
 refine w_nilrow 136 11 ?_
 refine w_nilrow 136 11 ?_
 by_cases he0:e0≠0
 ·
  have hr' :r=([],at0,e0):=by rw [hr];simp [formulaV,he0]
  subst hr'
  repeat' (first|((with_reducible apply wl_call (f:=172));exact rfl;exact rfl;exact fun w' _=>hT w';rintro _ _ ⟨A,cap,rfl,rfl⟩)|refine sT ?_|refine sS ?_|refine sN ?_|refine sM fun _=> ?_|(refine sC ?_ ?_<;>intro hb<;>try omega)|fail)
  all_goals first
   |(exfalso;omega)
   |exact ret3 eIO rfl rfl rfl rfl (H' := [.own none 136 11 0 0 []]) mS ⟨none,0,rfl,rfl⟩
 have he0:e0=0:=Classical.not_not.1 he0
 subst he0
 replace hsz:=hsz rfl
 obtain ⟨r1,hr1,_⟩:=runP_ends (a.size:Int) (20*toks.length+40) (.level 1) ⟨toks,[]⟩ ⟨by omega,by omega⟩ (by simp [Job.c])
 have hL:=(rparse_all (20*toks.length+40)).1 1 (by decide) (by decide)
 obtain ⟨ff,hff⟩: ∃ ff,20*toks.length+40=ff:=⟨_,rfl⟩
 rw [hff] at hr1 hL
 cases r1 with
 |error e=>
  have hr' :r=([],e.1,e.2):=by rw [hr];simp [formulaV,hff,hr1]
  subst hr'
  repeat' (first|((with_reducible apply wl_call (f:=172));exact rfl;exact rfl;exact fun w' _=>hT w';rintro _ _ ⟨A,cap,rfl,rfl⟩)|((with_reducible apply wl_callin (f:=173));exact rfl;exact rfl;rename_i g;exact FnIn.msub (hL ⟨g,a,A,cap,toks,hsz,htl,hch⟩ 0 ⟨toks,[]⟩ none 0 _ _ w (Nat.zero_le _) rfl (Nat.le_refl 0) hr1) (MSub.pick pK (MSub.pick pK (MSub.pick pK (MSub.refl _))));rintro _ _ ⟨rfl,k1,B1,cb1,o1,j1,j2,j3,j4,rfl⟩;dsimp only at j2;obtain ⟨u,hd1⟩: ∃ u,hdT (a.size:Int) (toks.drop k1)=u:=⟨_,rfl⟩)|((with_reducible apply wl_v);exact rfl;(with_reducible apply v_field);exact rfl;exact rfl)|((with_reducible apply wl_callp (f:=175));exact rfl;exact rfl;exact fun w' hm=>Cx.next (x:=⟨_,a,A,cap,toks,hsz,htl,hch⟩) hd1 (B:=B1) (cb:=cb1) (out:=o1) (at_:=e.1) (e:=e.2) (MSub.pick pK (MSub.pick pK (MSub.pick pK (MSub.nil _)))) w' hm)|((with_reducible apply wl_callin (f:=174));exact rfl;exact rfl;exact FnIn.msub (rFault_at _ a A toks.length cap k1 B1 o1.length cb1 e.1 e.2 _ _ _ _) (MSub.pick pK (.refl _));rw [if_neg j1,if_neg j1];rintro _ _ ⟨rfl,rfl⟩)|refine sT ?_|refine sS ?_|refine sQ ?_|refine sN ?_|refine sNQ ?_|refine sD ?_|refine sM fun _=> ?_|(refine sC ?_ ?_<;>intro hb<;>try omega)|(refine sCQ ?_ ?_<;>intro hb<;>try omega)|fail)
  all_goals first
   |(exfalso;omega)
   |exact absurd (by assumption) j1
   |exact ret3 eIO rfl rfl rfl rfl (H' := [.own none 136 11 0 0 []]) mS ⟨none,0,rfl,rfl⟩
 |ok y=>
  obtain ⟨n,p'⟩:=y
  have hwf:=runP_wf _ _ _ _ _ _ hr1 (⟨hnum,fun _ h=>by cases h⟩:Wf ⟨toks,[]⟩)
  have hD:=fun (tv:Value) (w' :World) (h:Reads w' tv p'.out.length (p'.out.flatMap encN))=>refDepth_at p'.out hwf.2 tv w' h
  have hde:(depthE p'.out).2=checkE p'.out:=by
   unfold depthE
   split
   ·
    rfl
   ·
    rename_i h;simp at h;simp [h]
  obtain ⟨dd,de,hdd⟩: ∃ a b,depthE p'.out=(a,b):=⟨_,_,rfl⟩
  rw [hdd] at hD hde
  dsimp only at hD hde
  repeat' (first|((with_reducible apply wl_call (f:=172));exact rfl;exact rfl;exact fun w' _=>hT w';rintro _ _ ⟨A,cap,rfl,rfl⟩)|((with_reducible apply wl_callin (f:=173));exact rfl;exact rfl;rename_i g;exact FnIn.msub (hL ⟨g,a,A,cap,toks,hsz,htl,hch⟩ 0 ⟨toks,[]⟩ none 0 _ _ w (Nat.zero_le _) rfl (Nat.le_refl 0) hr1) (MSub.pick pK (MSub.pick pK (MSub.pick pK (MSub.refl _))));rintro _ _ ⟨rfl,k1,B1,cb1,j1,j2,j3,j4,rfl⟩;dsimp only at j1 j2;obtain ⟨u,hd1⟩: ∃ u,hdT (a.size:Int) (toks.drop k1)=u:=⟨_,rfl⟩)|((with_reducible apply wl_v);exact rfl;(with_reducible apply v_field);exact rfl;exact rfl)|((with_reducible apply wl_callp (f:=175));exact rfl;exact rfl;exact fun w' hm=>Cx.next (x:=⟨_,a,A,cap,toks,hsz,htl,hch⟩) hd1 (B:=B1) (cb:=cb1) (out:=p'.out) (at_:=0) (e:=0) (MSub.pick pK (MSub.pick pK (MSub.pick pK (MSub.nil _)))) w' hm)|((with_reducible apply wl_callin (f:=174));exact rfl;exact rfl;exact FnIn.msub (rFault_at _ a A toks.length cap k1 B1 p'.out.length cb1 0 0 _ _ _ _) (MSub.pick pK (.refl _));rintro _ _ ⟨rfl,rfl⟩)|((with_reducible apply wl_callp (f:=176));exact rfl;exact rfl;(intro w' hm';exact hD _ w' (Reads.of_own (A:=B1) hm' pK)))|refine sT ?_|refine sS ?_|refine sQ ?_|refine sN ?_|refine sNQ ?_|refine sD ?_|refine sM fun _=> ?_|(refine sC ?_ ?_<;>intro hb<;>try omega)|(refine sCQ ?_ ?_<;>intro hb<;>try omega)|fail)
  all_goals first|(exfalso;omega)|skip
  ·
   have hk1:k1<toks.length:=by
    have:(k1:Int)<(toks.length:Int):=by assumption
    omega
   have hu0:u.kind≠0:=fun h=>by
    have h2:=(hch.drop k1).kind (fin:=(a.size:Int))
    rw [hd1] at h2
    have:=congrArg List.length (h2.1 h)
    rw [List.length_drop,List.length_nil] at this
    omega
   have hr' :r=([],u.at_,4):=by rw [hr];simp [formulaV,hff,hr1,j2,hd1,hu0]
   subst hr'
   exact ret3 eIO rfl rfl rfl rfl (H' := [.own none 136 11 0 0 []]) mS ⟨none,0,rfl,rfl⟩
  all_goals
   have hk1:toks.length≤k1:=by
    have:(toks.length:Int)≤(k1:Int):=by assumption
    omega
   have hu0:u.kind=0:=by rw [← hd1,hdT_end hk1];rfl
  ·
   have hr' :r=([],0,de):=by
    have hb' :de≠0:=by assumption
    rw [hr];rw [hde] at hb' ⊢;simp [formulaV,hff,hr1,j2,hd1,hu0,hb']
   subst hr'
   exact ret3 eIO rfl rfl rfl rfl (H' := [.own none 136 11 0 0 []]) mS ⟨none,0,rfl,rfl⟩
  ·
   have hr' :r=(p'.out,0,0):=by
    have hb' :checkE p'.out=0:=hde ▸ Classical.not_not.1 (by assumption)
    rw [hr];simp [formulaV,hff,hr1,j2,hd1,hu0,hb']
   subst hr'
   exact ret3 eIO rfl rfl rfl rfl (H' := [.own B1 136 11 p'.out.length cb1 (p'.out.flatMap encN)]) mS ⟨B1,cb1,rfl,rfl⟩
end Go.SL
namespace Go.SL
open Go
def ofR (b:ByteArray):Mn × Int × Int:=
 if 256<b.size then (zeroMn,0,5)
 else match (ints b).findIdx? (fun c=> !plainC c) with
  |some i=>(zeroMn,(i:Int),4)
  |none=>
   if (ints b).headD 0≠61 then (⟨false,constR b,[]⟩,0,0)
   else match formulaV (tokensV tokenR (ints (sub b 1 b.size))) ((sub b 1 b.size).size:Int) with
    |(t,at_,e)=>if e≠0 then (zeroMn,IntKind.i64.wrap (at_+1),e) else (⟨true,zeroV,t⟩,0,0)
theorem glyphE_plain {b:ByteArray} (h: ¬ 256<b.size) (hp:(ints b).findIdx? (fun c=> !plainC c)=none):glyphE b=0:=by
 rw [List.findIdx?_eq_none_iff] at hp
 unfold glyphE
 rw [plainB_ints]
 have:(ints b).all plainC=true:=by
  rw [List.all_eq_true]
  intro c hc
  simpa using hp c hc
 simp [h,this]
theorem ofP_eq (b:ByteArray):ofP b=ofR b:=by
 unfold ofP ofR
 by_cases h1:256<b.size
 ·
  rw [if_pos h1,if_pos h1]
 rw [if_neg h1,if_neg h1]
 cases hf:(ints b).findIdx? (fun c=> !plainC c) with
 |some i=>rfl
 |none=>
  dsimp only
  have hq:ints eqB= [61]:=rfl
  have hs:eqB.size=1:=rfl
  have h61:(ints b).take 1= [61]↔(ints b).headD 0=61:=by cases ints b<;>simp
  have hcut:cutB b eqB=if (ints b).headD 0=61 then (sub b 1 b.size,true) else (b,false):=by
   unfold cutB
   rw [hq,hs]
   by_cases h:(ints b).headD 0=61
   ·
    rw [if_pos (h61.2 h),if_pos h]
   ·
    rw [if_neg (fun h' =>h (h61.1 h')),if_neg h]
  rw [hcut]
  by_cases h2:(ints b).headD 0=61
  ·
   rw [if_pos h2,if_neg (by simp),if_neg (show ¬ ((ints b).headD 0≠61) from fun h=>h h2),tokensV_eq]
  ·
   rw [if_neg h2,if_pos rfl,if_pos h2,constP_eq (glyphE_plain h1 hf)]
end Go.SL
namespace Go.SL
open Go Go.Proofs
attribute [local irreducible] W WL WQ WG WA WX WLI WR WT WC VOp RW thn blk cutP scp retP retPP endB FnAt FnIn FnP ceP
theorem runL_whole {p:Int→Bool} {l:List Int} (h:runL p l=l.length): ∀ c∈l,p c=true:=by
 intro c hc
 have:c∈l.take (runL p l):=by rw [h,List.take_length];exact hc
 exact runL_mem' this
theorem decL_ge (l0:List Int): -9223372036854775808≤(decL l0).1:=by
 unfold decL
 extract_lets neg l n rest frac p5
 split
 ·
  show (-9223372036854775808:Int)≤0
  omega
 ·
  rename_i v _hc
  have h0:0≤natOf (l.take n++p5.take 4) 0:=by
   refine natOf_pos _ (fun c hc=> ?_) (Int.le_refl _)
   rcases List.mem_append.1 hc with hc|hc
   ·
    have:=runL_mem' (p:=digC) hc
    rw [digC_iff] at this
    exact this.1
   ·
    have hc:=List.mem_of_mem_take hc
    rcases List.mem_append.1 hc with hc|hc
    ·
     by_cases hf:frac=true
     ·
      rw [if_pos hf] at hc
      simp only [frac,Bool.and_eq_true,decide_eq_true_eq] at hf
      have hl:rest.tail.length=rest.length - 1:=List.length_tail
      have:=runL_whole (p:=digC) (l:=rest.tail) (by omega) c hc
      rw [digC_iff] at this
      exact this.1
     ·
      rw [if_neg hf] at hc
      cases hc
    ·
     simp only [List.mem_cons,List.not_mem_nil,or_false,or_self] at hc
     omega
  have hv0:0≤v:=by
   show 0≤natOf (l.take n++p5.take 4) 0+(if 53≤p5.getD 4 0 then 1 else 0)
   split<;>omega
  split
  ·
   show (-9223372036854775808:Int)≤0
   omega
  ·
   rename_i hv
   simp only [mostI] at hv
   split
   ·
    show (-9223372036854775808:Int)≤ -v
    omega
   ·
    show (-9223372036854775808:Int)≤v
    omega
set_option maxHeartbeats 2000000 in
theorem refConst_at (b : ByteArray) (hb : b.size ≤ 1000000) (w : World) : Pure Tryz.prog 121 [.string b] w (.agg (encV (constR b)).toArray) := by
  refine fn_at Tryz.func121 rfl Tryz.ntmps121 rfl ?_
  by_cases h0 : b = emptyB
  · subst h0
    repeat' (first | refine sT ?_ | refine sS ?_ | refine sT2 ?_ | refine sM fun _ => ?_ | (refine sC ?_ ?_ <;> intro hb <;> try omega) | fail)
    all_goals first
      | ((refine eRC ?_); rfl)
      | (exfalso; rename_i hb; exact hb rfl)
  have hpos : 0 < b.size := by
    rcases Nat.eq_zero_or_pos b.size with h | h
    · exact absurd (ByteArray.ext (Array.eq_empty_of_size_eq_zero h)) h0
    · exact h
  have hU := fun w => refUpper_at b hb w
  have hC := fun w => refCode_at b hb w
  have hD := fun w => refDec_at b hb w
  have hge := decL_ge (ints b)
  have hM := fun w => refMake_at _ hge w
  have hF := fun c w => refFail_at c w
  have hTr := fun c w => refTruth_at c w
  have hhd : (ints b).headD 0 = bat b 0 := by have := hd_bat (a := b) (i := 0); rwa [List.drop_zero] at this
  have hsub : sub b 1 b.size = mkB (ints b).tail := by
    refine mkB_eq ?_
    rw [ints_sub, List.drop_one, List.take_of_length_le]
    rw [List.length_tail, ints_length]; exact Nat.le_refl _
  unfold constR
  rw [if_neg h0, hhd]
  obtain ⟨u, hu⟩ : ∃ u, upB b = u := ⟨_, rfl⟩
  obtain ⟨⟨cn, ce⟩, hce⟩ : ∃ u, codeE b = u := ⟨_, rfl⟩
  obtain ⟨⟨dn, de⟩, hde⟩ : ∃ u, decL (ints b) = u := ⟨_, rfl⟩
  rw [hu] at hU ⊢
  rw [hce] at hC ⊢
  rw [hde] at hD hM hge ⊢
  dsimp only at hC hD hM hge ⊢
  by_cases h1 : bat b 0 = 39
  · rw [if_pos h1]
    repeat' (first | ((with_reducible apply wl_v (d := 7)); exact rfl; (with_reducible apply v_eqls_f); exact rfl; exact rfl; exact h0) | ((with_reducible apply wl_v (d := 10)); exact rfl; (with_reducible apply v_idx (j := 0)); exact rfl; exact rfl; exact hpos) | ((with_reducible apply wl_v (d := 13)); exact rfl; (with_reducible apply v_sub1 (lo := 1)); exact rfl; exact rfl; omega) | refine sT ?_ | refine sS ?_ | refine sT2 ?_ | refine sM fun _ => ?_ | (refine sC ?_ ?_ <;> intro hb <;> try omega) | fail)
    all_goals first
      | (exfalso; omega)
      | ((refine eRC ?_); rw [hsub]; rfl)
  rw [if_neg h1]
  by_cases h2 : u = trueB
  · rw [if_pos (.inl h2), decide_eq_true h2]
    repeat' (first | ((with_reducible apply wl_v (d := 7)); exact rfl; (with_reducible apply v_eqls_f); exact rfl; exact rfl; exact h0) | ((with_reducible apply wl_v (d := 10)); exact rfl; (with_reducible apply v_idx (j := 0)); exact rfl; exact rfl; exact hpos) | ((with_reducible apply wl_callp); exact rfl; exact rfl; (intro w hm; exact hU w)) | ((with_reducible apply wl_v (d := 17)); exact rfl; (with_reducible apply v_eqls_t); exact rfl; exact rfl; exact h2) | ((with_reducible apply wl_v (d := 25)); exact rfl; (with_reducible apply v_eqls_t); exact rfl; exact rfl; exact h2) | ((with_reducible apply wl_callp (f := 167)); exact rfl; exact rfl; (intro w' _; exact hTr true w')) | refine sT ?_ | refine sS ?_ | refine sT2 ?_ | refine sM fun _ => ?_ | (refine sC ?_ ?_ <;> intro hb <;> try omega) | fail)
    all_goals first
      | (exfalso; omega)
      | ((refine eRC ?_); rfl)
  by_cases h3 : u = falseB
  · rw [if_pos (.inr h3), decide_eq_false h2]
    repeat' (first | ((with_reducible apply wl_v (d := 7)); exact rfl; (with_reducible apply v_eqls_f); exact rfl; exact rfl; exact h0) | ((with_reducible apply wl_v (d := 10)); exact rfl; (with_reducible apply v_idx (j := 0)); exact rfl; exact rfl; exact hpos) | ((with_reducible apply wl_callp); exact rfl; exact rfl; (intro w hm; exact hU w)) | ((with_reducible apply wl_v (d := 17)); exact rfl; (with_reducible apply v_eqls_f); exact rfl; exact rfl; exact h2) | ((with_reducible apply wl_v (d := 21)); exact rfl; (with_reducible apply v_eqls_t); exact rfl; exact rfl; exact h3) | ((with_reducible apply wl_v (d := 25)); exact rfl; (with_reducible apply v_eqls_f); exact rfl; exact rfl; exact h2) | ((with_reducible apply wl_callp (f := 167)); exact rfl; exact rfl; (intro w' _; exact hTr false w')) | refine sT ?_ | refine sS ?_ | refine sT2 ?_ | refine sM fun _ => ?_ | (refine sC ?_ ?_ <;> intro hb <;> try omega) | fail)
    all_goals first
      | (exfalso; omega)
      | ((refine eRC ?_); rfl)
  rw [if_neg (by simp [h2, h3])]
  repeat' (first | ((with_reducible apply wl_v (d := 7)); exact rfl; (with_reducible apply v_eqls_f); exact rfl; exact rfl; exact h0) | ((with_reducible apply wl_v (d := 10)); exact rfl; (with_reducible apply v_idx (j := 0)); exact rfl; exact rfl; exact hpos) | ((with_reducible apply wl_callp); exact rfl; exact rfl; (intro w hm; exact hU w)) | ((with_reducible apply wl_v (d := 17)); exact rfl; (with_reducible apply v_eqls_f); exact rfl; exact rfl; exact h2) | ((with_reducible apply wl_v (d := 21)); exact rfl; (with_reducible apply v_eqls_f); exact rfl; exact rfl; exact h3) | ((with_reducible apply wl_callp); exact rfl; exact rfl; (intro w hm; exact hC w)) | ((with_reducible apply wl_callp); exact rfl; exact rfl; (intro w hm; exact hD w)) | ((with_reducible apply wl_callp); exact rfl; exact rfl; (intro w hm; exact hM w)) | ((with_reducible apply wl_callp (f := 169)); exact rfl; exact rfl; (intro w' _; exact hF _ w')) | refine sT ?_ | refine sS ?_ | refine sT2 ?_ | refine sM fun _ => ?_ | (refine sC ?_ ?_ <;> intro hb <;> try omega) | fail)
  all_goals first
    | (exfalso; omega)
    | ((refine eRC ?_)
       (repeat (first | rw [if_pos (by first | assumption | omega)] | rw [if_neg (by first | assumption | omega)]))
       rfl)
set_option maxHeartbeats 2000000 in
theorem refOf_at (b:ByteArray) (w:World):FnAt Tryz.prog 77 [.string b] w fun v H=> ∃ A cap,v=ofV A cap (ofP b)∧H= [.own A 136 11 (ofP b).1.tree.length cap ((ofP b).1.tree.flatMap encN)]:=by
 refine fn_at Tryz.func77 rfl Tryz.ntmps77 rfl ?_
 refine w_nilrow 136 11 ?_
 rw [ofP_eq]
 unfold ofR
 by_cases hlen:256<b.size
 ·
  rw [if_pos hlen]
  repeat' (first|refine sT ?_|refine sS ?_|refine sT2 ?_|refine sM fun _=> ?_|(refine sC ?_ ?_<;>intro hb<;>try omega)|fail)
  all_goals first
   |(exfalso;omega)
   |exact retctt eIO rfl rfl pK rfl rfl rfl (H' := [.own none 136 11 0 0 []]) mS ⟨none,0,rfl,rfl⟩
 rw [if_neg hlen]
 repeat' (first|refine sT ?_|refine sS ?_|refine sT2 ?_|refine sM fun _=> ?_|(refine sC ?_ ?_<;>intro hb<;>try omega)|fail)
 all_goals first|(exfalso;omega)|skip
 rename_i g2
 refine w_loopK [0,2] rfl (fun i:Nat=> [(5,.int .i64 (i:Int))]) (fun _=> [.box g2 122 [.bool false,.int .u8 0,.int .i64 0,.string emptyB,.slice none 0 0],.own none 136 11 0 0 []]) (fun i=>i≤b.size∧ ∀ j,j<i→plainC (bat b j)=true) (fun i=>b.size - i) 0 ⟨by omega,fun j h=>by omega⟩ sB mS ?_
 rintro i ⟨hi,hpl⟩
 by_cases hlt:i<b.size
 ·
  by_cases hc:plainC (bat b i)=true
  ·
   have hc' :=hc
   simp only [plainC,Bool.and_eq_true,decide_eq_true_eq] at hc'
   repeat' (first|((with_reducible apply wl_v (d:=21));exact rfl;(with_reducible apply v_idx (j:=i));exact rfl;exact rfl;omega)|((with_reducible apply wl_v (d:=26));exact rfl;(with_reducible apply v_idx (j:=i));exact rfl;exact rfl;omega)|refine sT ?_|refine sS ?_|refine sT2 ?_|refine sN ?_|refine sM fun _=> ?_|(refine sC ?_ ?_<;>intro hb<;>try omega)|fail)
   all_goals first|(exfalso;omega)|skip
   refine ⟨i+1,?_,(by first|omega|(dsimp only;omega)),sB,sB,mS⟩
   refine ⟨hlt,fun j hj=> ?_⟩
   rcases (by omega:j<i∨j=i) with h|rfl
   ·
    exact hpl j h
   ·
    exact hc
  ·
   have hc' :=hc
   simp only [plainC,Bool.and_eq_true,decide_eq_true_eq] at hc'
   have hf:(ints b).findIdx? (fun c=> !plainC c)=some i:=find_bat hlt (by simp [hc]) fun j hj=>by rw [hpl j hj];rfl
   rw [hf]
   repeat' (first|((with_reducible apply wl_v (d:=21));exact rfl;(with_reducible apply v_idx (j:=i));exact rfl;exact rfl;omega)|((with_reducible apply wl_v (d:=26));exact rfl;(with_reducible apply v_idx (j:=i));exact rfl;exact rfl;omega)|refine sT ?_|refine sS ?_|refine sT2 ?_|refine sN ?_|refine sM fun _=> ?_|(refine sC ?_ ?_<;>intro hb<;>try omega)|fail)
   all_goals first
    |(exfalso;omega)
    |exact retctt eIO rfl rfl pK rfl rfl rfl (H' := [.own none 136 11 0 0 []]) mS ⟨none,0,rfl,rfl⟩
 ·
  have e:i=b.size:=by omega
  subst e
  have hf:(ints b).findIdx? (fun c=> !plainC c)=none:=nofind_bat fun j hj=>by rw [hpl j hj];rfl
  rw [hf]
  dsimp only
  have hhd:(ints b).headD 0=bat b 0:=by have:=hd_bat (a:=b) (i:=0);rwa [List.drop_zero] at this
  rw [hhd]
  have hC:=fun w=>refConst_at b (by omega) w
  by_cases h61:bat b 0≠61
  ·
   rw [if_pos h61]
   by_cases h0:b=emptyB
   ·
    repeat' (first|((with_reducible apply wl_v (d:=32));exact rfl;(with_reducible apply v_eqls_t);exact rfl;exact rfl;exact h0)|((with_reducible apply wl_callp);exact rfl;exact rfl;(intro w hm;exact hC w))|refine sT ?_|refine sS ?_|refine sT2 ?_|refine sN ?_|refine sM fun _=> ?_|(refine sC ?_ ?_<;>intro hb<;>try omega)|fail)
    all_goals first
     |(exfalso;omega)
     |exact retctt eIO rfl rfl pK rfl rfl rfl (H' := [.own none 136 11 0 0 []]) mS ⟨none,0,rfl,rfl⟩
   ·
    have hpos:0<b.size:=by
     rcases Nat.eq_zero_or_pos b.size with h|h
     ·
      exact absurd (ByteArray.ext (Array.eq_empty_of_size_eq_zero h)) h0
     ·
      exact h
    repeat' (first|((with_reducible apply wl_v (d:=32));exact rfl;(with_reducible apply v_eqls_f);exact rfl;exact rfl;exact h0)|((with_reducible apply wl_v (d:=35));exact rfl;(with_reducible apply v_idx (j:=0));exact rfl;exact rfl;exact hpos)|((with_reducible apply wl_callp);exact rfl;exact rfl;(intro w hm;exact hC w))|refine sT ?_|refine sS ?_|refine sT2 ?_|refine sN ?_|refine sM fun _=> ?_|(refine sC ?_ ?_<;>intro hb<;>try omega)|fail)
    all_goals first
     |(exfalso;omega)
     |exact retctt eIO rfl rfl pK rfl rfl rfl (H' := [.own none 136 11 0 0 []]) mS ⟨none,0,rfl,rfl⟩
  ·
   rw [if_neg h61]
   have h61:bat b 0=61:=Classical.not_not.1 h61
   have hpos:0<b.size:=by
    rcases Nat.eq_zero_or_pos b.size with h|h
    ·
     rw [bat_out (by omega)] at h61;cases h61
    ·
     exact h
   have h0:b≠emptyB:=by
    rintro rfl
    exact absurd hpos (by decide)
   have hF:=fun (w' :World)=>refFormula_at (sub b 1 b.size) w' _ rfl
   obtain ⟨⟨t,at0,e0⟩,hr⟩: ∃ x,formulaV (tokensV tokenR (ints (sub b 1 b.size))) ((sub b 1 b.size).size:Int)=x:=⟨_,rfl⟩
   simp only [hr,treeV] at hF
   rw [hr]
   dsimp only
   by_cases he:e0≠0
   ·
    rw [if_pos he]
    repeat' (first|((with_reducible apply wl_v (d:=32));exact rfl;(with_reducible apply v_eqls_f);exact rfl;exact rfl;exact h0)|((with_reducible apply wl_v (d:=35));exact rfl;(with_reducible apply v_idx (j:=0));exact rfl;exact rfl;exact hpos)|((with_reducible apply wl_v (d:=43));exact rfl;(with_reducible apply v_sub1 (lo:=1));exact rfl;exact rfl;omega)|((with_reducible apply wl_call (f:=122));exact rfl;exact rfl;(intro w' hm';exact hF w');rintro _ _ ⟨A,cap,rfl,rfl⟩)|((with_reducible apply wl_v);exact rfl;(with_reducible apply v_addw);exact rfl;exact rfl)|refine sT ?_|refine sS ?_|refine sT2 ?_|refine sN ?_|refine sM fun _=> ?_|(refine sC ?_ ?_<;>intro hb<;>try omega)|fail)
    all_goals first
     |(exfalso;omega)
     |exact retctt eIO rfl rfl pK rfl rfl rfl (H' := [.own none 136 11 0 0 []]) mS ⟨none,0,rfl,rfl⟩
   ·
    rw [if_neg he]
    repeat' (first|((with_reducible apply wl_v (d:=32));exact rfl;(with_reducible apply v_eqls_f);exact rfl;exact rfl;exact h0)|((with_reducible apply wl_v (d:=35));exact rfl;(with_reducible apply v_idx (j:=0));exact rfl;exact rfl;exact hpos)|((with_reducible apply wl_v (d:=43));exact rfl;(with_reducible apply v_sub1 (lo:=1));exact rfl;exact rfl;omega)|((with_reducible apply wl_call (f:=122));exact rfl;exact rfl;(intro w' hm';exact hF w');rintro _ _ ⟨A,cap,rfl,rfl⟩)|((with_reducible apply wl_v);exact rfl;(with_reducible apply v_addw);exact rfl;exact rfl)|refine sT ?_|refine sS ?_|refine sT2 ?_|refine sN ?_|refine sM fun _=> ?_|(refine sC ?_ ?_<;>intro hb<;>try omega)|fail)
    all_goals first
     |(exfalso;omega)
     |exact retctt eIO rfl rfl pK rfl rfl rfl (H' := [.own A 136 11 t.length cap (t.flatMap encN)]) mS ⟨A,cap,rfl,rfl⟩
set_option maxHeartbeats 2000000 in
theorem refFault_at (L:List Et) (tv:Value) (w:World) (ht:Reads w tv L.length (L.flatMap encEt)) (i:Nat) (hlt:i<L.length):
  Pure Tryz.prog 128 [tv,.int .i64 (i:Int)] w (.int .i64 (faultOf (befEt L i) L[i])):=by
 obtain ⟨Al,cl,rfl,hl1,hl2,hl3⟩:=ht
 refine fn_at Tryz.func128 rfl Tryz.ntmps128 rfl ?_
 obtain ⟨gl,ol,rfl,hrl⟩:=hl3 (by omega)
 have he:=hrl.elem encEt_len i hlt
 have hprev: ∀ h:0<i,Ro w gl (ol+(i - 1)*3) (encEt L[i - 1]):=fun h=>hrl.elem encEt_len (i - 1) (by omega)
 have hbef: ∀ h:0<i,befEt L i=some L[i - 1].at_:=fun h=>by unfold befEt;rw [if_neg (by omega),List.getElem?_eq_getElem (by omega)];rfl
 have hbef0:i=0→befEt L i=none:=fun h=>by unfold befEt;rw [if_pos h]
 generalize L[i]=e at he ⊢
 obtain ⟨fo,hfo⟩: ∃ fo,faultOf (befEt L i) e=fo:=⟨_,rfl⟩
 rw [hfo]
 have hV: ∀ w',Pure Tryz.prog 76 [.agg (encF e.at_).toArray] w' (.bool e.at_.valid):=fun w' =>refValid_at e.at_.col e.at_.row w'
 have hO:=fun (w' :World)=>refOf_at e.input w'
 have hofV: ∀ (A:Option Nat) (cap:Nat),ofV A cap (ofP e.input)= .tuple #[.agg (encM (ofP e.input).1 (sl A (ofP e.input).1.tree.length cap)).toArray,.int .i64 (ofP e.input).2.1,.int .i64 (ofP e.input).2.2]:=fun _ _=>rfl
 simp only [hofV] at hO
 unfold faultOf at hfo
 generalize ofP e.input=o at hO hfo
 obtain ⟨⟨f1,f2,f3⟩,oa,oe⟩:=o
 simp only [encM] at hO
 generalize e.at_.valid=vd at hV hfo
 have hle: ∀ (w' :World),True:=fun _=>trivial
 by_cases h0:0<i
 ·
  have hp:=hprev h0
  rw [hbef h0] at hfo
  generalize L[i - 1]=b at hp hfo
  have hL:=fun w' =>refLess_at b.at_ e.at_ w'
  replace hfo:(if vd=false then (3:Int) else if lessF b.at_ e.at_=false then 12 else if e.input=emptyB then 2 else oe)=fo:=hfo
  generalize lessF b.at_ e.at_=ls at hL hfo
  repeat' (first|((with_reducible apply wl_v (d:=10));exact rfl;(with_reducible apply v_indexAddr);exact rfl;exact rfl;exact hlt)|((with_reducible apply wl_v (d:=12));exact rfl;(with_reducible apply v_loads_ro (off:=0) (ys:=encF e.at_) he);(iterate 3 exact rfl))|((with_reducible apply wq_v (d:=20));exact rfl;(with_reducible apply v_predN);exact rfl;exact rfl;exact h0;(simp only [maxLen] at*;omega))|((with_reducible apply wq_v (d:=21));exact rfl;(with_reducible apply v_indexAddr (j:=i - 1));exact rfl;exact rfl;omega)|((with_reducible apply wq_v (d:=23));exact rfl;(with_reducible apply v_loads_ro (off:=0) (ys:=encF b.at_) hp);(iterate 3 exact rfl))|((with_reducible apply wq_v (d:=26));exact rfl;(with_reducible apply v_indexAddr (j:=i));exact rfl;exact rfl;exact hlt)|((with_reducible apply wq_v (d:=28));exact rfl;(with_reducible apply v_loads_ro (off:=0) (ys:=encF e.at_) he);(iterate 3 exact rfl))|((with_reducible apply wl_v (d:=34));exact rfl;(with_reducible apply v_indexAddr);exact rfl;exact rfl;exact hlt)|((with_reducible apply wl_v (d:=36));exact rfl;(with_reducible apply v_loadf_ro (off:=2));exact rfl;exact he;exact rfl)|((with_reducible apply wl_v (d:=41));exact rfl;(with_reducible apply v_indexAddr);exact rfl;exact rfl;exact hlt)|((with_reducible apply wl_v (d:=43));exact rfl;(with_reducible apply v_loadf_ro (off:=2));exact rfl;exact he;exact rfl)|((with_reducible apply wl_callp);exact rfl;exact rfl;(intro w hm;exact hV w))|((with_reducible apply wq_callp);exact rfl;exact rfl;(intro w hm;exact hL w))|((with_reducible apply wl_call (f:=77));exact rfl;exact rfl;(intro w' hm;exact hO w');rintro _ _ ⟨A,cap,rfl,rfl⟩)|refine sT ?_|refine sS ?_|refine sQ ?_|refine sN ?_|refine sNQ ?_|refine sD ?_|refine sM fun _=> ?_|(refine sC ?_ ?_<;>intro hb<;>try omega)|(refine sCQ ?_ ?_<;>intro hb<;>try omega)|fail)
  all_goals (refine ret1 eIO rfl rfl (.nil _) ?_;simp_all [emptyB];done)
 ·
  rw [hbef0 (by omega)] at hfo
  repeat' (first|((with_reducible apply wl_v (d:=10));exact rfl;(with_reducible apply v_indexAddr);exact rfl;exact rfl;exact hlt)|((with_reducible apply wl_v (d:=12));exact rfl;(with_reducible apply v_loads_ro (off:=0) (ys:=encF e.at_) he);(iterate 3 exact rfl))|((with_reducible apply wl_v (d:=34));exact rfl;(with_reducible apply v_indexAddr);exact rfl;exact rfl;exact hlt)|((with_reducible apply wl_v (d:=36));exact rfl;(with_reducible apply v_loadf_ro (off:=2));exact rfl;exact he;exact rfl)|((with_reducible apply wl_v (d:=41));exact rfl;(with_reducible apply v_indexAddr);exact rfl;exact rfl;exact hlt)|((with_reducible apply wl_v (d:=43));exact rfl;(with_reducible apply v_loadf_ro (off:=2));exact rfl;exact he;exact rfl)|((with_reducible apply wl_callp);exact rfl;exact rfl;(intro w hm;exact hV w))|((with_reducible apply wl_call (f:=77));exact rfl;exact rfl;(intro w' hm;exact hO w');rintro _ _ ⟨A,cap,rfl,rfl⟩)|refine sT ?_|refine sS ?_|refine sQ ?_|refine sN ?_|refine sNQ ?_|refine sD ?_|refine sM fun _=> ?_|(refine sC ?_ ?_<;>intro hb<;>try omega)|(refine sCQ ?_ ?_<;>intro hb<;>try omega)|fail)
  all_goals first
   |(exfalso;omega)
   |(refine ret1 eIO rfl rfl (.nil _) ?_;simp_all [emptyB];done)
theorem refCheckEt_at (L : List Et) (tv : Value) (w : World) (ht : Reads w tv L.length (L.flatMap encEt)) (hlen : L.length ≤ 1000000) :
    Pure Tryz.prog 87 [tv] w (.tuple #[.int .i64 (checkEt L).1, .int .i64 (checkEt L).2]) := by
  have hF := fun (w' : World) (H' : List Blk) (hm : Mem w w' H') (i : Nat) (hi : i < L.length) => refFault_at L tv w' (ht.of_w0 hm) i hi
  obtain ⟨Al, cl, rfl, hl1, hl2, hl3⟩ := ht
  refine fn_at Tryz.func87 rfl Tryz.ntmps87 rfl ?_
  repeat' (first | refine sT ?_ | refine sS ?_ | refine sM fun _ => ?_ | (refine sC ?_ ?_ <;> intro hb <;> try omega) | fail)
  refine w_loopK [0] rfl (fun i : Nat => [(4, .int .i64 (i : Int))]) (fun _ => []) (fun i => i ≤ L.length ∧ checkEt L = checkFrom i (befEt L i) (L.drop i)) (fun i => L.length - i) 0 ⟨by omega, rfl⟩ sB (.refl _) ?_
  rintro i ⟨hi, hck⟩
  by_cases hlt : i < L.length
  · have hF := fun w' H' hm => hF w' H' hm i hlt
    have hnext : befEt L (i + 1) = some L[i].at_ := by unfold befEt; rw [if_neg (by omega), Nat.add_sub_cancel, List.getElem?_eq_getElem hlt]; rfl
    rw [List.drop_eq_getElem_cons hlt, checkFrom, ← hnext] at hck
    generalize faultOf (befEt L i) L[i] = e at hF hck
    repeat' (first | ((with_reducible apply wl_callp (f := 128)); exact rfl; exact rfl; (intro w' hm; exact hF w' _ hm)) | refine sT ?_ | refine sS ?_ | refine sN ?_ | refine sM fun _ => ?_ | (refine sC ?_ ?_ <;> intro hb <;> try omega) | fail)
    all_goals first
      | (exfalso; omega)
      | (refine ret2 eIO rfl rfl rfl (.nil _) ?_; rw [hck, if_pos (by assumption)]; done)
      | (rw [if_neg (by assumption)] at hck
         refine ⟨i + 1, ⟨hlt, hck⟩, by omega, ?_, ?_, .nil _⟩
         · exact sB
         · exact sB)
  · have e2 : i = L.length := by omega
    subst e2
    rw [List.drop_length, checkFrom] at hck
    repeat' (first | refine sT ?_ | refine sS ?_ | refine sM fun _ => ?_ | (refine sC ?_ ?_ <;> intro hb <;> try omega) | fail)
    all_goals first
      | (exfalso; omega)
      | (refine ret2 eIO rfl rfl rfl (.nil _) ?_; rw [hck])
end Go.SL
namespace Go.SL
open Go Go.Proofs
attribute [local irreducible] W WL WQ WG WA VOp thn blk cutP retP FnAt FnIn Held
theorem rectOk_iff (r:Rct):rectOk r=true↔1≤r.c1∧r.c1≤1024∧1≤r.r1∧r.r1≤1024∧1≤r.c2∧r.c2≤1024∧1≤r.r2∧r.r2≤1024∧r.c1≤r.c2∧r.r1≤r.r2:=by
 simp only [rectOk,valid,Bool.and_eq_true,decide_eq_true_eq]
 omega
theorem touch_iff (r:Rct) (u:Us):touch r u=true↔rectOk u.rect=true∧rectOk r=true∧u.rect.c1≤r.c2∧r.c1≤u.rect.c2∧u.rect.r1≤r.r2∧r.r1≤u.rect.r2:=by
 have h:touch r u= [u.rect,r,meetM u.rect r].all rectOk:=by
  unfold touch meetR
  cases [u.rect,r,meetM u.rect r].all rectOk<;>simp
 rw [h]
 simp only [List.all_cons,List.all_nil,Bool.and_true,Bool.and_eq_true,rectOk_iff]
 generalize u.rect=a
 unfold meetM
 dsimp only
 repeat' split
 all_goals omega
theorem walkT_fields (L:List Nd): ∀ (r:List Nd) (i:Nat) (st:List Pt) (vs:List Visit),(walkT L r i st vs).1=0→ ∀ n∈r,fieldsE n=0
 | [],_,_,_=>fun _ _ h=>by cases h
 |n::r,i,st,vs=>by
  intro h
  rw [walkT] at h
  have hn:fieldsE n=0:=by
   by_cases hf:fieldsE n=0
   ·
    exact hf
   ·
    unfold stepT at h
    rw [if_pos hf] at h
    exact h
  cases hs:stepT L n i st with
  |inl e=>
   rw [hs] at h
   dsimp only at h
   unfold stepT at hs
   rw [if_neg (by omega)] at hs
   split at hs
   ·
    injection hs with hs;omega
   ·
    split at hs
    ·
     injection hs with hs;omega
    ·
     cases hs
  |inr y=>
   obtain ⟨st',kids,d⟩:=y
   rw [hs] at h
   intro m hm
   rcases List.mem_cons.1 hm with rfl|hm
   ·
    exact hn
   ·
    exact walkT_fields L r _ _ _ h m hm
theorem check_fields {L:List Nd} (h:checkE L=0): ∀ n∈L,fieldsE n=0:=by
 refine walkT_fields L L 0 [] [] ?_
 unfold checkE checkT at h
 split at h
 ·
  cases h
 split at h
 ·
  cases h
 split at h
 ·
  rename_i h3
  exact absurd h h3
 ·
  rename_i h3
  omega
theorem fields_rect {n:Nd} (h:fieldsE n=0) (hr:rangesF n=true):rectOk n.rect=true:=by
 unfold fieldsE at h
 split at h
 ·
  cases h
 rename_i hk
 have hk1:kindOk n=true:=by
  cases hh:kindOk n
  ·
   exact absurd (Or.inl hh) hk
  ·
   rfl
 simp only [rangesF,Bool.or_eq_true,decide_eq_true_eq] at hr
 unfold kindOk at hk1
 rw [if_neg (by omega),if_pos hr] at hk1
 simp only [Bool.and_eq_true,decide_eq_true_eq] at hk1
 have h1:=hk1.1
 unfold rectE at h1
 cases hq:rectOk n.rect
 ·
  rw [hq] at h1;cases h1
 ·
  rfl
theorem rectE_ne {r:Rct}:rectE r≠0↔rectOk r=false:=by unfold rectE;cases rectOk r<;>simp
theorem any_congr {α:Type} {f g:α→Bool}: ∀ {L:List α},(∀ x∈L,f x=g x)→L.any f=L.any g
 | [],_=>rfl
 |x::r,h=>by rw [List.any_cons,List.any_cons,h x List.mem_cons_self,any_congr fun y hy=>h y (List.mem_cons_of_mem _ hy)]
end Go.SL
namespace Go.SL
open Go
theorem usesFrom_rect: ∀ (L:List Nd) (i:Nat),∀ u∈usesFrom L i,∃ n∈L,rangesF n=true∧u.rect=n.rect
 | [],_,u,h=>by cases h
 |n::r,i,u,h=>by
  rw [usesFrom] at h
  cases hr:rangesF n with
  |false=>
   rw [hr,cond_false] at h
   obtain ⟨m,hm,h1,h2⟩:=usesFrom_rect r (i+1) u h
   exact ⟨m,List.mem_cons_of_mem _ hm,h1,h2⟩
  |true=>
   rw [hr,cond_true] at h
   rcases List.mem_cons.1 h with rfl|h
   ·
    refine ⟨n,List.mem_cons_self,hr,?_⟩
    unfold useOf
    cases r with
    |nil=>rfl
    |cons m q=>dsimp only;split<;>rfl
   ·
    obtain ⟨m,hm,h1,h2⟩:=usesFrom_rect r (i+1) u h
    exact ⟨m,List.mem_cons_of_mem _ hm,h1,h2⟩
theorem uses_rect {L:List Nd} (h:checkE L=0): ∀ u∈usesF L,rectOk u.rect=true:=fun u hu=>by
 obtain ⟨n,hn,h1,h2⟩:=usesFrom_rect L 0 u hu
 rw [h2]
 exact fields_rect (check_fields h n hn) h1
structure EntOk (e:Rf × List Nd × List Us):Prop where
 at_:e.1.valid=true
 tree:checkE e.2.1=0
 uses:e.2.2=usesF e.2.1
 len:e.2.1.length≤256
theorem EntOk.rect {e:Rf × List Nd × List Us} (h:EntOk e): ∀ u∈e.2.2,rectOk u.rect=true:=by
 rw [h.uses];exact uses_rect h.tree
structure GrOk (G:Gr):Prop where
 sort:SortG G
 ent: ∀ e∈G,EntOk e
theorem grOk_nil:GrOk []:=⟨sortG_nil,fun _ h=>by cases h⟩
theorem GrOk.set {G:Gr} (h:GrOk G) (a:Rf) (b:ByteArray):GrOk (setG G a b).1:=by
 refine ⟨sortG_set h.sort a b,?_⟩
 unfold setG
 split
 ·
  exact h.ent
 ·
  rename_i hv
  split
  ·
   exact h.ent
  ·
   rename_i he
   split
   ·
    exact fun e he=>h.ent e (mem_delG.1 he).1
   ·
    rename_i hf
    intro e hm
    rcases mem_insG.1 hm with rfl|⟨hm,_⟩
    ·
     exact ⟨by simpa using hv,ofP_tree (by simpa using he) (by simpa using hf),rfl,ofP_len b⟩
    ·
     exact h.ent e hm
theorem setG_len (G:Gr) (a:Rf) (b:ByteArray):(setG G a b).1.length≤G.length+1:=by
 unfold setG
 split
 ·
  exact Nat.le_succ _
 ·
  split
  ·
   exact Nat.le_succ _
  ·
   split
   ·
    exact Nat.le_trans (List.length_filter_le _ _) (Nat.le_succ _)
   ·
    simp only [insG,List.length_append,List.length_cons]
    have:(G.filter fun e=>lessF e.1 a).length+(G.filter fun e=>lessF a e.1).length≤G.length:=by
     induction G with
     |nil=>simp
     |cons e r ih=>
      simp only [List.filter_cons,List.length_cons]
      cases h1:lessF e.1 a
      ·
       cases h2:lessF a e.1<;>simp<;>omega
      ·
       rw [lessF_asymm h1];simp;omega
    omega
theorem valid_iff {c r:Int}:valid c r=true↔1≤c∧c≤1024∧1≤r∧r≤1024:=by
 simp only [valid,Bool.and_eq_true,decide_eq_true_eq]
 omega
theorem rect_one {c r:Int}:rectOk (oneA c r)=valid c r:=by
 rw [Bool.eq_iff_iff,rectOk_iff,valid_iff]
 simp only [oneA]
 omega
theorem has_touch {u:Us} {a:Rf} (hu:rectOk u.rect=true) (ha:a.valid=true):hasR u.rect a=touch (oneA a.col a.row) u:=by
 rw [Bool.eq_iff_iff,touch_iff,rect_one]
 have hv:valid a.col a.row=true:=ha
 simp only [hasR,Bool.and_eq_true,decide_eq_true_eq,oneA,hu,hv,true_and]
 omega
theorem lookG_mem {G:Gr} (h:SortG G) {e:Rf × List Nd × List Us} (he:e∈G):lookG G e.1=some e.2:=(lookG_some h).2 he
theorem usesG_mem {G:Gr} (h:SortG G) {e:Rf × List Nd × List Us} (he:e∈G):usesG G e.1=e.2.2:=by rw [usesG,lookG_mem h he];rfl
theorem mem_keysG {G:Gr} {c:Rf}:c∈keysG G↔ ∃ e∈G,e.1=c:=by simp [keysG]
theorem mem_users {G:Gr} (h:SortG G) {r:Rct} (hr:rectOk r=true) {c:Rf} (hc:c∈keysG G):c∈usersG G r↔touchesU (usesG G c) r=true:=by
 obtain ⟨e,he,rfl⟩:=mem_keysG.1 hc
 rw [usersG,if_neg (by rw [rectE_ne,hr];simp),usesG_mem h he]
 simp only [List.mem_map,List.mem_filter]
 constructor
 ·
  rintro ⟨f,⟨hf,h1⟩,h2⟩
  have:=inj_of_map (fun e:Rf × List Nd × List Us=>e.1) h.nodup hf he h2
  rw [← this];exact h1
 ·
  intro h1
  exact ⟨e,⟨he,h1⟩,rfl⟩
theorem users_keys {G:Gr} {r:Rct}: ∀ c∈usersG G r,c∈keysG G:=by
 intro c hc
 unfold usersG at hc
 split at hc
 ·
  cases hc
 ·
  simp only [List.mem_map,List.mem_filter] at hc
  obtain ⟨e,⟨he,_⟩,h⟩:=hc
  exact mem_keysG.2 ⟨e,he,h⟩
theorem users_len {G:Gr} {r:Rct}:(usersG G r).length≤G.length:=by
 unfold usersG
 split
 ·
  exact Nat.zero_le _
 ·
  rw [List.length_map];exact List.length_filter_le _ _
theorem GOk.all {R:List Blk} {E:List En} {clock:Nat} {G:Gr} (h:GOk R E clock G):allE E=G.flatMap fun e=>e.2.2.map fun u=>(e.1,u):=by
 rw [allE,h.forms,keysG,List.flatMap_map]
 have: ∀ L:Gr,(∀ e∈L,e∈G)→L.flatMap (fun e=>usesRow E e.1)=L.flatMap fun e=>e.2.2.map fun u=>(e.1,u):=by
  intro L
  induction L with
  |nil=>intro _;rfl
  |cons e r ih=>
   intro hL
   rw [List.flatMap_cons,List.flatMap_cons,ih fun f hf=>hL f (List.mem_cons_of_mem _ hf),usesRow,h.uses,usesG_mem h.sort (hL e List.mem_cons_self)]
 exact this G fun _ h=>h
theorem fold_same (r:Rct) (a:Rf): ∀ (us:List Us) (out:List Rf),out.getLast? =some a→(us.map fun u=>(a,u)).foldl (usersStep r) out=out
 | [],_,_=>rfl
 |u::q,out,h=>by
  rw [List.map_cons,List.foldl_cons]
  have:usersStep r out (a,u)=out:=by
   rw [usersStep_eq,h]
   simp
  rw [this]
  exact fold_same r a q out h
theorem fold_row (r:Rct) (a:Rf): ∀ (us:List Us) (out:List Rf),out.getLast? ≠some a→(us.map fun u=>(a,u)).foldl (usersStep r) out=if touchesU us r then out++ [a] else out
 | [],out,_=>rfl
 |u::q,out,h=>by
  rw [List.map_cons,List.foldl_cons,touchesU,List.any_cons]
  have hs:usersStep r out (a,u)=if touch r u then out++ [a] else out:=by
   rw [usersStep_eq]
   cases ho:out.getLast? with
   |none=>simp
   |some b=>
    have:b≠a:=by rintro rfl;exact h ho
    simp [this]
  rw [hs]
  cases ht:touch r u with
  |true=>
   simp only [if_true,Bool.true_or]
   exact fold_same r a q _ (by simp)
  |false=>
   simp only [Bool.false_eq_true,if_false,Bool.false_or]
   exact fold_row r a q out h
theorem fold_users (r:Rct): ∀ (L:Gr) (out:List Rf),SortG L→(∀ e∈L,out.getLast? ≠some e.1)→(L.flatMap fun e=>e.2.2.map fun u=>(e.1,u)).foldl (usersStep r) out=out++(L.filter fun e=>touchesU e.2.2 r).map fun e=>e.1
 | [],out,_,_=>by simp
 |e::q,out,hs,hl=>by
  obtain ⟨h1,h2⟩:=List.pairwise_cons.1 hs
  rw [List.flatMap_cons,List.foldl_append,fold_row r e.1 e.2.2 out (hl e List.mem_cons_self),List.filter_cons]
  cases ht:touchesU e.2.2 r with
  |true=>
   rw [if_pos rfl,if_pos rfl,fold_users r q _ h2,List.map_cons,List.append_assoc,List.singleton_append]
   intro f hf
   rw [List.getLast?_append,List.getLast?_singleton,Option.some_or]
   intro he
   exact lessF_ne (h1 f hf) (Option.some.inj he)
  |false=>
   rw [if_neg (by simp),if_neg (by simp),fold_users r q _ h2]
   exact fun f hf=>hl f (List.mem_cons_of_mem _ hf)
theorem GOk.users {R:List Blk} {E:List En} {clock:Nat} {G:Gr} (h:GOk R E clock G) (r:Rct):usersP E r=usersG G r:=by
 unfold usersP usersG
 split
 ·
  rfl
 ·
  rw [h.all,fold_users r G [] h.sort (fun _ _=>by simp),List.nil_append]
theorem GOk.allLen {R:List Blk} {E:List En} {clock:Nat} {G:Gr} (h:GOk R E clock G) (hG:GrOk G):(allE E).length≤256*G.length:=by
 rw [h.all]
 have: ∀ L:Gr,(∀ e∈L,EntOk e)→(L.flatMap fun e=>e.2.2.map fun u=>(e.1,u)).length≤256*L.length:=by
  intro L
  induction L with
  |nil=>intro _;simp
  |cons e r ih=>
   intro hL
   have h1:=ih fun f hf=>hL f (List.mem_cons_of_mem _ hf)
   have h2:=hL e List.mem_cons_self
   have h3:e.2.2.length≤256:=by
    rw [h2.uses]
    exact Nat.le_trans (usesFrom_len _ _) h2.len
   rw [List.flatMap_cons,List.length_append,List.length_map,List.length_cons]
   omega
 exact this G hG.ent
end Go.SL
namespace Go.SL
open Go Go.Proofs
attribute [local irreducible] W WL WQ WG WA WX WLI WR WT WC VOp RW thn blk cutP scp retP retPP endB FnAt FnIn FnP ceP
def encQ (e:En):List Value:= [.int .i64 e.at_.col,.int .i64 e.at_.row,e.tv,e.uv]
theorem encQ_len (e:En):(encQ e).length=4:=rfl
def rgB (g:Nat) (A:Option Nat) (cap:Nat) (L:List En):List Blk:= [.box g 129 [sl A L.length cap],.own A 132 4 L.length cap (L.flatMap encQ)]
structure RGOk (R:List Blk) (L:List En) (G:Gr):Prop where
 en: ∀ e∈L,EnOk R e
 rel:L.map En.abs=G
theorem RGOk.sub {R R' :List Blk} {L:List En} {G:Gr} (h:RGOk R L G) (hs:MSub R R'):RGOk R' L G:=⟨fun e he=>(h.en e he).sub hs,h.rel⟩
theorem RGOk.len {R:List Blk} {L:List En} {G:Gr} (h:RGOk R L G):L.length=G.length:=by rw [← h.rel,List.length_map]
def stepQ (a:Rf) (x:En) (st:List En × Bool) (e:En):List En × Bool:=
 let st1:=if st.2=false∧lessF a e.at_=true then (st.1++ [x],true) else st
 (if e.at_≠a then st1.1++ [e] else st1.1,st1.2)
def endQ (x:En) (st:List En × Bool):List En:=if st.2 then st.1 else st.1++ [x]
def setQ (a:Rf) (x:En) (d:Bool) (L:List En):List En:=endQ x (L.foldl (stepQ a x) ([],d))
theorem fold_del (a:Rf) (x:En): ∀ (L:List En) (O:List En),L.foldl (stepQ a x) (O,true)=(O++L.filter (fun e=>decide (e.at_≠a)),true)
 | [],O=>by simp
 |e::r,O=>by
  rw [List.foldl_cons]
  have:stepQ a x (O,true) e=(if e.at_≠a then O++ [e] else O,true):=by simp [stepQ]
  rw [this,fold_del a x r,List.filter_cons]
  by_cases h:e.at_≠a
  ·
   simp [h]
  ·
   simp [h]
theorem setQ_del (a:Rf) (x:En) (L:List En):(setQ a x true L).map En.abs=delG (L.map En.abs) a:=by
 unfold setQ
 rw [fold_del]
 simp only [endQ,if_true,List.nil_append,delG,List.filter_map]
 rfl
theorem fold_ins {a:Rf} {x:En}: ∀ (L:List En) (O:List En),SortG (L.map En.abs)→
  endQ x (L.foldl (stepQ a x) (O,false))=O++(L.filter (fun e=>lessF e.at_ a)++x::L.filter fun e=>lessF a e.at_)
 | [],O,_=>by simp [endQ]
 |e::r,O,hs=>by
  rw [List.map_cons] at hs
  obtain ⟨h1,h2⟩:=List.pairwise_cons.1 hs
  rw [List.foldl_cons,List.filter_cons,List.filter_cons]
  cases hl:lessF a e.at_ with
  |true=>
   have hne:e.at_≠a:=(lessF_ne hl).symm
   have hge:lessF e.at_ a=false:=lessF_asymm hl
   have hst:stepQ a x (O,false) e=(O++ [x]++ [e],true):=by simp [stepQ,hl,hne]
   have hall: ∀ f∈r,lessF a f.at_=true:=fun f hf=>lessF_trans hl (h1 f.abs (List.mem_map.2 ⟨f,hf,rfl⟩))
   have e1:r.filter (fun f=>decide (f.at_≠a))=r:=List.filter_eq_self.2 fun f hf=>by simpa using (lessF_ne (hall f hf)).symm
   have e2:r.filter (fun f=>lessF f.at_ a)= []:=List.filter_eq_nil_iff.2 fun f hf=>by rw [lessF_asymm (hall f hf)];simp
   have e3:r.filter (fun f=>lessF a f.at_)=r:=List.filter_eq_self.2 hall
   rw [hst,fold_del,hge,e1,e2,e3]
   simp [endQ]
  |false=>
   by_cases hne:e.at_=a
   ·
    have hst:stepQ a x (O,false) e=(O,false):=by simp [stepQ,hne,lessF_irr]
    have hle:lessF e.at_ a=false:=by rw [hne];exact lessF_irr a
    rw [hst,fold_ins r O h2,hle]
    simp
   ·
    have hst:stepQ a x (O,false) e=(O++ [e],false):=by simp [stepQ,hl,hne]
    have hle:lessF e.at_ a=true:=by
     rcases lessF_or hne with h|h
     ·
      exact h
     ·
      rw [hl] at h;cases h
    rw [hst,fold_ins r _ h2,hle]
    simp
theorem setQ_ins {a:Rf} {x:En} (hx:x.at_=a) {L:List En} (hs:SortG (L.map En.abs)):(setQ a x false L).map En.abs=insG (L.map En.abs) a (x.tree,x.uses):=by
 unfold setQ
 rw [fold_ins L [] hs,List.nil_append,List.map_append,List.map_cons,insG,List.filter_map,List.filter_map]
 subst hx
 rfl
theorem stepQ_mem {a:Rf} {x:En} {st:List En × Bool} {e f:En} (h:f∈(stepQ a x st e).1):f∈st.1∨f=x∨f=e:=by
 have h1: ∀ q:List En,f∈(if e.at_≠a then q++ [e] else q)→f∈q∨f=e:=by
  intro q hq
  split at hq
  ·
   rcases List.mem_append.1 hq with hq|hq
   ·
    exact .inl hq
   ·
    exact .inr (List.mem_singleton.1 hq)
  ·
   exact .inl hq
 unfold stepQ at h
 dsimp only at h
 rcases h1 _ h with h|h
 ·
  split at h
  ·
   rcases List.mem_append.1 h with h|h
   ·
    exact .inl h
   ·
    exact .inr (.inl (List.mem_singleton.1 h))
  ·
   exact .inl h
 ·
  exact .inr (.inr h)
theorem fold_mem {a:Rf} {x:En}: ∀ (L:List En) (st:List En × Bool) {f:En},f∈(L.foldl (stepQ a x) st).1→f∈st.1∨f=x∨f∈L
 | [],_,_,h=> .inl h
 |e::r,st,f,h=>by
  rw [List.foldl_cons] at h
  rcases fold_mem r _ h with h|h|h
  ·
   rcases stepQ_mem h with h|h|h
   ·
    exact .inl h
   ·
    exact .inr (.inl h)
   ·
    exact .inr (.inr (h ▸ List.mem_cons_self))
  ·
   exact .inr (.inl h)
  ·
   exact .inr (.inr (List.mem_cons_of_mem _ h))
theorem setQ_mem {a:Rf} {x:En} {d:Bool} {L:List En} {f:En} (h:f∈setQ a x d L):f=x∨f∈L:=by
 unfold setQ endQ at h
 split at h
 ·
  rcases fold_mem L _ h with h|h|h
  ·
   cases h
  ·
   exact .inl h
  ·
   exact .inr h
 ·
  rcases List.mem_append.1 h with h|h
  ·
   rcases fold_mem L _ h with h|h|h
   ·
    cases h
   ·
    exact .inl h
   ·
    exact .inr h
  ·
   exact .inl (List.mem_singleton.1 h)
theorem formulaV_wf {l:List Int} {fin:Int}: ∀ n∈(formulaV (tokensV tokenR l) fin).1,wfN n:=by
 have hnum:=tokensV_num l
 generalize tokensV tokenR l=x at hnum
 unfold formulaV
 split
 ·
  exact fun _ h=>by cases h
 ·
  split
  ·
   exact fun _ h=>by cases h
  ·
   exact fun _ h=>by cases h
  ·
   rename_i n p hp
   have hwf:=runP_wf _ _ _ _ _ _ hp (⟨hnum,fun _ h=>by cases h⟩:Wf ⟨x.1,[]⟩)
   split
   ·
    exact fun _ h=>by cases h
   ·
    split
    ·
     exact fun _ h=>by cases h
    ·
     exact hwf.2
theorem ofP_wf (b:ByteArray): ∀ n∈(ofP b).1.tree,wfN n:=by
 rw [ofP_eq]
 unfold ofR
 split
 ·
  exact fun _ h=>by cases h
 ·
  split
  ·
   exact fun _ h=>by cases h
  ·
   split
   ·
    exact fun _ h=>by cases h
   ·
    have h:=formulaV_wf (l:=ints (sub b 1 b.size)) (fin:=((sub b 1 b.size).size:Int))
    generalize formulaV (tokensV tokenR (ints (sub b 1 b.size))) ((sub b 1 b.size).size:Int)=r at h
    obtain ⟨t,a,e⟩:=r
    dsimp only at h ⊢
    split
    ·
     exact fun _ h=>by cases h
    ·
     exact h
end Go.SL
