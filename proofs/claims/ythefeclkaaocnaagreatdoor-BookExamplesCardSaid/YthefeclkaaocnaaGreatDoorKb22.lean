/-
  Lemmas and walks, put together: Im Ja Jb.
-/
import Derived.Test.YthefeclkaaocnaaGreatDoorKb21
set_option linter.unusedSimpArgs false
set_option linter.unusedVariables false
set_option maxRecDepth 20000
namespace Go.SL
open Go Go.Proofs
section
variable {P:Program} {n:Fr} {w0:World} {s:Slots} {H:List Blk}
theorem retcttt {fn:Func} {R:Value→List Blk→Prop} {e:Exit} {t u q r T T' g m:Nat} {xs:List Value} {v v' v2:Value} (he:e= .ret∨e= .normal) (hr:fn.results= #[.cell t T,.tmp u,.tmp q,.tmp r]) [Agg P T m] (ht:look s t=some (.pointer (some ⟨g,0,none⟩))) (hi:In (.box g T' xs) H) (hl:Nat.beq xs.length m=true)
  (hu:look s u=some v) (hq:look s q=some v') (hw:look s r=some v2) {H' :List Blk} (hs:MSub H' H) (hR:R (.tuple #[.agg xs.toArray,v,v',v2]) H'):retP P fn n w0 R e s H:=
 ⟨he,_,H',hs,fun a w hst hm=>by
  have h1:=res_cell (P:=P) (T:=T) hst hm ht hi hl
  have h2:a.tmps.getD u undef=v:=by simp [Array.getD_eq_getD_getElem?,hst.has u _ hu]
  have h3:a.tmps.getD q undef=v' :=by simp [Array.getD_eq_getD_getElem?,hst.has q _ hq]
  have h4:a.tmps.getD r undef=v2:=by simp [Array.getD_eq_getD_getElem?,hst.has r _ hw]
  simp only [results,hr]
  simp only [List.mapM_toArray,List.mapM_cons,List.mapM_nil,Sem.run_bind,Sem.run_map] at h1 ⊢
  simp only [h1,Result.andThen_ok,Sem.run_pure,h2,h3,h4]
  rfl,hR⟩
end
attribute [local irreducible] W WL WQ WG WA WX WLI WR WT WC WE VOp RW thn blk cutP scp retP retPP endB FnAt FnIn FnP ceP
def posE (L:List Et) (to:Rf):Nat:=(L.takeWhile fun e=>lessF e.at_ to).length
def toO (o:Ox):Rf:=⟨o.rect.c1,o.rect.r1⟩
def insE (L:List Et) (o:Ox):List Et:=if o.input=emptyB then L else L.take (posE L (toO o))++⟨toO o,o.input⟩::L.drop (posE L (toO o))
theorem posE_at {L:List Et} {to:Rf} {i:Nat} (hi:i≤L.length) (hall: ∀ j (h:j<L.length),j<i→lessF L[j].at_ to=true) (hs:i=L.length∨ ∃ h:i<L.length,lessF L[i].at_ to=false):posE L to=i:=by
 have h1:L.takeWhile (fun e=>lessF e.at_ to)=L.take i:=by
  conv=>lhs;rw [← List.take_append_drop i L]
  rw [List.takeWhile_append_of_pos]
  ·
   rcases hs with rfl|⟨h,hf⟩
   ·
    rw [List.drop_length,List.takeWhile_nil,List.append_nil]
   ·
    rw [List.drop_eq_getElem_cons h,List.takeWhile_cons,if_neg (by rw [hf];decide),List.append_nil]
  ·
   intro e he
   obtain ⟨j,hj,rfl⟩:=List.mem_iff_getElem.1 he
   rw [List.length_take] at hj
   rw [List.getElem_take]
   exact hall j (by omega) (by omega)
 rw [posE,h1,List.length_take]
 omega
def zeroBk:Bk:=⟨0,[],[],[],[],[],0⟩
def zeroBo:Bo:=⟨none,none,none,none,none,0,0,0,0,0⟩
def revN (N:List Gn) (i:Nat):List Gn:=match N[i]? with|some g=>N.set i ⟨g.rect,g.fns,g.to,g.by_,true⟩|none=>N
def logB (b:Bk) (o:Ox):Bk:=
 ⟨b.users,b.ents,b.rules,b.grants,if ((cdE b o).1=0∨(cdE b o).1=5)∧mutK o.kind=true then b.log++ [(evO b.step o (decide ((cdE b o).1=0)) b.rules b.grants).1] else b.log,b.rels,b.step+1⟩
def aftB (b:Bk) (o:Ox):Bk:=
 if o.kind=3∨o.kind=4 then ⟨b.users,insE (b.ents.filter (delK o)) o,b.rules,b.grants,b.log,b.rels,b.step⟩
 else if o.kind=7 then ⟨b.users,b.ents,b.rules++ [⟨o.rect,o.rd,o.wr,o.ow⟩],b.grants,b.log,b.rels,b.step⟩
 else if o.kind=8 then ⟨b.users,b.ents,b.rules,b.grants++ [⟨o.rect,o.fns,o.to,o.user,false⟩],b.log,b.rels,b.step⟩
 else if o.kind=9 then ⟨b.users,b.ents,b.rules,revN b.grants o.idx.toNat,b.log,b.rels,b.step⟩
 else b
def apE (b:Bk) (o:Ox):Bk × Int × Int × Int:=
 if bkE b≠0 then (zeroBk,0,0,bkE b)
 else if b.step=1099511627776 then (zeroBk,0,0,5)
 else if (cdE b o).1≠0 then (logB b o,(cdE b o).1,(cdE b o).2,0)
 else (aftB (logB b o) o,0,0,0)
theorem bkE_step {b:Bk} (h: ¬ bkE b≠0):0≤b.step∧b.step≤1099511627776∧b.rules.length≤64∧b.grants.length≤64:=by
 have h:=Decidable.not_not.1 h
 unfold bkE at h
 split at h
 ·
  exact absurd h (by decide)
 split at h
 ·
  rename_i h2;exact absurd h h2
 split at h
 ·
  rename_i h2;exact absurd h h2
 rename_i hacl
 split at h
 ·
  rename_i h2;exact absurd h h2
 rename_i hgnt
 split at h
 ·
  rename_i h2;exact absurd h h2
 split at h
 ·
  exact absurd h (by decide)
 refine ⟨by omega,by omega,?_,?_⟩
 ·
  unfold aclE at hacl
  split at hacl
  ·
   exact absurd (by decide) hacl
  split at hacl
  ·
   exact absurd (by decide) hacl
  ·
   omega
 ·
  unfold gntE at hgnt
  split at hgnt
  ·
   exact absurd (by decide) hgnt
  split at hgnt
  ·
   exact absurd (by decide) hgnt
  ·
   omega
theorem rev_cells: ∀ (N:List Gn) (j:Nat) (hj:j<N.length),(N.flatMap encGn).set (j*8+7) (.bool true)=(N.set j ⟨N[j].rect,N[j].fns,N[j].to,N[j].by_,true⟩).flatMap encGn
 | [],_,hj=>absurd hj (Nat.not_lt_zero _)
 |_::_,0,_=>rfl
 |g::N,j+1,hj=>by
  have ih:=rev_cells N j (Nat.lt_of_succ_lt_succ hj)
  rw [List.flatMap_cons,List.set_append_right _ _ (by rw [encGn_len];omega),encGn_len,show (j+1)*8+7 - 8=j*8+7 by omega,ih]
  rfl
theorem delF_sel (L:List Et) (o:Ox) (go cap:Nat) (w0:World) (A:Option Nat) {H T:List Blk} (hL:L.length≤1000000) (hs:Sel (.own A 53 3 L.length cap (L.flatMap encEt)) H T) (hgo:In (.box go 41 (encOx o)) T):
  FnIn Tryz.prog 57 [sl A L.length cap,.func (.func 58) #[] #[.pointer (some ⟨go,0,none⟩)]] w0 H fun v H' =>v=sl A (L.filter (delK o)).length cap∧H' = .own A 53 3 (L.filter (delK o)).length cap ((L.filter (delK o)).flatMap encEt)::T:=
 FnIn.msub (delF_in L o go cap T w0 A hL hgo) (MSub.pick hs (MSub.refl _))
theorem insert_sel (L:List Et) (i:Nat) (hi:i≤L.length) (x:Et) (A:Option Nat) (cap:Nat) (hL:L.length≤1000000) (w0:World) {H T:List Blk} (hs:Sel (.own A 53 3 L.length cap (L.flatMap encEt)) H T):
  FnIn Tryz.prog 61 [sl A L.length cap,.int .i64 (i:Int),.agg (encEt x).toArray] w0 H fun v H=> ∃ A' c,v=sl A' (L.length+1) c∧H= .own A' 53 3 (L.length+1) c ((L.take i++x::L.drop i).flatMap encEt)::T:=
 FnIn.msub (insert_in L i hi x A cap hL w0 T) (MSub.pick hs (MSub.refl _))
set_option maxHeartbeats 16000000 in
theorem Apply_at (b : Bk) (x : Bv) (o : Ox) (w : World) (h : BRd w b x) (hW : Words w) (hs : Small b) : FnAt Tryz.prog 14 [.agg (encBk b x).toArray, .agg (encOx o).toArray] w fun v H => ∃ a : Bo, v = .tuple #[.agg (encBk (apE b o).1 a.v).toArray, .int .u8 (apE b o).2.1, .int .i64 (apE b o).2.2.1, .int .i64 (apE b o).2.2.2] ∧ H = bkRows (apE b o).1 a := by
  refine fn_at Tryz.func14 rfl Tryz.ntmps14 rfl ?_
  have hC := fun (w' : World) (H : List Blk) (hm : Mem w w' H) => bkCheck_at b x w' (h.of_w0 hm) (hW.next hm) hs.e
  have hY := fun (w' : World) (H : List Blk) (hm : Mem w w' H) => bkCopy_at b x w' (h.of_w0 hm) hs
  have hM := fun w => Mutates_at o w
  have hD := fun (w' : World) (g : Nat) (H : List Blk) (hi : In (.box g 28 (encBk b x)) H) (hm : Mem w w' H) => code_at b x o g w' (Ro.of_box hm hi) (h.of_w0 hm) (hW.next hm)
  have hE := fun (w' : World) (H : List Blk) (hm : Mem w w' H) => Event_at b.step o (decide ((cdE b o).1 = 0)) b.rules b.grants _ _ w' (h.r.of_w0 hm) (h.g.of_w0 hm)
  have hs1 := hs.e
  have hs2 := hs.r
  have hs3 := hs.g
  have hs4 := hs.l
  refine w_nilrow 53 3 ?_
  refine w_nilrow 38 7 ?_
  refine w_nilrow 56 8 ?_
  refine w_nilrow 48 9 ?_
  refine w_nilrow 70 11 ?_
  unfold apE
  by_cases he : bkE b ≠ 0
  · rw [if_pos he]
    generalize bkE b = e at hC he ⊢
    simp only [encBk] at hC ⊢
    repeat' (first | ((with_reducible apply wl_callp (f := 12)); exact rfl; exact rfl; (intro w' hm; exact hC w' _ hm)) | refine sT ?_ | refine sS ?_ | refine sM fun _ => ?_ | (refine sC ?_ ?_ <;> intro hb <;> try omega) | fail)
    all_goals first
      | (exfalso; omega)
      | (refine retcttt eIO rfl rfl pK rfl rfl rfl rfl (H' := bkRows zeroBk zeroBo) (by unfold bkRows; exact mS) ⟨zeroBo, rfl, rfl⟩; done)
      | trace_state
  rw [if_neg he]
  obtain ⟨hst1, hst2, hst3, hst4⟩ := bkE_step he
  rw [show bkE b = 0 by omega] at hC
  by_cases hmx : b.step = 1099511627776
  · rw [if_pos hmx]
    simp only [encBk] at hC ⊢
    repeat' (first | ((with_reducible apply wl_callp (f := 12)); exact rfl; exact rfl; (intro w' hm; exact hC w' _ hm)) | refine sT ?_ | refine sS ?_ | refine sM fun _ => ?_ | (refine sC ?_ ?_ <;> intro hb <;> try omega) | fail)
    all_goals first
      | (exfalso; omega)
      | (refine retcttt eIO rfl rfl pK rfl rfl rfl rfl (H' := bkRows zeroBk zeroBo) (by unfold bkRows; exact mS) ⟨zeroBo, rfl, rfl⟩; done)
      | trace_state
  rw [if_neg hmx]
  obtain ⟨⟨c, at_⟩, hcd⟩ : ∃ c, cdE b o = c := ⟨_, rfl⟩
  obtain ⟨mk, hmk⟩ : ∃ mk, mutK o.kind = mk := ⟨_, rfl⟩
  have hpos : mk = false ∨ o.kind = 3 ∨ o.kind = 4 ∨ o.kind = 7 ∨ o.kind = 8 ∨ o.kind = 9 := by
    cases mk with
    | false => exact .inl rfl
    | true =>
      simp only [mutK, Bool.or_eq_true, decide_eq_true_eq] at hmk
      omega
  unfold logB
  rw [hcd] at hD hE ⊢
  rw [hmk] at hM ⊢
  dsimp only at hD hE ⊢
  generalize evO b.step o (decide (c = 0)) b.rules b.grants = ev at hE ⊢
  obtain ⟨ev1, ev2⟩ := ev
  dsimp only at hE ⊢
  have el1 : (b.log ++ [ev1]).length = b.log.length + 1 := by rw [List.length_append]; rfl
  have el2 : (b.log ++ [ev1]).flatMap encEv = b.log.flatMap encEv ++ encEv ev1 := by rw [List.flatMap_append, List.flatMap_cons, List.flatMap_nil, List.append_nil]
  by_cases hcz : c ≠ 0
  · rw [if_pos hcz]
    by_cases hlg : (c = 0 ∨ c = 5) ∧ mk = true
    · rw [if_pos hlg]
      obtain ⟨hc5, hmt⟩ := hlg
      simp only [encBk, bkRows, el1, el2] at hC ⊢
      repeat' (first | ((with_reducible apply wl_callp (f := 12)); exact rfl; exact rfl; (intro w' hm; exact hC w' _ hm)) | ((with_reducible apply wl_call (f := 28)); exact rfl; exact rfl; (intro w' hm; exact hY w' _ hm); rintro _ _ ⟨a, rfl, rfl⟩; unfold bkRows) | ((with_reducible apply wl_v (d := 27)); exact rfl; (with_reducible apply v_add); exact rfl; exact rfl; exact ⟨by omega, by omega⟩) | ((with_reducible apply wl_callp (f := 54)); exact rfl; exact rfl; (intro w' hm; exact hD w' _ _ pK hm)) | ((with_reducible apply wl_callp (f := 55)); exact rfl; exact rfl; (intro w' _; exact hM w')) | ((with_reducible apply wl_callp (f := 56)); exact rfl; exact rfl; (intro w' hm; exact hE w' _ hm)) | ((with_reducible apply wl_append1 (d := 61)); (iterate 3 exact rfl); exact pK; exact pK; exact rfl; (intro u hu; simp [encEv] at hu; rcases hu with rfl | rfl | rfl | rfl | rfl | rfl | rfl | rfl | rfl <;> rfl); omega; (simp only [maxLen]; omega); intro g61 c61) | refine sT ?_ | refine sS ?_ | refine sM fun _ => ?_ | (refine sC ?_ ?_ <;> intro hb <;> try omega) | fail)
      all_goals first
        | (exfalso; omega)
        | (exfalso; simp_all; done)
        | (refine retcttt eIO rfl rfl pK rfl rfl rfl rfl (H' := [.own (a.e) 53 3 (b.ents.length) a.ce (b.ents.flatMap encEt), .own (a.r) 38 7 (b.rules.length) a.cr (b.rules.flatMap encRl), .own (a.g) 56 8 (b.grants.length) a.cg (b.grants.flatMap encGn), .own (some g61) 48 9 (b.log.length + 1) c61 (b.log.flatMap encEv ++ encEv ev1), .own (a.s) 70 11 (b.rels.length) a.cs (b.rels.flatMap encRv)]) mS ⟨⟨a.e, a.r, a.g, some g61, a.s, a.ce, a.cr, a.cg, c61, a.cs⟩, rfl, rfl⟩; done)
        | trace_state
    · rw [if_neg hlg]
      simp only [encBk, bkRows] at hC ⊢
      repeat' (first | ((with_reducible apply wl_callp (f := 12)); exact rfl; exact rfl; (intro w' hm; exact hC w' _ hm)) | ((with_reducible apply wl_call (f := 28)); exact rfl; exact rfl; (intro w' hm; exact hY w' _ hm); rintro _ _ ⟨a, rfl, rfl⟩; unfold bkRows) | ((with_reducible apply wl_v (d := 27)); exact rfl; (with_reducible apply v_add); exact rfl; exact rfl; exact ⟨by omega, by omega⟩) | ((with_reducible apply wl_callp (f := 54)); exact rfl; exact rfl; (intro w' hm; exact hD w' _ _ pK hm)) | ((with_reducible apply wl_callp (f := 55)); exact rfl; exact rfl; (intro w' _; exact hM w')) | refine sT ?_ | refine sS ?_ | refine sM fun _ => ?_ | (refine sC ?_ ?_ <;> intro hb <;> try omega) | fail)
      all_goals first
        | (exfalso; omega)
        | (exfalso; exact hlg ⟨by first | exact .inl ‹_› | exact .inr ‹_›, by assumption⟩)
        | (refine retcttt eIO rfl rfl pK rfl rfl rfl rfl (H' := [.own (a.e) 53 3 (b.ents.length) a.ce (b.ents.flatMap encEt), .own (a.r) 38 7 (b.rules.length) a.cr (b.rules.flatMap encRl), .own (a.g) 56 8 (b.grants.length) a.cg (b.grants.flatMap encGn), .own (a.l) 48 9 (b.log.length) a.cl (b.log.flatMap encEv), .own (a.s) 70 11 (b.rels.length) a.cs (b.rels.flatMap encRv)]) mS ⟨a, rfl, rfl⟩; done)
        | trace_state
  rw [if_neg hcz]
  have hc0 : c = 0 := Decidable.not_not.1 hcz
  subst hc0
  cases mk with
  | false =>
    have hkn : ¬ (o.kind = 3 ∨ o.kind = 4) ∧ o.kind ≠ 7 ∧ o.kind ≠ 8 ∧ o.kind ≠ 9 := by
      simp only [mutK, Bool.or_eq_false_iff, decide_eq_false_iff_not] at hmk
      omega
    rw [if_neg (fun h => by cases h.2), aftB, if_neg hkn.1, if_neg hkn.2.1, if_neg hkn.2.2.1, if_neg hkn.2.2.2]
    simp only [encBk, bkRows] at hC ⊢
    repeat' (first | ((with_reducible apply wl_callp (f := 12)); exact rfl; exact rfl; (intro w' hm; exact hC w' _ hm)) | ((with_reducible apply wl_call (f := 28)); exact rfl; exact rfl; (intro w' hm; exact hY w' _ hm); rintro _ _ ⟨a, rfl, rfl⟩; unfold bkRows) | ((with_reducible apply wl_v (d := 27)); exact rfl; (with_reducible apply v_add); exact rfl; exact rfl; exact ⟨by omega, by omega⟩) | ((with_reducible apply wl_callp (f := 54)); exact rfl; exact rfl; (intro w' hm; exact hD w' _ _ pK hm)) | ((with_reducible apply wl_callp (f := 55)); exact rfl; exact rfl; (intro w' _; exact hM w')) | refine sT ?_ | refine sS ?_ | refine sM fun _ => ?_ | (refine sC ?_ ?_ <;> intro hb <;> try omega) | fail)
    all_goals first
      | (exfalso; omega)
      | (refine retcttt eIO rfl rfl pK rfl rfl rfl rfl (H' := [.own (a.e) 53 3 (b.ents.length) a.ce (b.ents.flatMap encEt), .own (a.r) 38 7 (b.rules.length) a.cr (b.rules.flatMap encRl), .own (a.g) 56 8 (b.grants.length) a.cg (b.grants.flatMap encGn), .own (a.l) 48 9 (b.log.length) a.cl (b.log.flatMap encEv), .own (a.s) 70 11 (b.rels.length) a.cs (b.rels.flatMap encRv)]) mS ⟨a, rfl, rfl⟩; done)
      | trace_state
  | true =>
    rw [if_pos ⟨.inl rfl, rfl⟩]
    rcases hpos.resolve_left (by decide) with hk | hk | hk | hk | hk
    · obtain ⟨L, hL⟩ : ∃ L, b.ents.filter (delK o) = L := ⟨_, rfl⟩
      have hLl : L.length ≤ 1000000 := Nat.le_trans (hL ▸ List.length_filter_le _ _) hs1
      have hdel := fun (A : Option Nat) (cap go : Nat) (H T : List Blk) (h1 : Sel (.own A 53 3 b.ents.length cap (b.ents.flatMap encEt)) H T) (h2 : In (.box go 41 (encOx o)) T) => delF_sel b.ents o go cap w A hs1 h1 h2
      rw [hL] at hdel
      rw [aftB, if_pos (by omega)]
      dsimp only
      rw [hL]
      by_cases hin : o.input = emptyB
      · rw [insE, if_pos hin]
        simp only [encBk, bkRows, el1, el2] at hC ⊢
        repeat' (first | ((with_reducible apply wl_callp (f := 12)); exact rfl; exact rfl; (intro w' hm; exact hC w' _ hm)) | ((with_reducible apply wl_call (f := 28)); exact rfl; exact rfl; (intro w' hm; exact hY w' _ hm); rintro _ _ ⟨a, rfl, rfl⟩; unfold bkRows) | ((with_reducible apply wl_v (d := 27)); exact rfl; (with_reducible apply v_add); exact rfl; exact rfl; exact ⟨by omega, by omega⟩) | ((with_reducible apply wl_callp (f := 54)); exact rfl; exact rfl; (intro w' hm; exact hD w' _ _ pK hm)) | ((with_reducible apply wl_callp (f := 55)); exact rfl; exact rfl; (intro w' _; exact hM w')) | ((with_reducible apply wl_callp (f := 56)); exact rfl; exact rfl; (intro w' hm; exact hE w' _ hm)) | ((with_reducible apply wl_append1 (d := 61)); (iterate 3 exact rfl); exact pK; exact pK; exact rfl; (intro u hu; simp [encEv] at hu; rcases hu with rfl | rfl | rfl | rfl | rfl | rfl | rfl | rfl | rfl <;> rfl); omega; (simp only [maxLen]; omega); intro g61 c61) | ((with_reducible apply wl_callin (f := 57)); exact rfl; exact rfl; exact hdel _ _ _ _ _ pK pK; rintro _ _ ⟨rfl, rfl⟩) | ((with_reducible apply wl_v (d := 80)); exact rfl; (with_reducible apply v_neqs (b := emptyB)); exact rfl; exact rfl) | refine sT ?_ | refine sS ?_ | refine sM fun _ => ?_ | (refine sC ?_ ?_ <;> intro hb <;> try omega) | fail)
        all_goals first
          | (exfalso; omega)
          | (exact absurd hin hb)
          | (refine retcttt eIO rfl rfl pK rfl rfl rfl rfl (H' := [.own (a.e) 53 3 (L.length) a.ce (L.flatMap encEt), .own (a.r) 38 7 (b.rules.length) a.cr (b.rules.flatMap encRl), .own (a.g) 56 8 (b.grants.length) a.cg (b.grants.flatMap encGn), .own (some g61) 48 9 (b.log.length + 1) c61 (b.log.flatMap encEv ++ encEv ev1), .own (a.s) 70 11 (b.rels.length) a.cs (b.rels.flatMap encRv)]) mS ⟨⟨a.e, a.r, a.g, some g61, a.s, a.ce, a.cr, a.cg, c61, a.cs⟩, rfl, rfl⟩; done)
          | trace_state
      · rw [insE, if_neg hin]
        simp only [encBk, bkRows, el1, el2] at hC ⊢
        repeat' (first | ((with_reducible apply wl_callp (f := 12)); exact rfl; exact rfl; (intro w' hm; exact hC w' _ hm)) | ((with_reducible apply wl_call (f := 28)); exact rfl; exact rfl; (intro w' hm; exact hY w' _ hm); rintro _ _ ⟨a, rfl, rfl⟩; unfold bkRows) | ((with_reducible apply wl_v (d := 27)); exact rfl; (with_reducible apply v_add); exact rfl; exact rfl; exact ⟨by omega, by omega⟩) | ((with_reducible apply wl_callp (f := 54)); exact rfl; exact rfl; (intro w' hm; exact hD w' _ _ pK hm)) | ((with_reducible apply wl_callp (f := 55)); exact rfl; exact rfl; (intro w' _; exact hM w')) | ((with_reducible apply wl_callp (f := 56)); exact rfl; exact rfl; (intro w' hm; exact hE w' _ hm)) | ((with_reducible apply wl_append1 (d := 61)); (iterate 3 exact rfl); exact pK; exact pK; exact rfl; (intro u hu; simp [encEv] at hu; rcases hu with rfl | rfl | rfl | rfl | rfl | rfl | rfl | rfl | rfl <;> rfl); omega; (simp only [maxLen]; omega); intro g61 c61) | ((with_reducible apply wl_callin (f := 57)); exact rfl; exact rfl; exact hdel _ _ _ _ _ pK pK; rintro _ _ ⟨rfl, rfl⟩) | ((with_reducible apply wl_v (d := 80)); exact rfl; (with_reducible apply v_neqs (b := emptyB)); exact rfl; exact rfl) | refine sT ?_ | refine sS ?_ | refine sM fun _ => ?_ | (refine sC ?_ ?_ <;> intro hb <;> try omega) | fail)
        all_goals first | (exfalso; omega) | skip
        all_goals try (exact absurd (Decidable.not_not.1 hb) hin)
        rename_i g2 g3 g4 _ g9 g60 _ _ g11
        obtain ⟨ae, ar, ag, al, as_, ce, cr, cg, cl, cs⟩ := a
        have hLs := fun (a b : Rf) w => Less_at a b w
        refine w_loopK [3, 4, 5, 6, 7, 11] rfl (fun i : Nat => [(12, .int .i64 (i : Int))]) (fun _ => [.box g11 51 (encF (toO o)), .box g4 28 [.int .i64 b.users, sl ae L.length ce, sl ar b.rules.length cr, sl ag b.grants.length cg, sl (some g61) (b.log.length + 1) c61, sl as_ b.rels.length cs, .int .i64 (b.step + 1)], .box g3 41 (encOx o), .own (ae) 53 3 (L.length) ce (L.flatMap encEt), .own (ar) 38 7 (b.rules.length) cr (b.rules.flatMap encRl), .own (ag) 56 8 (b.grants.length) cg (b.grants.flatMap encGn), .own (some g61) 48 9 (b.log.length + 1) c61 (b.log.flatMap encEv ++ encEv ev1), .own (as_) 70 11 (b.rels.length) cs (b.rels.flatMap encRv)]) (fun i => i ≤ L.length ∧ ∀ j (h : j < L.length), j < i → lessF L[j].at_ (toO o) = true) (fun i => L.length - i) 0 ⟨by omega, fun j _ h => by omega⟩ sB mS ?_
        rintro i ⟨hi, hall⟩
        by_cases hlt : i < L.length
        · refine w_some (A := ae) pK (by omega) fun ga hA => ?_
          subst hA
          have hread : ((L.flatMap encEt).drop (0 + i * 3 + 0)).take 2 = encF L[i].at_ := by
            have h1 := refE hlt
            rw [Nat.add_zero]
            calc ((L.flatMap encEt).drop (0 + i * 3)).take 2 = (((L.flatMap encEt).drop (0 + i * 3)).take 3).take 2 := by rw [List.take_take]; rfl
              _ = _ := by rw [h1]; rfl
          have hLi := hLs L[i].at_ (toO o)
          obtain ⟨cc, hcc⟩ : ∃ cc, lessF L[i].at_ (toO o) = cc := ⟨_, rfl⟩
          rw [hcc] at hLi
          cases cc with
          | true =>
            repeat' (first | ((with_reducible apply w_drawC0 (id := 21) [13] []); kernel_rfl; kernel_rfl; kernel_rfl) | ((with_reducible apply wc_v (d := 97)); (iterate 3 exact rfl); (with_reducible apply v_indexAddr (j := i)); exact rfl; exact rfl; omega) | ((with_reducible apply wc_v (d := 99)); (iterate 3 exact rfl); (with_reducible apply v_loads_own); exact rfl; exact pK; exact hread; exact rfl) | ((with_reducible apply wl_callp (f := 60)); exact rfl; exact rfl; (intro w' _; exact hLi w')) | refine sT ?_ | refine sS ?_ | refine sW ?_ | refine sN ?_ | refine sWN ?_ | refine sM fun _ => ?_ | (refine sC ?_ ?_ <;> intro hb <;> try omega) | (refine sCW ?_ ?_ <;> intro hb <;> try omega) | fail)
            all_goals first
              | (exfalso; omega)
              | (refine ⟨i + 1, ⟨hlt, fun j hj hji => ?_⟩, by omega, by exact sB, by exact sB, by exact mS⟩
                 rcases (by omega : j < i ∨ j = i) with h | rfl
                 · exact hall j hj h
                 · exact hcc)
              | trace_state
          | false =>
            have hpe := posE_at hi hall (.inr ⟨hlt, hcc⟩)
            have hpl : (L.take i ++ (⟨toO o, o.input⟩ : Et) :: L.drop i).length = L.length + 1 := by simp [List.length_take, List.length_drop]; omega
            rw [hpe, hpl]
            repeat' (first | ((with_reducible apply w_drawC0 (id := 21) [13] []); kernel_rfl; kernel_rfl; kernel_rfl) | ((with_reducible apply wc_v (d := 97)); (iterate 3 exact rfl); (with_reducible apply v_indexAddr (j := i)); exact rfl; exact rfl; omega) | ((with_reducible apply wc_v (d := 99)); (iterate 3 exact rfl); (with_reducible apply v_loads_own); exact rfl; exact pK; exact hread; exact rfl) | ((with_reducible apply wl_callp (f := 60)); exact rfl; exact rfl; (intro w' _; exact hLi w')) | ((with_reducible apply wl_callin (f := 61)); exact rfl; exact rfl; exact insert_sel L i hi ⟨toO o, o.input⟩ _ _ hLl w pK; rintro _ _ ⟨A9, c9, rfl, rfl⟩) | refine sT ?_ | refine sS ?_ | refine sW ?_ | refine sN ?_ | refine sWN ?_ | refine sM fun _ => ?_ | (refine sC ?_ ?_ <;> intro hb <;> try omega) | (refine sCW ?_ ?_ <;> intro hb <;> try omega) | fail)
            all_goals first
              | (exfalso; omega)
              | (refine retcttt eIO rfl rfl pK rfl rfl rfl rfl (H' := [.own (A9) 53 3 (L.length + 1) c9 ((L.take i ++ (⟨toO o, o.input⟩ : Et) :: L.drop i).flatMap encEt), .own (ar) 38 7 (b.rules.length) cr (b.rules.flatMap encRl), .own (ag) 56 8 (b.grants.length) cg (b.grants.flatMap encGn), .own (some g61) 48 9 (b.log.length + 1) c61 (b.log.flatMap encEv ++ encEv ev1), .own (as_) 70 11 (b.rels.length) cs (b.rels.flatMap encRv)]) mS ⟨⟨A9, ar, ag, some g61, as_, c9, cr, cg, c61, cs⟩, rfl, rfl⟩; done)
              | trace_state
        · have hpe := posE_at hi hall (.inl (by omega))
          have hpl : (L.take i ++ (⟨toO o, o.input⟩ : Et) :: L.drop i).length = L.length + 1 := by simp [List.length_take, List.length_drop]; omega
          rw [hpe, hpl]
          repeat' (first | ((with_reducible apply w_drawC0 (id := 21) [13] []); kernel_rfl; kernel_rfl; kernel_rfl) | ((with_reducible apply wl_callin (f := 61)); exact rfl; exact rfl; exact insert_sel L i hi ⟨toO o, o.input⟩ _ _ hLl w pK; rintro _ _ ⟨A9, c9, rfl, rfl⟩) | refine sT ?_ | refine sS ?_ | refine sW ?_ | refine sN ?_ | refine sWN ?_ | refine sM fun _ => ?_ | (refine sC ?_ ?_ <;> intro hb <;> try omega) | (refine sCW ?_ ?_ <;> intro hb <;> try omega) | fail)
          all_goals first
            | (exfalso; omega)
            | (refine retcttt eIO rfl rfl pK rfl rfl rfl rfl (H' := [.own (A9) 53 3 (L.length + 1) c9 ((L.take i ++ (⟨toO o, o.input⟩ : Et) :: L.drop i).flatMap encEt), .own (ar) 38 7 (b.rules.length) cr (b.rules.flatMap encRl), .own (ag) 56 8 (b.grants.length) cg (b.grants.flatMap encGn), .own (some g61) 48 9 (b.log.length + 1) c61 (b.log.flatMap encEv ++ encEv ev1), .own (as_) 70 11 (b.rels.length) cs (b.rels.flatMap encRv)]) mS ⟨⟨A9, ar, ag, some g61, as_, c9, cr, cg, c61, cs⟩, rfl, rfl⟩; done)
            | trace_state
    · obtain ⟨L, hL⟩ : ∃ L, b.ents.filter (delK o) = L := ⟨_, rfl⟩
      have hLl : L.length ≤ 1000000 := Nat.le_trans (hL ▸ List.length_filter_le _ _) hs1
      have hdel := fun (A : Option Nat) (cap go : Nat) (H T : List Blk) (h1 : Sel (.own A 53 3 b.ents.length cap (b.ents.flatMap encEt)) H T) (h2 : In (.box go 41 (encOx o)) T) => delF_sel b.ents o go cap w A hs1 h1 h2
      rw [hL] at hdel
      rw [aftB, if_pos (by omega)]
      dsimp only
      rw [hL]
      by_cases hin : o.input = emptyB
      · rw [insE, if_pos hin]
        simp only [encBk, bkRows, el1, el2] at hC ⊢
        repeat' (first | ((with_reducible apply wl_callp (f := 12)); exact rfl; exact rfl; (intro w' hm; exact hC w' _ hm)) | ((with_reducible apply wl_call (f := 28)); exact rfl; exact rfl; (intro w' hm; exact hY w' _ hm); rintro _ _ ⟨a, rfl, rfl⟩; unfold bkRows) | ((with_reducible apply wl_v (d := 27)); exact rfl; (with_reducible apply v_add); exact rfl; exact rfl; exact ⟨by omega, by omega⟩) | ((with_reducible apply wl_callp (f := 54)); exact rfl; exact rfl; (intro w' hm; exact hD w' _ _ pK hm)) | ((with_reducible apply wl_callp (f := 55)); exact rfl; exact rfl; (intro w' _; exact hM w')) | ((with_reducible apply wl_callp (f := 56)); exact rfl; exact rfl; (intro w' hm; exact hE w' _ hm)) | ((with_reducible apply wl_append1 (d := 61)); (iterate 3 exact rfl); exact pK; exact pK; exact rfl; (intro u hu; simp [encEv] at hu; rcases hu with rfl | rfl | rfl | rfl | rfl | rfl | rfl | rfl | rfl <;> rfl); omega; (simp only [maxLen]; omega); intro g61 c61) | ((with_reducible apply wl_callin (f := 57)); exact rfl; exact rfl; exact hdel _ _ _ _ _ pK pK; rintro _ _ ⟨rfl, rfl⟩) | ((with_reducible apply wl_v (d := 80)); exact rfl; (with_reducible apply v_neqs (b := emptyB)); exact rfl; exact rfl) | refine sT ?_ | refine sS ?_ | refine sM fun _ => ?_ | (refine sC ?_ ?_ <;> intro hb <;> try omega) | fail)
        all_goals first
          | (exfalso; omega)
          | (exact absurd hin hb)
          | (refine retcttt eIO rfl rfl pK rfl rfl rfl rfl (H' := [.own (a.e) 53 3 (L.length) a.ce (L.flatMap encEt), .own (a.r) 38 7 (b.rules.length) a.cr (b.rules.flatMap encRl), .own (a.g) 56 8 (b.grants.length) a.cg (b.grants.flatMap encGn), .own (some g61) 48 9 (b.log.length + 1) c61 (b.log.flatMap encEv ++ encEv ev1), .own (a.s) 70 11 (b.rels.length) a.cs (b.rels.flatMap encRv)]) mS ⟨⟨a.e, a.r, a.g, some g61, a.s, a.ce, a.cr, a.cg, c61, a.cs⟩, rfl, rfl⟩; done)
          | trace_state
      · rw [insE, if_neg hin]
        simp only [encBk, bkRows, el1, el2] at hC ⊢
        repeat' (first | ((with_reducible apply wl_callp (f := 12)); exact rfl; exact rfl; (intro w' hm; exact hC w' _ hm)) | ((with_reducible apply wl_call (f := 28)); exact rfl; exact rfl; (intro w' hm; exact hY w' _ hm); rintro _ _ ⟨a, rfl, rfl⟩; unfold bkRows) | ((with_reducible apply wl_v (d := 27)); exact rfl; (with_reducible apply v_add); exact rfl; exact rfl; exact ⟨by omega, by omega⟩) | ((with_reducible apply wl_callp (f := 54)); exact rfl; exact rfl; (intro w' hm; exact hD w' _ _ pK hm)) | ((with_reducible apply wl_callp (f := 55)); exact rfl; exact rfl; (intro w' _; exact hM w')) | ((with_reducible apply wl_callp (f := 56)); exact rfl; exact rfl; (intro w' hm; exact hE w' _ hm)) | ((with_reducible apply wl_append1 (d := 61)); (iterate 3 exact rfl); exact pK; exact pK; exact rfl; (intro u hu; simp [encEv] at hu; rcases hu with rfl | rfl | rfl | rfl | rfl | rfl | rfl | rfl | rfl <;> rfl); omega; (simp only [maxLen]; omega); intro g61 c61) | ((with_reducible apply wl_callin (f := 57)); exact rfl; exact rfl; exact hdel _ _ _ _ _ pK pK; rintro _ _ ⟨rfl, rfl⟩) | ((with_reducible apply wl_v (d := 80)); exact rfl; (with_reducible apply v_neqs (b := emptyB)); exact rfl; exact rfl) | refine sT ?_ | refine sS ?_ | refine sM fun _ => ?_ | (refine sC ?_ ?_ <;> intro hb <;> try omega) | fail)
        all_goals first | (exfalso; omega) | skip
        all_goals try (exact absurd (Decidable.not_not.1 hb) hin)
        rename_i g2 g3 g4 _ g9 g60 _ _ g11
        obtain ⟨ae, ar, ag, al, as_, ce, cr, cg, cl, cs⟩ := a
        have hLs := fun (a b : Rf) w => Less_at a b w
        refine w_loopK [3, 4, 5, 6, 7, 11] rfl (fun i : Nat => [(12, .int .i64 (i : Int))]) (fun _ => [.box g11 51 (encF (toO o)), .box g4 28 [.int .i64 b.users, sl ae L.length ce, sl ar b.rules.length cr, sl ag b.grants.length cg, sl (some g61) (b.log.length + 1) c61, sl as_ b.rels.length cs, .int .i64 (b.step + 1)], .box g3 41 (encOx o), .own (ae) 53 3 (L.length) ce (L.flatMap encEt), .own (ar) 38 7 (b.rules.length) cr (b.rules.flatMap encRl), .own (ag) 56 8 (b.grants.length) cg (b.grants.flatMap encGn), .own (some g61) 48 9 (b.log.length + 1) c61 (b.log.flatMap encEv ++ encEv ev1), .own (as_) 70 11 (b.rels.length) cs (b.rels.flatMap encRv)]) (fun i => i ≤ L.length ∧ ∀ j (h : j < L.length), j < i → lessF L[j].at_ (toO o) = true) (fun i => L.length - i) 0 ⟨by omega, fun j _ h => by omega⟩ sB mS ?_
        rintro i ⟨hi, hall⟩
        by_cases hlt : i < L.length
        · refine w_some (A := ae) pK (by omega) fun ga hA => ?_
          subst hA
          have hread : ((L.flatMap encEt).drop (0 + i * 3 + 0)).take 2 = encF L[i].at_ := by
            have h1 := refE hlt
            rw [Nat.add_zero]
            calc ((L.flatMap encEt).drop (0 + i * 3)).take 2 = (((L.flatMap encEt).drop (0 + i * 3)).take 3).take 2 := by rw [List.take_take]; rfl
              _ = _ := by rw [h1]; rfl
          have hLi := hLs L[i].at_ (toO o)
          obtain ⟨cc, hcc⟩ : ∃ cc, lessF L[i].at_ (toO o) = cc := ⟨_, rfl⟩
          rw [hcc] at hLi
          cases cc with
          | true =>
            repeat' (first | ((with_reducible apply w_drawC0 (id := 21) [13] []); kernel_rfl; kernel_rfl; kernel_rfl) | ((with_reducible apply wc_v (d := 97)); (iterate 3 exact rfl); (with_reducible apply v_indexAddr (j := i)); exact rfl; exact rfl; omega) | ((with_reducible apply wc_v (d := 99)); (iterate 3 exact rfl); (with_reducible apply v_loads_own); exact rfl; exact pK; exact hread; exact rfl) | ((with_reducible apply wl_callp (f := 60)); exact rfl; exact rfl; (intro w' _; exact hLi w')) | refine sT ?_ | refine sS ?_ | refine sW ?_ | refine sN ?_ | refine sWN ?_ | refine sM fun _ => ?_ | (refine sC ?_ ?_ <;> intro hb <;> try omega) | (refine sCW ?_ ?_ <;> intro hb <;> try omega) | fail)
            all_goals first
              | (exfalso; omega)
              | (refine ⟨i + 1, ⟨hlt, fun j hj hji => ?_⟩, by omega, by exact sB, by exact sB, by exact mS⟩
                 rcases (by omega : j < i ∨ j = i) with h | rfl
                 · exact hall j hj h
                 · exact hcc)
              | trace_state
          | false =>
            have hpe := posE_at hi hall (.inr ⟨hlt, hcc⟩)
            have hpl : (L.take i ++ (⟨toO o, o.input⟩ : Et) :: L.drop i).length = L.length + 1 := by simp [List.length_take, List.length_drop]; omega
            rw [hpe, hpl]
            repeat' (first | ((with_reducible apply w_drawC0 (id := 21) [13] []); kernel_rfl; kernel_rfl; kernel_rfl) | ((with_reducible apply wc_v (d := 97)); (iterate 3 exact rfl); (with_reducible apply v_indexAddr (j := i)); exact rfl; exact rfl; omega) | ((with_reducible apply wc_v (d := 99)); (iterate 3 exact rfl); (with_reducible apply v_loads_own); exact rfl; exact pK; exact hread; exact rfl) | ((with_reducible apply wl_callp (f := 60)); exact rfl; exact rfl; (intro w' _; exact hLi w')) | ((with_reducible apply wl_callin (f := 61)); exact rfl; exact rfl; exact insert_sel L i hi ⟨toO o, o.input⟩ _ _ hLl w pK; rintro _ _ ⟨A9, c9, rfl, rfl⟩) | refine sT ?_ | refine sS ?_ | refine sW ?_ | refine sN ?_ | refine sWN ?_ | refine sM fun _ => ?_ | (refine sC ?_ ?_ <;> intro hb <;> try omega) | (refine sCW ?_ ?_ <;> intro hb <;> try omega) | fail)
            all_goals first
              | (exfalso; omega)
              | (refine retcttt eIO rfl rfl pK rfl rfl rfl rfl (H' := [.own (A9) 53 3 (L.length + 1) c9 ((L.take i ++ (⟨toO o, o.input⟩ : Et) :: L.drop i).flatMap encEt), .own (ar) 38 7 (b.rules.length) cr (b.rules.flatMap encRl), .own (ag) 56 8 (b.grants.length) cg (b.grants.flatMap encGn), .own (some g61) 48 9 (b.log.length + 1) c61 (b.log.flatMap encEv ++ encEv ev1), .own (as_) 70 11 (b.rels.length) cs (b.rels.flatMap encRv)]) mS ⟨⟨A9, ar, ag, some g61, as_, c9, cr, cg, c61, cs⟩, rfl, rfl⟩; done)
              | trace_state
        · have hpe := posE_at hi hall (.inl (by omega))
          have hpl : (L.take i ++ (⟨toO o, o.input⟩ : Et) :: L.drop i).length = L.length + 1 := by simp [List.length_take, List.length_drop]; omega
          rw [hpe, hpl]
          repeat' (first | ((with_reducible apply w_drawC0 (id := 21) [13] []); kernel_rfl; kernel_rfl; kernel_rfl) | ((with_reducible apply wl_callin (f := 61)); exact rfl; exact rfl; exact insert_sel L i hi ⟨toO o, o.input⟩ _ _ hLl w pK; rintro _ _ ⟨A9, c9, rfl, rfl⟩) | refine sT ?_ | refine sS ?_ | refine sW ?_ | refine sN ?_ | refine sWN ?_ | refine sM fun _ => ?_ | (refine sC ?_ ?_ <;> intro hb <;> try omega) | (refine sCW ?_ ?_ <;> intro hb <;> try omega) | fail)
          all_goals first
            | (exfalso; omega)
            | (refine retcttt eIO rfl rfl pK rfl rfl rfl rfl (H' := [.own (A9) 53 3 (L.length + 1) c9 ((L.take i ++ (⟨toO o, o.input⟩ : Et) :: L.drop i).flatMap encEt), .own (ar) 38 7 (b.rules.length) cr (b.rules.flatMap encRl), .own (ag) 56 8 (b.grants.length) cg (b.grants.flatMap encGn), .own (some g61) 48 9 (b.log.length + 1) c61 (b.log.flatMap encEv ++ encEv ev1), .own (as_) 70 11 (b.rels.length) cs (b.rels.flatMap encRv)]) mS ⟨⟨A9, ar, ag, some g61, as_, c9, cr, cg, c61, cs⟩, rfl, rfl⟩; done)
            | trace_state
    · have e1 : (b.rules ++ [(⟨o.rect, o.rd, o.wr, o.ow⟩ : Rl)]).length = b.rules.length + 1 := by rw [List.length_append]; rfl
      have e2 : (b.rules ++ [(⟨o.rect, o.rd, o.wr, o.ow⟩ : Rl)]).flatMap encRl = b.rules.flatMap encRl ++ encRl ⟨o.rect, o.rd, o.wr, o.ow⟩ := by rw [List.flatMap_append, List.flatMap_cons, List.flatMap_nil, List.append_nil]
      rw [aftB, if_neg (by omega), if_pos hk]
      simp only [encBk, bkRows, el1, el2, e1, e2] at hC ⊢
      repeat' (first | ((with_reducible apply wl_callp (f := 12)); exact rfl; exact rfl; (intro w' hm; exact hC w' _ hm)) | ((with_reducible apply wl_call (f := 28)); exact rfl; exact rfl; (intro w' hm; exact hY w' _ hm); rintro _ _ ⟨a, rfl, rfl⟩; unfold bkRows) | ((with_reducible apply wl_v (d := 27)); exact rfl; (with_reducible apply v_add); exact rfl; exact rfl; exact ⟨by omega, by omega⟩) | ((with_reducible apply wl_callp (f := 54)); exact rfl; exact rfl; (intro w' hm; exact hD w' _ _ pK hm)) | ((with_reducible apply wl_callp (f := 55)); exact rfl; exact rfl; (intro w' _; exact hM w')) | ((with_reducible apply wl_callp (f := 56)); exact rfl; exact rfl; (intro w' hm; exact hE w' _ hm)) | ((with_reducible apply wl_append1 (d := 61)); (iterate 3 exact rfl); exact pK; exact pK; exact rfl; (intro u hu; simp [encEv] at hu; rcases hu with rfl | rfl | rfl | rfl | rfl | rfl | rfl | rfl | rfl <;> rfl); omega; (simp only [maxLen]; omega); intro g61 c61) | ((with_reducible apply wl_append1 (d := 124)); (iterate 3 exact rfl); exact pK; exact pK; exact rfl; (intro u hu; simp at hu; rcases hu with rfl | rfl | rfl | rfl | rfl | rfl | rfl <;> rfl); omega; (simp only [maxLen]; omega); intro g7 c7) | refine sT ?_ | refine sS ?_ | refine sM fun _ => ?_ | (refine sC ?_ ?_ <;> intro hb <;> try omega) | fail)
      all_goals first
        | (exfalso; omega)
        | (refine retcttt eIO rfl rfl pK rfl rfl rfl rfl (H' := [.own (a.e) 53 3 (b.ents.length) a.ce (b.ents.flatMap encEt), .own (some g7) 38 7 (b.rules.length + 1) c7 (b.rules.flatMap encRl ++ encRl ⟨o.rect, o.rd, o.wr, o.ow⟩), .own (a.g) 56 8 (b.grants.length) a.cg (b.grants.flatMap encGn), .own (some g61) 48 9 (b.log.length + 1) c61 (b.log.flatMap encEv ++ encEv ev1), .own (a.s) 70 11 (b.rels.length) a.cs (b.rels.flatMap encRv)]) mS ⟨⟨a.e, some g7, a.g, some g61, a.s, a.ce, c7, a.cg, c61, a.cs⟩, rfl, rfl⟩; done)
        | trace_state
    · have e1 : (b.grants ++ [(⟨o.rect, o.fns, o.to, o.user, false⟩ : Gn)]).length = b.grants.length + 1 := by rw [List.length_append]; rfl
      have e2 : (b.grants ++ [(⟨o.rect, o.fns, o.to, o.user, false⟩ : Gn)]).flatMap encGn = b.grants.flatMap encGn ++ encGn ⟨o.rect, o.fns, o.to, o.user, false⟩ := by rw [List.flatMap_append, List.flatMap_cons, List.flatMap_nil, List.append_nil]
      rw [aftB, if_neg (by omega), if_neg (by omega), if_pos hk]
      simp only [encBk, bkRows, el1, el2, e1, e2] at hC ⊢
      repeat' (first | ((with_reducible apply wl_callp (f := 12)); exact rfl; exact rfl; (intro w' hm; exact hC w' _ hm)) | ((with_reducible apply wl_call (f := 28)); exact rfl; exact rfl; (intro w' hm; exact hY w' _ hm); rintro _ _ ⟨a, rfl, rfl⟩; unfold bkRows) | ((with_reducible apply wl_v (d := 27)); exact rfl; (with_reducible apply v_add); exact rfl; exact rfl; exact ⟨by omega, by omega⟩) | ((with_reducible apply wl_callp (f := 54)); exact rfl; exact rfl; (intro w' hm; exact hD w' _ _ pK hm)) | ((with_reducible apply wl_callp (f := 55)); exact rfl; exact rfl; (intro w' _; exact hM w')) | ((with_reducible apply wl_callp (f := 56)); exact rfl; exact rfl; (intro w' hm; exact hE w' _ hm)) | ((with_reducible apply wl_append1 (d := 61)); (iterate 3 exact rfl); exact pK; exact pK; exact rfl; (intro u hu; simp [encEv] at hu; rcases hu with rfl | rfl | rfl | rfl | rfl | rfl | rfl | rfl | rfl <;> rfl); omega; (simp only [maxLen]; omega); intro g61 c61) | ((with_reducible apply wl_append1 (d := 140)); (iterate 3 exact rfl); exact pK; exact pK; exact rfl; (intro u hu; simp at hu; rcases hu with rfl | rfl | rfl | rfl | rfl | rfl | rfl | rfl <;> rfl); omega; (simp only [maxLen]; omega); intro g8 c8) | refine sT ?_ | refine sS ?_ | refine sM fun _ => ?_ | (refine sC ?_ ?_ <;> intro hb <;> try omega) | fail)
      all_goals first
        | (exfalso; omega)
        | (refine retcttt eIO rfl rfl pK rfl rfl rfl rfl (H' := [.own (a.e) 53 3 (b.ents.length) a.ce (b.ents.flatMap encEt), .own (a.r) 38 7 (b.rules.length) a.cr (b.rules.flatMap encRl), .own (some g8) 56 8 (b.grants.length + 1) c8 (b.grants.flatMap encGn ++ encGn ⟨o.rect, o.fns, o.to, o.user, false⟩), .own (some g61) 48 9 (b.log.length + 1) c61 (b.log.flatMap encEv ++ encEv ev1), .own (a.s) 70 11 (b.rels.length) a.cs (b.rels.flatMap encRv)]) mS ⟨⟨a.e, a.r, some g8, some g61, a.s, a.ce, a.cr, c8, c61, a.cs⟩, rfl, rfl⟩; done)
        | trace_state
    · obtain ⟨j, hj⟩ : ∃ j : Nat, o.idx = (j : Int) ∧ j < b.grants.length := by
        have h4 : tst b o 4 = false := by
          rcases h : tst b o 4 with _ | _
          · rfl
          · exfalso
            unfold cdE at hcd
            rw [h] at hcd
            revert hcd
            (repeat' split) <;> intro hcd <;> injection hcd with h1 h2 <;> first | (exact absurd h1 (by decide)) | contradiction
        have := tst4 h4 hk
        exact ⟨o.idx.toNat, by omega, by omega⟩
      obtain ⟨hj, hjl⟩ := hj
      have hrv : revN b.grants o.idx.toNat = b.grants.set j ⟨b.grants[j].rect, b.grants[j].fns, b.grants[j].to, b.grants[j].by_, true⟩ := by
        unfold revN
        rw [hj, Int.toNat_natCast, List.getElem?_eq_getElem hjl]
      rw [aftB, if_neg (by omega), if_neg (by omega), if_neg (by omega), if_pos hk]
      dsimp only
      rw [hrv]
      have e1 : (b.grants.set j ⟨b.grants[j].rect, b.grants[j].fns, b.grants[j].to, b.grants[j].by_, true⟩).length = b.grants.length := List.length_set
      have e2 : (b.grants.set j ⟨b.grants[j].rect, b.grants[j].fns, b.grants[j].to, b.grants[j].by_, true⟩).flatMap encGn = (b.grants.flatMap encGn).set (0 + j * 8 + 7) (.bool true) := by
        rw [Nat.zero_add]
        exact (rev_cells b.grants j hjl).symm
      have hfit : 0 + j * 8 + 7 < (b.grants.flatMap encGn).length := by rw [flat_length' encGn_len]; omega
      simp only [encBk, bkRows, el1, el2, e1, e2] at hC ⊢
      repeat' (first | ((with_reducible apply wl_callp (f := 12)); exact rfl; exact rfl; (intro w' hm; exact hC w' _ hm)) | ((with_reducible apply wl_call (f := 28)); exact rfl; exact rfl; (intro w' hm; exact hY w' _ hm); rintro _ _ ⟨a, rfl, rfl⟩; unfold bkRows) | ((with_reducible apply wl_v (d := 27)); exact rfl; (with_reducible apply v_add); exact rfl; exact rfl; exact ⟨by omega, by omega⟩) | ((with_reducible apply wl_callp (f := 54)); exact rfl; exact rfl; (intro w' hm; exact hD w' _ _ pK hm)) | ((with_reducible apply wl_callp (f := 55)); exact rfl; exact rfl; (intro w' _; exact hM w')) | ((with_reducible apply wl_callp (f := 56)); exact rfl; exact rfl; (intro w' hm; exact hE w' _ hm)) | ((with_reducible apply wl_append1 (d := 61)); (iterate 3 exact rfl); exact pK; exact pK; exact rfl; (intro u hu; simp [encEv] at hu; rcases hu with rfl | rfl | rfl | rfl | rfl | rfl | rfl | rfl | rfl <;> rfl); omega; (simp only [maxLen]; omega); intro g61 c61) | ((with_reducible apply wl_v (d := 148)); exact rfl; (with_reducible apply v_indexAddr (j := j)); exact rfl; (rw [← hj]; exact rfl); exact hjl) | ((with_reducible apply wl_store_own); exact rfl; exact rfl; exact pK; exact rfl; exact hfit) | refine sT ?_ | refine sS ?_ | refine sM fun _ => ?_ | (refine sC ?_ ?_ <;> intro hb <;> try omega) | fail)
      all_goals first | (exfalso; omega) | skip
      obtain ⟨ae, ar, ag, al, as_, ce, cr, cg, cl, cs⟩ := a
      refine wl_some (A := ag) (xs := b.grants.flatMap encGn) pK (by omega) fun gg hA => ?_
      subst hA
      repeat' (first | ((with_reducible apply wl_v (d := 148)); exact rfl; (with_reducible apply v_indexAddr (j := j)); exact rfl; (rw [← hj]; exact rfl); exact hjl) | ((with_reducible apply wl_store_own); exact rfl; exact rfl; exact pK; exact rfl; exact hfit) | refine sT ?_ | refine sS ?_ | refine sM fun _ => ?_ | (refine sC ?_ ?_ <;> intro hb <;> try omega) | fail)
      all_goals first
        | (exfalso; omega)
        | (refine retcttt eIO rfl rfl pK rfl rfl rfl rfl (H' := [.own (ae) 53 3 (b.ents.length) ce (b.ents.flatMap encEt), .own (ar) 38 7 (b.rules.length) cr (b.rules.flatMap encRl), .own (some gg) 56 8 (b.grants.length) cg ((b.grants.flatMap encGn).set (0 + j * 8 + 7) (.bool true)), .own (some g61) 48 9 (b.log.length + 1) c61 (b.log.flatMap encEv ++ encEv ev1), .own (as_) 70 11 (b.rels.length) cs (b.rels.flatMap encRv)]) mS ⟨⟨ae, ar, some gg, some g61, as_, ce, cr, cg, c61, cs⟩, rfl, rfl⟩; done)
        | trace_state
end Go.SL
namespace Go.SL
open Go Go.Proofs
attribute [local irreducible] W WL WQ WG WA WX WLI WR WT WC WE VOp RW thn blk cutP scp retP retPP endB FnAt FnIn FnP ceP
def exBk:Bk:=⟨3,flowL,bkR,[],[],[],0⟩
theorem Example31_at (w:World):FnAt Tryz.prog 11 [] w fun v H=> ∃ a:Bo,v= .agg (encBk exBk a.v).toArray∧H=bkRows exBk a:=by
 refine fn_at Tryz.func11 rfl Tryz.ntmps11 rfl ?_
 refine w_nilrow 56 8 ?_
 refine w_nilrow 48 9 ?_
 refine w_nilrow 70 11 ?_
 repeat' (first|((with_reducible apply wl_call (f:=49));exact rfl;exact rfl;(intro w' hm;exact Book27_at w');rintro _ _ ⟨ge,gr,gn,rfl,rfl⟩)|refine sT ?_|refine sS ?_|refine sM fun _=> ?_|(refine sC ?_ ?_<;>intro hb<;>try omega)|fail)
 exact retc (.inl rfl) rfl rfl pK rfl (H' :=bkRows exBk ⟨some ge,some gr,none,none,none,6,2,0,0,0⟩) (by unfold bkRows;exact mS) ⟨⟨some ge,some gr,none,none,none,6,2,0,0,0⟩,rfl,rfl⟩
def cellR (c r:Int):Rct:=⟨c,r,c,r⟩
theorem cell31_at (c r:Int) (w:World):Pure Tryz.prog 13 [.int .i64 c,.int .i64 r] w (.agg (encR (cellR c r)).toArray):=by
 refine fn_at Tryz.func13 rfl Tryz.ntmps13 rfl ?_
 repeat' (first|refine sT ?_|refine sM fun _=> ?_|(refine sC ?_ ?_<;>intro hb<;>try omega)|fail)
 (refine eRC ?_)
 rfl
section
variable (ov:Rct→List Rl→(BitVec 64 × BitVec 64 × BitVec 64) × Int)
def rfsV (b:Bk) (o:Ox):Bool:=
 if o.kind=3∨o.kind=4 then !hasS (ov o.rect b.rules).1.2.1 o.user
 else if o.kind=6 then !hasS (ov o.rect b.rules).1.1 o.user
 else if o.kind=7∨o.kind=8 then !hasS (ov o.rect b.rules).1.2.2 o.user
 else if o.kind=9 then (match b.grants[o.idx.toNat]? with|some g=>decide (g.by_≠o.user) && !hasS (ov g.rect b.rules).1.2.2 o.user|none=>false)
 else false
def cdV (b:Bk) (o:Ox):Int × Int:=
 if tst b o 0 then (1,0) else if tst b o 1 then (2,0) else if tst b o 2 then (4,0) else if tst b o 3 then (2,0) else if tst b o 4 then (8,0)
 else if rfsV ov b o then (5,0) else if tst b o 6 then (6,(ofP o.input).2.1) else if tst b o 7 then (7,0) else (0,0)
def evV (step:Int) (x:Ox) (dn:Bool) (L:List Rl) (N:List Gn):Ev × Int:=
 if mutK x.kind=false then (zeroEv,2)
 else if step<0∨opE x≠0∨x.user<0∨64≤x.user then (zeroEv,2)
 else if (aclE 64 L).2≠0 then (zeroEv,(aclE 64 L).2)
 else if (gntE 64 N).2≠0 then (zeroEv,(gntE 64 N).2)
 else if x.kind=9∧(x.idx<0∨(N.length:Int)≤x.idx) then (zeroEv,6)
 else if rectOk (evT x N)=false then (zeroEv,3)
 else (⟨step,x.user,x.kind,evT x N,dn,(ov (evT x N) L).1.2.2|||(ofS x.user).1⟩,0)
def logV (b:Bk) (o:Ox) (c:Int):Bk:=
 ⟨b.users,b.ents,b.rules,b.grants,if (c=0∨c=5)∧mutK o.kind=true then b.log++ [(evV ov b.step o (decide (c=0)) b.rules b.grants).1] else b.log,b.rels,b.step+1⟩
def apW (b:Bk) (o:Ox) (c:Int × Int):Bk × Int × Int × Int:=
 if c.1≠0 then (logV ov b o c.1,c.1,c.2,0) else (aftB (logV ov b o c.1) o,0,0,0)
def apV (b:Bk) (o:Ox):Bk × Int × Int × Int:=
 if bkE b≠0 then (zeroBk,0,0,bkE b)
 else if b.step=1099511627776 then (zeroBk,0,0,5)
 else apW ov b o (cdV ov b o)
end
theorem apV_eq (b:Bk) (o:Ox):apE b o=apV ovC b o:=by rw [← ovC_eq];rfl
end Go.SL
