/-
  Lemmas and walks, put together: Hj Sl33 Hk Hl Sl34 Hm Sl35 Hn.
-/
import Derived.Test.YtljeomidcjpfmaaGreatDoorKb17
set_option linter.unusedSimpArgs false
set_option linter.unusedVariables false
set_option maxRecDepth 20000
namespace Go.SL
open Go Go.Proofs
attribute [local irreducible] W WL WQ WG WA WX WLI WR WT WC WE VOp RW thn blk cutP scp retP retPP endB FnAt FnIn FnP ceP
--
theorem grow_app {l m:List Pz} {p:Pz} (hm:m≠ []):l++growZ m p=growZ (l++m) p:=by
 have e:=List.dropLast_concat_getLast hm
 generalize hd:m.dropLast=d at e
 generalize m.getLast hm=q at e
 subst e
 unfold growZ
 rw [← List.append_assoc,List.getLast?_concat,List.getLast?_concat]
 dsimp only
 rw [List.dropLast_concat,List.dropLast_concat]
 split<;>simp
theorem grow_last {O:List Pz} {q p:Pz}:growZ (O++ [q]) p=if q.a=p.a∧q.b=p.b then O++ [⟨⟨q.rect.c1,q.rect.r1,p.rect.c2,q.rect.r2⟩,q.a,q.b⟩] else O++ [q]++ [p]:=by
 unfold growZ
 rw [List.getLast?_concat]
 dsimp only
 rw [List.dropLast_concat]
theorem row_len {A B:List Rl} {y:Int × Int} (xs:List (Int × Int)):(rowZ A B y xs).length≤xs.length:=by
 induction xs using snocRec with
 |h0=>exact Nat.le_refl _
 |h1 xs x ih=>
  rw [rowZ_snoc,List.length_append,List.length_singleton]
  generalize rowZ A B y xs=l at ih
  unfold growZ
  cases h:l.getLast? with
  |none=>simp
  |some q=>
   dsimp only
   split
   ·
    rw [List.length_append,List.length_dropLast,List.length_singleton];omega
   ·
    rw [List.length_append,List.length_singleton];omega
theorem row_none {A B:List Rl} {y:Int × Int}:rowZ A B y []= []:=rfl
def rowsTo (A B:List Rl) (ys xs:List (Int × Int)):List Pz:=ys.flatMap fun y=>rowZ A B y xs
theorem rowsTo_snoc {A B:List Rl} {ys xs:List (Int × Int)} {y:Int × Int}:rowsTo A B (ys++ [y]) xs=rowsTo A B ys xs++rowZ A B y xs:=by unfold rowsTo;simp
theorem rowsTo_len {A B:List Rl} {xs:List (Int × Int)}: ∀ ys:List (Int × Int),(rowsTo A B ys xs).length≤ys.length*xs.length
 | []=>by simp [rowsTo]
 |y::ys=>by
  have h1:=rowsTo_len (A:=A) (B:=B) (xs:=xs) ys
  have h2:=row_len (A:=A) (B:=B) (y:=y) xs
  unfold rowsTo at h1 ⊢
  rw [List.flatMap_cons,List.length_append,List.length_cons,Nat.succ_mul]
  omega
theorem row_c1 {A B:List Rl} {y:Int × Int} (xs:List (Int × Int)): ∀ q∈rowZ A B y xs,q.rect.r1=y.1∧ ∃ x∈xs,q.rect.c1=x.1:=by
 induction xs using snocRec with
 |h0=>intro q hq;cases hq
 |h1 xs x ih=>
  intro q hq
  rw [rowZ_snoc] at hq
  by_cases hn:rowZ A B y xs= []
  ·
   rw [hn] at hq
   have:q=partOf A B y x:=by simpa [growZ] using hq
   subst this
   exact ⟨rfl,x,by simp,rfl⟩
  ·
   have e:=List.dropLast_concat_getLast hn
   generalize (rowZ A B y xs).dropLast=d at e
   generalize (rowZ A B y xs).getLast hn=z at e
   rw [← e] at hq ih
   rw [grow_last] at hq
   have hz:=ih z (by simp)
   split at hq
   ·
    rcases List.mem_append.1 hq with hq|hq
    ·
     obtain ⟨h1,x',h2,h3⟩:=ih q (by simp [hq])
     exact ⟨h1,x',by simp [h2],h3⟩
    ·
     rw [List.mem_singleton.1 hq]
     obtain ⟨h1,x',h2,h3⟩:=hz
     exact ⟨h1,x',by simp [h2],h3⟩
   ·
    rcases List.mem_append.1 hq with hq|hq
    ·
     obtain ⟨h1,x',h2,h3⟩:=ih q hq
     exact ⟨h1,x',by simp [h2],h3⟩
    ·
     rw [List.mem_singleton.1 hq]
     exact ⟨rfl,x,by simp,rfl⟩
theorem parts_small {r:Rct} {A B:List Rl} (hrs:1≤r.c1∧r.c1≤r.c2∧r.c2≤1024∧1≤r.r1∧r.r1≤r.r2∧r.r2≤1024): ∀ p∈partsF r A B,smallZ p:=fun p hp=>by
 obtain ⟨y,hy,hp⟩:=List.mem_flatMap.1 hp
 obtain ⟨h1,x,hx,h2⟩:=row_c1 _ p hp
 have h3:=bands_mem hy
 have h4:=bands_mem hx
 unfold smallZ
 omega
set_option maxHeartbeats 16000000 in
theorem parts_at (r : Rct) (hr : rectOk r = true) (A B : List Rl) (la lb : Value) (w : World) (hla : Reads w la A.length (A.flatMap encRl)) (hlb : Reads w lb B.length (B.flatMap encRl)) (hA : A.length ≤ 200) (hB : B.length ≤ 200) :
    FnAt Tryz.prog 217 [.agg (encR r).toArray, la, lb] w fun v H => ∃ Ap cap, v = sl Ap (partsF r A B).length cap ∧ H = [.own Ap 319 6 (partsF r A B).length cap ((partsF r A B).flatMap encPz)] := by
  refine fn_at Tryz.func217 rfl Tryz.ntmps217 rfl ?_
  have hrs := rectOk_sides.1 hr
  have hZ : InZ (partsF r A B) := by
    refine ⟨parts_sorted r A B, parts_small hrs, ?_⟩
    have h1 := rowsTo_len (A := A) (B := B) (xs := bandsF r.c1 r.c2 (colsOf r A ++ colsOf r B)) (bandsF r.r1 r.r2 (rowsOf r A ++ rowsOf r B))
    have h2 := bandsF_len r.c1 r.c2 (colsOf r A ++ colsOf r B)
    have h3 := bandsF_len r.r1 r.r2 (rowsOf r A ++ rowsOf r B)
    have h4 := colsOf_len r A
    have h5 := colsOf_len r B
    have h6 := rowsOf_len r A
    have h7 := rowsOf_len r B
    rw [List.length_append] at h2 h3
    refine Nat.le_trans h1 (Nat.le_trans (Nat.mul_le_mul (show _ ≤ 801 by omega) (show _ ≤ 801 by omega)) (by decide))
  have hnA := fun (gr gc gw : Nat) => note_in r A la gr gc gw none none 0 0 [] [] [] w hla (by simp; omega) (by simp; omega)
  have hnB := fun (gr gc gw : Nat) (A1 A2 : Option Nat) (c1 c2 : Nat) => note_in r B lb gr gc gw A1 A2 c1 c2 (colsOf r A) (rowsOf r A) [] w hlb (by have := colsOf_len r A; omega) (by have := rowsOf_len r A; omega)
  have hcl : (colsOf r A ++ colsOf r B).length ≤ 400 := by have := colsOf_len r A; have := colsOf_len r B; rw [List.length_append]; omega
  have hwl : (rowsOf r A ++ rowsOf r B).length ≤ 400 := by have := rowsOf_len r A; have := rowsOf_len r B; rw [List.length_append]; omega
  have hcs : ∀ p ∈ colsOf r A ++ colsOf r B, 0 ≤ p.1 ∧ p.1 ≤ 100000 ∧ 0 ≤ p.2 ∧ p.2 ≤ 100000 := fun p hp => (List.mem_append.1 hp).elim (colsOf_small p) (colsOf_small p)
  have hws : ∀ p ∈ rowsOf r A ++ rowsOf r B, 0 ≤ p.1 ∧ p.1 ≤ 100000 ∧ 0 ≤ p.2 ∧ p.2 ≤ 100000 := fun p hp => (List.mem_append.1 hp).elim (rowsOf_small p) (rowsOf_small p)
  have hb1 := fun (w' : World) (lv : Value) (h : Reads w' lv _ _) => bands_at r.c1 r.c2 (colsOf r A ++ colsOf r B) lv w' h (by omega) (by omega) (by omega) hcs
  have hb2 := fun (w' : World) (lv : Value) (h : Reads w' lv _ _) => bands_at r.r1 r.r2 (rowsOf r A ++ rowsOf r B) lv w' h (by omega) (by omega) (by omega) hws
  have hxl := bandsF_len r.c1 r.c2 (colsOf r A ++ colsOf r B)
  have hyl := bandsF_len r.r1 r.r2 (rowsOf r A ++ rowsOf r B)
  have hpf : partsF r A B = rowsTo A B (bandsF r.r1 r.r2 (rowsOf r A ++ rowsOf r B)) (bandsF r.c1 r.c2 (colsOf r A ++ colsOf r B)) := rfl
  generalize partsF r A B = PZ at hZ hpf ⊢
  generalize hX : bandsF r.c1 r.c2 (colsOf r A ++ colsOf r B) = xB at hb1 hxl hpf
  generalize hY : bandsF r.r1 r.r2 (rowsOf r A ++ rowsOf r B) = yB at hb2 hyl hpf
  generalize hCO : colsOf r A ++ colsOf r B = CO at hb1 hcl hxl
  generalize hRO : rowsOf r A ++ rowsOf r B = RO at hb2 hwl hyl
  refine w_nilrow 317 2 ?_
  refine w_nilrow 317 2 ?_
  repeat' (first | ((with_reducible apply wl_callv (d := 21)); exact rfl; exact rfl; infer_instance; exact rfl; exact FnIn.msub (hnA _ _ _) (by simp only [pairB, List.append_eq, List.cons_append, List.nil_append]; exact mS); rintro _ _ ⟨rfl, A1, c1, A2, c2, rfl⟩) | ((with_reducible apply wl_callv (d := 24)); exact rfl; exact rfl; infer_instance; exact rfl; exact FnIn.msub (hnB _ _ _ A1 A2 c1 c2) (by simp only [pairB, List.append_eq, List.cons_append, List.nil_append]; exact mS); rintro _ _ ⟨rfl, A3, c3, A4, c4, rfl⟩) | refine sT ?_ | refine sS ?_ | refine sT2 ?_ | refine sM fun _ => ?_ | (refine sC ?_ ?_ <;> intro hb <;> try omega) | exact cT | fail)
  rename_i g3 g7 g8
  rw [hCO, hRO]
  simp only [pairB, List.append_eq, List.cons_append, List.nil_append]
  refine w_cut' (fun _ : Option Nat × Nat × Option Nat × Nat => [(1, la), (2, lb), (3, .pointer (some ⟨g3, 0, none⟩)), (7, .pointer (some ⟨g7, 0, none⟩)), (8, .pointer (some ⟨g8, 0, none⟩))]) (fun y => .box g7 385 [sl y.1 xB.length y.2.1] :: .own y.1 317 2 xB.length y.2.1 (xB.flatMap encBd) :: .box g8 385 [sl y.2.2.1 yB.length y.2.2.2] :: .own y.2.2.1 317 2 yB.length y.2.2.2 (yB.flatMap encBd) :: []) (fun _ => True) ?_ ?_
  · refine w_drawE (id := 5) [4, 5, 10, 11, 12, 13] [.box g3 33 (encR r)] 14 rfl rfl mS ?_
    repeat' (first | ((with_reducible apply we_v (i := 0)); (iterate 4 exact rfl); decide +kernel; decide +kernel; decide +kernel; (exact vC)) | ((with_reducible apply we_v (i := 1)); (iterate 4 exact rfl); decide +kernel; decide +kernel; decide +kernel; (exact vC)) | ((with_reducible apply we_v (i := 2)); (iterate 4 exact rfl); decide +kernel; decide +kernel; decide +kernel; (exact vC)) | ((with_reducible apply we_v (i := 3)); (iterate 4 exact rfl); decide +kernel; decide +kernel; decide +kernel; (exact vC)) | ((with_reducible apply we_v (i := 6)); (iterate 4 exact rfl); decide +kernel; decide +kernel; decide +kernel; (exact vC)) | ((with_reducible apply we_v (i := 7)); (iterate 4 exact rfl); decide +kernel; decide +kernel; decide +kernel; (exact vC)) | ((with_reducible apply we_v (i := 8)); (iterate 4 exact rfl); decide +kernel; decide +kernel; decide +kernel; (exact vC)) | ((with_reducible apply we_v (i := 9)); (iterate 4 exact rfl); decide +kernel; decide +kernel; decide +kernel; (exact vC)) | ((with_reducible apply we_two (i := 4) (j := 10)); (iterate 6 exact rfl); decide +kernel) | ((with_reducible apply we_two (i := 5) (j := 10)); (iterate 6 exact rfl); decide +kernel) | ((with_reducible apply we_two (i := 12) (j := 13)); (iterate 6 exact rfl); decide +kernel) | ((with_reducible apply we_one (i := 4)); (iterate 3 exact rfl); decide +kernel) | ((with_reducible apply we_one (i := 5)); (iterate 3 exact rfl); decide +kernel) | ((with_reducible apply we_one (i := 10)); (iterate 3 exact rfl); decide +kernel) | ((with_reducible apply we_one (i := 11)); (iterate 3 exact rfl); decide +kernel) | ((with_reducible apply we_one (i := 12)); (iterate 3 exact rfl); decide +kernel) | ((with_reducible apply we_one (i := 13)); (iterate 3 exact rfl); decide +kernel) | ((with_reducible apply wl_call (d := 30)); exact rfl; exact rfl; (intro w' hm; exact hb1 w' _ (Reads.of_own (A := A3) hm pK)); rintro _ _ ⟨A5, c5, rfl, rfl⟩) | ((with_reducible apply wl_call (d := 36)); exact rfl; exact rfl; (intro w' hm; exact hb2 w' _ (Reads.of_own (A := A4) hm pK)); rintro _ _ ⟨A6, c6, rfl, rfl⟩) | ((with_reducible apply we_done); decide +kernel) | ((with_reducible apply ce_n); (focus (exact mS; done))) | refine sT ?_ | refine sS ?_ | refine sT2 ?_ | refine sM fun _ => ?_ | (refine sC ?_ ?_ <;> intro hb <;> try omega) | exact cT | fail)
    all_goals first
      | (exfalso; omega)
      | (exact cut_n (A5, c5, A6, c6) trivial sB mS)
      | trace_state
  rintro ⟨A5, c5, A6, c6⟩ _
  dsimp only
  clear hnA hnB hb1 hb2 hX hY hCO hRO
  refine w_nilrow 319 6 ?_
  repeat' (first | refine sT ?_ | refine sS ?_ | refine sT2 ?_ | refine sM fun _ => ?_ | (refine sC ?_ ?_ <;> intro hb <;> try omega) | exact cT | fail)
  refine w_loopK [1, 2, 7, 37, 38] rfl (fun y : Nat × Option Nat × Nat => [(10, sl y.2.1 (rowsTo A B (yB.take y.1) xB).length y.2.2), (39, .int .i64 (y.1 : Int))]) (fun y => .own y.2.1 319 6 (rowsTo A B (yB.take y.1) xB).length y.2.2 ((rowsTo A B (yB.take y.1) xB).flatMap encPz) :: .box g7 385 [sl A5 xB.length c5] :: .own A5 317 2 xB.length c5 (xB.flatMap encBd) :: .own A6 317 2 yB.length c6 (yB.flatMap encBd) :: []) (fun y => y.1 ≤ yB.length) (fun y => yB.length - y.1) (0, none, 0) (Nat.zero_le _) sB mS ?_
  rintro ⟨j, Ao, co⟩ hj
  dsimp only at hj ⊢
  by_cases hjl : j < yB.length
  · refine w_some (A := A6) pK (by omega) fun g6 hA6 => ?_
    subst hA6
    have hrd : ((yB.flatMap encBd).drop (0 + j * 2)).take 2 = encBd yB[j] := by rw [Nat.zero_add]; exact flat_elem encBd_len yB j hjl
    have hsn := rowsTo_snoc (A := A) (B := B) (ys := yB.take j) (xs := xB) (y := yB[j])
    rw [← List.take_succ_eq_append_getElem hjl] at hsn
    have hpl : (rowsTo A B (yB.take j) xB).length ≤ 700000 := by
      have h1 := rowsTo_len (A := A) (B := B) (xs := xB) (yB.take j)
      refine Nat.le_trans h1 (Nat.le_trans (Nat.mul_le_mul (show _ ≤ 801 by rw [List.length_take]; omega) (show _ ≤ 801 by omega)) (by decide))
    generalize yB[j] = y at hrd hsn
    generalize rowsTo A B (yB.take j) xB = prev at hsn hpl ⊢
    repeat' (first | ((with_reducible apply wl_v (d := 41)); exact rfl; (with_reducible apply v_indexAddr (j := j)); exact rfl; exact rfl; exact hjl) | ((with_reducible apply wl_v (d := 42)); exact rfl; (with_reducible apply v_loads_own (ys := encBd y)); exact rfl; exact pK; exact hrd; exact rfl) | refine sT ?_ | refine sS ?_ | refine sT2 ?_ | refine sN ?_ | refine sM fun _ => ?_ | (refine sC ?_ ?_ <;> intro hb <;> try omega) | exact cT | fail)
    all_goals first | (exfalso; omega) | skip
    rename_i g12
    refine w_loopK [1, 2, 7, 12, 13, 37, 38, 39, 45, 46] rfl (fun z : Nat × Option Nat × Nat => [(10, sl z.2.1 (prev ++ rowZ A B y (xB.take z.1)).length z.2.2), (47, .int .i64 (z.1 : Int))]) (fun z => .own z.2.1 319 6 (prev ++ rowZ A B y (xB.take z.1)).length z.2.2 ((prev ++ rowZ A B y (xB.take z.1)).flatMap encPz) :: .box g12 317 (encBd y) :: .box g7 385 [sl A5 xB.length c5] :: .own A5 317 2 xB.length c5 (xB.flatMap encBd) :: .own (some g6) 317 2 yB.length c6 (yB.flatMap encBd) :: []) (fun z => z.1 ≤ xB.length) (fun z => xB.length - z.1) (0, Ao, co) (Nat.zero_le _) (by rw [List.take_zero, row_none, List.append_nil]; exact sB) (by rw [List.take_zero, row_none, List.append_nil]; exact mS) ?_
    rintro ⟨k, Az, cz⟩ hk
    dsimp only at hk ⊢
    by_cases hkl : k < xB.length
    · refine w_some (A := A5) pK (by omega) fun g5 hA5 => ?_
      subst hA5
      have hrx : ((xB.flatMap encBd).drop (0 + k * 2)).take 2 = encBd xB[k] := by rw [Nat.zero_add]; exact flat_elem encBd_len xB k hkl
      have hrn := rowZ_snoc (A := A) (B := B) (y := y) (xs := xB.take k) (x := xB[k])
      rw [← List.take_succ_eq_append_getElem hkl] at hrn
      have hcl2 := row_len (A := A) (B := B) (y := y) (xB.take k)
      rw [List.length_take] at hcl2
      generalize xB[k] = x at hrx hrn
      have hw1 := fun (w' : World) (H : List Blk) (hm : Mem w w' H) => which_at (gridR y x) A la w' (hla.of_w0 hm) (by omega)
      have hw2 := fun (w' : World) (H : List Blk) (hm : Mem w w' H) => which_at (gridR y x) B lb w' (hlb.of_w0 hm) (by omega)
      have hp : partOf A B y x = ⟨gridR y x, whichF (gridR y x) A, whichF (gridR y x) B⟩ := rfl
      rw [hp] at hrn
      generalize whichF (gridR y x) A = wa at hw1 hrn
      generalize whichF (gridR y x) B = wb at hw2 hrn
      clear hp
      repeat' (first | ((with_reducible apply wl_v (d := 49)); exact rfl; (with_reducible apply v_indexAddr (j := k)); exact rfl; exact rfl; exact hkl) | ((with_reducible apply wl_v (d := 50)); exact rfl; (with_reducible apply v_loads_own (ys := encBd x)); exact rfl; exact pK; exact hrx; exact rfl) | refine sT ?_ | refine sS ?_ | refine sT2 ?_ | refine sN ?_ | refine sM fun _ => ?_ | (refine sC ?_ ?_ <;> intro hb <;> try omega) | exact cT | fail)
      all_goals first | (exfalso; omega) | skip
      rename_i g15 g16
      generalize rowZ A B y (xB.take k) = cur at hrn hcl2 ⊢
      have hOl : (prev ++ cur).length ≤ 800000 := by rw [List.length_append]; omega
      refine w_drawL (id := 15) 10 (.box g16 319 (encPz ⟨gridR y x, wa, wb⟩) :: .own Az 319 6 (prev ++ cur).length cz ((prev ++ cur).flatMap encPz) :: .box g12 317 (encBd y) :: .box g7 385 [sl (some g5) xB.length c5] :: .own (some g5) 317 2 xB.length c5 (xB.flatMap encBd) :: .own (some g6) 317 2 yB.length c6 (yB.flatMap encBd) :: []) (by kernel_rfl) (by kernel_rfl) rfl ?_
      repeat' (first | ((with_reducible apply wg_lcallp (f' := 281) (f := 60)); exact rfl; decide +kernel; exact rfl; exact rfl; (intro w' hm; first | exact hw1 w' _ hm | exact hw2 w' _ hm)) | ((with_reducible apply wg_l (f := 60) (d := 69)); exact rfl; decide +kernel; exact rfl; (with_reducible apply v_buildAr); (iterate 5 exact rfl)) | ((with_reducible apply wg_lput_box); exact rfl; exact rfl; exact pK; (iterate 3 exact rfl); exact Nat.le_of_ble_eq_true rfl; exact mS) | refine sT ?_ | refine sS ?_ | refine sT2 ?_ | refine sG2 ?_ | refine sG ?_ | refine sM fun _ => ?_ | (refine sC ?_ ?_ <;> intro hb <;> try omega) | exact cT | fail)
      all_goals first | (exfalso; omega) | skip
      rcases Nat.eq_zero_or_pos cur.length with h0 | hpos
      · have hc0 : cur = [] := List.length_eq_zero_iff.1 h0
        subst hc0
        have hg : growZ [] (⟨gridR y x, wa, wb⟩ : Pz) = [⟨gridR y x, wa, wb⟩] := rfl
        rw [hg] at hrn
        rw [List.append_nil] at hOl ⊢
        repeat' (first | ((with_reducible apply w_draw (id := 17)); kernel_rfl; kernel_rfl) | ((with_reducible apply wl_append (d := 99) (A := Az) (m := 1)); (iterate 3 exact rfl); exact pK; (intro w hm; exact hm.cells_own pK); exact rfl; (simp [Value.oneCell', sl, encPz]); omega; (simp only [maxLen]; omega); (intro A' cap' hA')) | refine sT ?_ | refine sS ?_ | refine sQ ?_ | refine sT2 ?_ | refine sQ2 ?_ | refine sN ?_ | refine sNQ ?_ | refine sD ?_ | refine sM fun _ => ?_ | (refine sC ?_ ?_ <;> intro hb <;> try omega) | (refine sCQ ?_ ?_ <;> intro hb <;> try omega) | exact cT | fail)
        all_goals first
          | (exfalso; omega)
          | (refine ⟨(k + 1, A', cap'), hkl, by dsimp only; omega, ?_, by exact sB, ?_⟩
             · dsimp only; rw [hrn, List.length_append]; exact sB
             · dsimp only; rw [hrn, List.length_append, List.flatMap_append]; exact mS)
          | trace_state
      · have hne : cur ≠ [] := List.length_pos_iff.1 hpos
        have hga := grow_app (l := prev) (p := (⟨gridR y x, wa, wb⟩ : Pz)) hne
        rw [← hrn] at hga
        have hlt2 : prev.length < (prev ++ cur).length := by rw [List.length_append]; omega
        have hOe := List.dropLast_concat_getLast (l := prev ++ cur) (by simp [hne])
        generalize (prev ++ cur).dropLast = O at hOe
        generalize (prev ++ cur).getLast _ = q at hOe
        rw [← hOe] at hga hlt2 hOl ⊢
        rw [grow_last] at hga
        have hOn : (O ++ [q]).length = O.length + 1 := by simp
        rw [hOn] at hOl hlt2
        have hq2 : (((O ++ [q]).flatMap encPz).drop (0 + O.length * 6 + 4)).take 2 = encII (q.a, q.b) := by
          have h1 := flat_elem encPz_len (O ++ [q]) O.length (by simp)
          have h2 := congrArg (List.drop 4) h1
          rw [List.drop_take, List.drop_drop] at h2
          simp only [List.getElem_concat_length] at h2
          rw [Nat.zero_add]
          exact h2
        refine w_some (A := Az) pK (by omega) fun gz hAz => ?_
        subst hAz
        obtain ⟨c, hc⟩ : ∃ c, decide ((q.a, q.b) = (wa, wb)) = c := ⟨_, rfl⟩
        cases c with
        | true =>
          have hab : q.a = wa ∧ q.b = wb := by simpa using hc
          rw [if_pos hab] at hga
          have hset := flat_setc encPz_len (O ++ [q]) O.length 2 (by simp) (by decide) (.int .i64 x.2) ⟨⟨q.rect.c1, q.rect.r1, x.2, q.rect.r2⟩, q.a, q.b⟩ (by simp only [List.getElem_concat_length]; rfl)
          rw [List.set_append_right _ _ (Nat.le_refl _), Nat.sub_self, List.set_cons_zero] at hset
          have hOl3 : ((O ++ [q]).flatMap encPz).length = (O.length + 1) * 6 := by rw [flat_length' encPz_len, hOn]
          rw [hOn]
          repeat' (first | ((with_reducible apply w_draw (id := 17)); kernel_rfl; kernel_rfl) | ((with_reducible apply wq_v (d := 79)); exact rfl; (with_reducible apply v_predN (a := O.length + 1)); exact rfl; exact rfl; omega; (simp only [maxLen]; omega)) | ((with_reducible apply wq_v (d := 80)); exact rfl; (with_reducible apply v_indexAddr (j := O.length)); exact rfl; exact rfl; omega) | ((with_reducible apply wq_v (d := 82)); exact rfl; (with_reducible apply v_loads_own (ys := encII (q.a, q.b))); exact rfl; exact pK; exact hq2; exact rfl) | ((with_reducible apply wq_v (d := 85)); exact rfl; (with_reducible apply v_eqlII (a := (q.a, q.b)) (b := (wa, wb)) hc); exact rfl; exact rfl) | ((with_reducible apply wl_v (d := 89)); exact rfl; (with_reducible apply v_predN (a := O.length + 1)); exact rfl; exact rfl; omega; (simp only [maxLen]; omega)) | ((with_reducible apply wl_v (d := 93)); exact rfl; (with_reducible apply v_indexAddr (j := O.length)); exact rfl; exact rfl; omega) | ((with_reducible apply wl_store_own (v := .int .i64 x.2) (off := 0 + O.length * 6 + 2)); exact rfl; exact rfl; exact pK; exact rfl; (rw [hOl3]; omega); rw [Nat.zero_add, hset]) | refine sT ?_ | refine sS ?_ | refine sQ ?_ | refine sT2 ?_ | refine sQ2 ?_ | refine sN ?_ | refine sNQ ?_ | refine sD ?_ | refine sM fun _ => ?_ | (refine sC ?_ ?_ <;> intro hb <;> try omega) | (refine sCQ ?_ ?_ <;> intro hb <;> try omega) | exact cT | fail)
          all_goals first
            | (exfalso; omega)
            | (refine ⟨(k + 1, some gz, cz), hkl, by dsimp only; omega, ?_, by exact sB, ?_⟩
               · dsimp only; rw [hga, List.length_append]; exact sB
               · dsimp only; rw [hga, List.length_append]; exact mS)
            | trace_state
        | false =>
          have hab : ¬ (q.a = wa ∧ q.b = wb) := by simpa using hc
          rw [if_neg hab] at hga
          rw [hOn]
          repeat' (first | ((with_reducible apply w_draw (id := 17)); kernel_rfl; kernel_rfl) | ((with_reducible apply wq_v (d := 79)); exact rfl; (with_reducible apply v_predN (a := O.length + 1)); exact rfl; exact rfl; omega; (simp only [maxLen]; omega)) | ((with_reducible apply wq_v (d := 80)); exact rfl; (with_reducible apply v_indexAddr (j := O.length)); exact rfl; exact rfl; omega) | ((with_reducible apply wq_v (d := 82)); exact rfl; (with_reducible apply v_loads_own (ys := encII (q.a, q.b))); exact rfl; exact pK; exact hq2; exact rfl) | ((with_reducible apply wq_v (d := 85)); exact rfl; (with_reducible apply v_eqlII (a := (q.a, q.b)) (b := (wa, wb)) hc); exact rfl; exact rfl) | ((with_reducible apply wl_append (d := 99) (A := some gz) (m := 1)); (iterate 3 exact rfl); exact pK; (intro w hm; exact hm.cells_own pK); exact rfl; (simp [Value.oneCell', sl, encPz]); omega; (simp only [maxLen]; omega); (intro A' cap' hA')) | refine sT ?_ | refine sS ?_ | refine sQ ?_ | refine sT2 ?_ | refine sQ2 ?_ | refine sN ?_ | refine sNQ ?_ | refine sD ?_ | refine sM fun _ => ?_ | (refine sC ?_ ?_ <;> intro hb <;> try omega) | (refine sCQ ?_ ?_ <;> intro hb <;> try omega) | exact cT | fail)
          all_goals first
            | (exfalso; omega)
            | (refine ⟨(k + 1, A', cap'), hkl, by dsimp only; omega, ?_, by exact sB, ?_⟩
               · dsimp only; rw [hga, List.length_append, hOn]; exact sB
               · dsimp only; rw [hga, List.length_append, hOn, List.flatMap_append (xs := O ++ [q])]; exact mS)
            | trace_state
    · have e : k = xB.length := by omega
      subst e
      rw [List.take_length, ← hsn]
      repeat' (first | refine sT ?_ | refine sS ?_ | refine sT2 ?_ | refine sN ?_ | refine sM fun _ => ?_ | (refine sC ?_ ?_ <;> intro hb <;> try omega) | exact cT | fail)
      all_goals first
        | (exfalso; omega)
        | (refine ⟨(j + 1, Az, cz), hjl, by dsimp only; omega, by exact sB, by exact sB, by exact mS⟩; done)
        | trace_state
  · have e : j = yB.length := by omega
    subst e
    rw [List.take_length, ← hpf]
    have hS := fun (w' : World) (H : List Blk) (hm : Mem w w' H) (lv : Value) (h : Reads w' lv _ _) => sortStable_at PZ hZ lv w' h
    repeat' (first | ((with_reducible apply wl_callp (d := 103)); exact rfl; exact rfl; (intro w' hm; exact hS w' _ hm _ (Reads.of_own (A := Ao) hm pK))) | refine sT ?_ | refine sS ?_ | refine sT2 ?_ | refine sN ?_ | refine sM fun _ => ?_ | (refine sC ?_ ?_ <;> intro hb <;> try omega) | exact cT | fail)
    all_goals first
      | (exfalso; omega)
      | (exact ret1 eIO rfl rfl mS ⟨Ao, co, rfl, rfl⟩)
      | trace_state
end Go.SL
namespace Go.SL
open Go Go.RowKit
section
variable {P:Program} {n:Fr} {w0:World} {Q:Post} {s:Slots} {H S:List Blk} {l:List Oper} {L:Array Bool} {f:Nat} {ty:TypeId} {p:String} {af:Array Edge} {es:List Nat} {gu:Option (Nat × Bool)}
theorem we_three {i j k:Nat} {op op' op2:Op} {dst dst' dst2:Option Tmp} {ty' ty2:TypeId} {p' p2:String} {af' af2:Array Edge} {gu' gu2:Option (Nat × Bool)} (hi:l[i]? =some ⟨dst,op,ty,p,af,gu⟩) (hj:l[j]? =some ⟨dst',op',ty',p',af',gu'⟩) (hl:l[k]? =some ⟨dst2,op2,ty2,p2,af2,gu2⟩)
  (hg:gok l s gu=some true) (hg' :gok l s gu' =some true) (hg2:gok l s gu2=some true)
  (hk:es.contains i=true) (hk' :es.contains j=true) (hk2:es.contains k=true) (hr:Region.ready .any l.toArray L= [i,j,k])
  (h:WL P n w0 #[] [⟨dst,op,ty,p,af,none⟩] (ceP S (WE P n w0 l S es Q f (L.setIfInBounds i true))) s H)
  (h' :WL P n w0 #[] [⟨dst',op',ty',p',af',none⟩] (ceP S (WE P n w0 l S es Q f (L.setIfInBounds j true))) s H)
  (h2:WL P n w0 #[] [⟨dst2,op2,ty2,p2,af2,none⟩] (ceP S (WE P n w0 l S es Q f (L.setIfInBounds k true))) s H):WE P n w0 l S es Q (f+1) L s H:=by
 intro a w hs hm hS hcl
 refine ⟨hS,fun h0=>(by rw [hr] at h0;cases h0),fun x hx=> ?_⟩
 rw [hr] at hx
 rcases List.mem_cons.1 hx with e|hx
 ·
  subst e
  exact ⟨_,by simpa using hi,we_step hi hg hk (by rw [hr];simp) h a w hs hm hcl⟩
 ·
  rcases List.mem_cons.1 hx with e|hx
  ·
   subst e
   exact ⟨_,by simpa using hj,we_step hj hg' hk' (by rw [hr];simp) h' a w hs hm hcl⟩
  ·
   have e:x=k:=by simpa using hx
   subst e
   exact ⟨_,by simpa using hl,we_step hl hg2 hk2 (by rw [hr];simp) h2 a w hs hm hcl⟩
end
end Go.SL
namespace Go.SL
open Go Go.Proofs
attribute [local irreducible] W WL WQ WG WA WX WLI WR WT WC WE VOp RW thn blk cutP scp retP retPP endB FnAt FnIn FnP ceP
--
def checkZ (r:Rct) (L:List Rl):Int:=if rectOk r=false then 3 else (aclE 64 L).2
theorem checkZ_at (r:Rct) (L:List Rl) (lv:Value) (w:World) (hl:Reads w lv L.length (L.flatMap encRl)):Pure Tryz.prog 216 [.agg (encR r).toArray,lv] w (.int .i64 (checkZ r L)):=by
 refine fn_at Tryz.func216 rfl Tryz.ntmps216 rfl ?_
 have h1:=fun w=>rect_at r w
 have h2:=fun (w' :World) (H:List Blk) (hm:Mem w w' H)=>aclCheck_at 64 L lv w' (hl.of_w0 hm)
 unfold checkZ
 repeat' (first|((with_reducible apply wl_callp);exact rfl;exact rfl;(intro w hm;exact h1 w))|((with_reducible apply wl_callp (f:=73));exact rfl;exact rfl;(intro w' hm;exact h2 w' _ hm))|refine sT ?_|refine sM fun _=> ?_|(refine sC ?_ ?_<;>intro hb<;>try omega)|fail)
 all_goals first
  |(exfalso;omega)
  |((refine rT1 ?_);rw [if_pos (rectE_bad hb)];done)
  |((refine rT1 ?_);rw [if_neg (rectE_good hb)];done)
  |trace_state
def ovE (r:Rct) (L:List Rl):(BitVec 64 × BitVec 64 × BitVec 64) × Int:=
 if checkZ r L≠0 then ((0#64,0#64,0#64),checkZ r L) else ((ovBy (fun x=>x.read) r L,ovBy (fun x=>x.write) r L,ovBy (fun x=>x.own) r L),0)
theorem checkZ_ok {r:Rct} {L:List Rl} (h: ¬ checkZ r L≠0):rectOk r=true∧L≠ []∧L.length≤64:=by
 unfold checkZ at h
 split at h
 ·
  exact absurd (by decide) h
 ·
  rename_i hr
  refine ⟨by simpa using hr,?_⟩
  unfold aclE at h
  split at h
  ·
   exact absurd (by decide) h
  ·
   rename_i h1
   have hn:L≠ []:=fun e=>h1 (.inr (.inr (.inr e)))
   split at h
   ·
    exact absurd (by decide) h
   ·
    exact ⟨hn,by omega⟩
def byN (f:Rl→BitVec 64) (L:List Rl) (p:Pz):BitVec 64:=(L[p.a]?.map f).getD 0#64
theorem ovBy_eq (f:Rl→BitVec 64) (r:Rct) (L:List Rl):ovBy f r L=andS ((partsF r L []).map (byN f L)):=rfl
set_option maxHeartbeats 16000000 in
theorem Over_at (r:Rct) (L:List Rl) (lv:Value) (w:World) (hl:Reads w lv L.length (L.flatMap encRl)):
  Pure Tryz.prog 160 [.agg (encR r).toArray,lv] w (.tuple #[.agg #[vS (ovE r L).1.1,vS (ovE r L).1.2.1,vS (ovE r L).1.2.2],.int .i64 (ovE r L).2]):=by
 refine fn_at Tryz.func160 rfl Tryz.ntmps160 rfl ?_
 have hck:=fun (w' :World) (H:List Blk) (hm:Mem w w' H)=>checkZ_at r L lv w' (hl.of_w0 hm)
 unfold ovE
 by_cases hc:checkZ r L≠0
 ·
  rw [if_pos hc]
  repeat' (first|((with_reducible apply wl_callp (f:=216));exact rfl;exact rfl;(intro w' hm;exact hck w' _ hm))|refine sT ?_|refine sT2 ?_|refine sM fun _=> ?_|(refine sC ?_ ?_<;>intro hb<;>try omega)|fail)
  all_goals first
   |(exfalso;omega)
   |((refine eRCT ?_);rfl)
   |trace_state
 rw [if_neg hc]
 obtain ⟨hr,hne,hlen⟩:=checkZ_ok hc
 have hP:=fun (w' :World) (H:List Blk) (hm:Mem w w' H)=>parts_at r hr L [] lv (.slice none 0 0) w' (hl.of_w0 hm) (reads_nil w') (by omega) (by simp)
 have hpa: ∀ p∈partsF r L [],p.a<L.length:=fun p hp=>by
  have h1:p.a∈(partsF r L []).map (·.a):=List.mem_map.2 ⟨p,hp,rfl⟩
  obtain ⟨y,x,_,h2⟩:=parts_a.1 h1
  rw [h2]
  exact whichF_lt hne
 have hpl:(partsF r L []).length≤1000000:=by
  have h1:=rowsTo_len (A:=L) (B:= []) (xs:=bandsF r.c1 r.c2 (colsOf r L++colsOf r [])) (bandsF r.r1 r.r2 (rowsOf r L++rowsOf r []))
  have h2:=bandsF_len r.c1 r.c2 (colsOf r L++colsOf r [])
  have h3:=bandsF_len r.r1 r.r2 (rowsOf r L++rowsOf r [])
  have h4:=colsOf_len r L
  have h5:=colsOf_len r []
  have h6:=rowsOf_len r L
  have h7:=rowsOf_len r []
  rw [List.length_append] at h2 h3
  rw [List.length_nil] at h5 h7
  exact Nat.le_trans h1 (Nat.le_trans (Nat.mul_le_mul (show _≤801 by omega) (show _≤801 by omega)) (by decide))
 rw [ovBy_eq,ovBy_eq,ovBy_eq]
 have hc0:checkZ r L=0:=by omega
 rw [hc0] at hck
 generalize partsF r L []=PZ at hP hpa hpl ⊢
 refine w_nilrow 34 1 ?_
 refine w_nilrow 34 1 ?_
 refine w_nilrow 34 1 ?_
 repeat' (first|((with_reducible apply wl_callp (f:=216));exact rfl;exact rfl;(intro w' hm;exact hck w' _ hm))|((with_reducible apply wl_call (f:=217));exact rfl;exact rfl;(intro w' hm;exact hP w' _ hm);rintro _ _ ⟨Ap,cp,rfl,rfl⟩)|refine sT ?_|refine sS ?_|refine sT2 ?_|refine sM fun _=> ?_|(refine sC ?_ ?_<;>intro hb<;>try omega)|fail)
 all_goals first|(exfalso;omega)|skip
 rename_i g2 g4
 refine w_loopK [1,4,22,23] rfl (fun y:Nat × (Option Nat × Nat) × (Option Nat × Nat) × (Option Nat × Nat)=> [(7,sl y.2.1.1 y.1 y.2.1.2),(8,sl y.2.2.1.1 y.1 y.2.2.1.2),(9,sl y.2.2.2.1 y.1 y.2.2.2.2),(24,.int .i64 (y.1:Int))]) (fun y=> .own y.2.1.1 34 1 y.1 y.2.1.2 (((PZ.take y.1).map (byN (fun x=>x.read) L)).map vS):: .own y.2.2.1.1 34 1 y.1 y.2.2.1.2 (((PZ.take y.1).map (byN (fun x=>x.write) L)).map vS):: .own y.2.2.2.1 34 1 y.1 y.2.2.2.2 (((PZ.take y.1).map (byN (fun x=>x.own) L)).map vS):: .own Ap 319 6 PZ.length cp (PZ.flatMap encPz):: .box g4 36 [vS 0#64,vS 0#64,vS 0#64]:: []) (fun y=>y.1≤PZ.length) (fun y=>PZ.length - y.1) (0,(none,0),(none,0),(none,0)) (Nat.zero_le _) sB mS ?_
 rintro ⟨i,⟨A7,c7⟩,⟨A8,c8⟩,⟨A9,c9⟩⟩ hi
 dsimp only at hi ⊢
 by_cases hlt:i<PZ.length
 ·
  refine w_some (A:=Ap) pK (by omega) fun gp hAp=> ?_
  subst hAp
  have hrd:((PZ.flatMap encPz).drop (0+i*6)).take 6=encPz PZ[i]:=by rw [Nat.zero_add];exact flat_elem encPz_len PZ i hlt
  have hpi:=hpa _ (List.getElem_mem hlt)
  have hsr: ∀ f:Rl→BitVec 64,((PZ.take (i+1)).map (byN f L)).map vS=((PZ.take i).map (byN f L)).map vS++ [vS (f (L[PZ[i].a]'hpi))]:=fun f=>by
   rw [List.take_succ_eq_append_getElem hlt,List.map_append,List.map_append]
   simp [byN,hpi]
  generalize PZ[i]=p at hrd hpi hsr
  have hl' :=hl
  obtain ⟨Al,cl,hlv,hl1,hl2,hl3⟩:=hl'
  subst hlv
  obtain ⟨gl,ol,rfl,hrl⟩:=hl3 (by omega)
  obtain ⟨_,_,_,_,hrr⟩:=Rl.ro (hrl.elem encRl_len p.a hpi)
  generalize L[p.a]'hpi=x at hrr hsr
  repeat' (first|((with_reducible apply wl_v (d:=26));exact rfl;(with_reducible apply v_indexAddr (j:=i));exact rfl;exact rfl;exact hlt)|((with_reducible apply wl_v (d:=27));exact rfl;(with_reducible apply v_loads_own (ys:=encPz p));exact rfl;exact pK;exact hrd;exact rfl)|((with_reducible apply wl_v (d:=32));exact rfl;(with_reducible apply v_indexAddr (j:=p.a));exact rfl;exact rfl;exact hpi)|refine sT ?_|refine sS ?_|refine sT2 ?_|refine sN ?_|refine sO ?_|refine sM fun _=> ?_|(refine sC ?_ ?_<;>intro hb<;>try omega)|fail)
  all_goals first|(exfalso;omega)|skip
  rename_i g11 g12
  refine w_drawE (id:=9) [3,4,8,9,13,14] [.box g12 36 [vS x.read,vS x.write,vS x.own]] 18 rfl rfl mS ?_
  repeat' (first|((with_reducible apply we_v (i:=0));(iterate 4 exact rfl);decide+kernel;decide+kernel;decide+kernel;(exact vC))|((with_reducible apply we_v (i:=1));(iterate 4 exact rfl);decide+kernel;decide+kernel;decide+kernel;(exact vC))|((with_reducible apply we_v (i:=2));(iterate 4 exact rfl);decide+kernel;decide+kernel;decide+kernel;(exact vC))|((with_reducible apply we_v (i:=5));(iterate 4 exact rfl);decide+kernel;decide+kernel;decide+kernel;(exact vC))|((with_reducible apply we_v (i:=6));(iterate 4 exact rfl);decide+kernel;decide+kernel;decide+kernel;(exact vC))|((with_reducible apply we_v (i:=7));(iterate 4 exact rfl);decide+kernel;decide+kernel;decide+kernel;(exact vC))|((with_reducible apply we_v (i:=10));(iterate 4 exact rfl);decide+kernel;decide+kernel;decide+kernel;(exact vC))|((with_reducible apply we_v (i:=11));(iterate 4 exact rfl);decide+kernel;decide+kernel;decide+kernel;(exact vC))|((with_reducible apply we_v (i:=12));(iterate 4 exact rfl);decide+kernel;decide+kernel;decide+kernel;(exact vC))|((with_reducible apply we_v (i:=15));(iterate 4 exact rfl);decide+kernel;decide+kernel;decide+kernel;((with_reducible apply v_assign);exact rfl))|((with_reducible apply we_v (i:=16));(iterate 4 exact rfl);decide+kernel;decide+kernel;decide+kernel;((with_reducible apply v_assign);exact rfl))|((with_reducible apply we_v (i:=17));(iterate 4 exact rfl);decide+kernel;decide+kernel;decide+kernel;((with_reducible apply v_assign);exact rfl))|((with_reducible apply we_three (i:=3) (j:=8) (k:=13));(iterate 9 exact rfl);decide+kernel)|((with_reducible apply we_three (i:=4) (j:=8) (k:=13));(iterate 9 exact rfl);decide+kernel)|((with_reducible apply we_two (i:=3) (j:=13));(iterate 6 exact rfl);decide+kernel)|((with_reducible apply we_two (i:=3) (j:=8));(iterate 6 exact rfl);decide+kernel)|((with_reducible apply we_two (i:=8) (j:=13));(iterate 6 exact rfl);decide+kernel)|((with_reducible apply we_two (i:=4) (j:=13));(iterate 6 exact rfl);decide+kernel)|((with_reducible apply we_two (i:=4) (j:=8));(iterate 6 exact rfl);decide+kernel)|((with_reducible apply we_two (i:=9) (j:=13));(iterate 6 exact rfl);decide+kernel)|((with_reducible apply we_one (i:=3));(iterate 3 exact rfl);decide+kernel)|((with_reducible apply we_one (i:=4));(iterate 3 exact rfl);decide+kernel)|((with_reducible apply we_one (i:=8));(iterate 3 exact rfl);decide+kernel)|((with_reducible apply we_one (i:=9));(iterate 3 exact rfl);decide+kernel)|((with_reducible apply we_one (i:=13));(iterate 3 exact rfl);decide+kernel)|((with_reducible apply we_one (i:=14));(iterate 3 exact rfl);decide+kernel)|((with_reducible apply wl_append (d:=39) (A:=A7) (m:=1));(iterate 3 exact rfl);exact pK;(intro w hm;exact hm.cells_own pK);exact rfl;(simp [Value.oneCell',sl]);omega;(simp only [maxLen];omega);(intro B7 b7 hB7))|((with_reducible apply wl_append (d:=44) (A:=A8) (m:=1));(iterate 3 exact rfl);exact pK;(intro w hm;exact hm.cells_own pK);exact rfl;(simp [Value.oneCell',sl]);omega;(simp only [maxLen];omega);(intro B8 b8 hB8))|((with_reducible apply wl_append (d:=49) (A:=A9) (m:=1));(iterate 3 exact rfl);exact pK;(intro w hm;exact hm.cells_own pK);exact rfl;(simp [Value.oneCell',sl]);omega;(simp only [maxLen];omega);(intro B9 b9 hB9))|((with_reducible apply we_done);decide+kernel)|((with_reducible apply ce_n);(focus (exact mS;done)))|refine sT ?_|refine sS ?_|refine sT2 ?_|refine sN ?_|refine sM fun _=> ?_|(refine sC ?_ ?_<;>intro hb<;>try omega)|fail)
  all_goals first
   |(exfalso;omega)
   |(refine ⟨(i+1,(B7,b7),(B8,b8),(B9,b9)),hlt,by dsimp only;omega,by exact sB,by exact sB,?_⟩;dsimp only;rw [hsr,hsr,hsr];exact mS)
   |trace_state
 ·
  have e:i=PZ.length:=by omega
  subst e
  rw [List.take_length]
  have hM:=fun (f:Rl→BitVec 64) (w' :World) (lv:Value) (h:Reads w' lv PZ.length ((PZ.map (byN f L)).map vS))=>Meet18_at (PZ.map (byN f L)) lv w' (by rw [List.length_map];exact h)
  repeat' (first|((with_reducible apply wl_callp (d:=52));exact rfl;exact rfl;(intro w' hm;exact hM (fun x=>x.read) w' _ (Reads.of_own (A:=A7) hm pK)))|((with_reducible apply wl_callp (d:=54));exact rfl;exact rfl;(intro w' hm;exact hM (fun x=>x.write) w' _ (Reads.of_own (A:=A8) hm pK)))|((with_reducible apply wl_callp (d:=56));exact rfl;exact rfl;(intro w' hm;exact hM (fun x=>x.own) w' _ (Reads.of_own (A:=A9) hm pK)))|refine sT ?_|refine sS ?_|refine sT2 ?_|refine sM fun _=> ?_|(refine sC ?_ ?_<;>intro hb<;>try omega)|fail)
  all_goals first
   |(exfalso;omega)
   |((refine eRCT ?_);rfl)
   |trace_state
end Go.SL
