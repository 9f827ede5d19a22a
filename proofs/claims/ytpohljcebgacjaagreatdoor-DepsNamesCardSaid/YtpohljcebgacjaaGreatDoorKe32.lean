/-
  Lemmas and walks, put together: Q14 Q15 Ex L1 G1.
-/
import Derived.Test.YtpohljcebgacjaaGreatDoorKe31
set_option linter.unusedSimpArgs false
set_option linter.unusedVariables false
set_option maxRecDepth 20000
namespace Go.SL
open Go Go.Proofs
attribute [local irreducible] W WL WQ WG WA WX WLI WR WT WC VOp RW thn blk cutP scp retP retPP endB FnAt FnIn FnP ceP
def usersQ (r : Rct) (L : List En) : List Rf := (L.filter fun e => touchesU e.uses r).map En.at_
theorem RGOk.users {R : List Blk} {L : List En} {G : Gr} (h : RGOk R L G) (r : Rct) : (if rectE r ≠ 0 then [] else usersQ r L) = usersG G r := by
 unfold usersG usersQ
 split
 ·
  rfl
 ·
  rw [← h.rel, List.filter_map, List.map_map]; rfl
theorem RGOk.keys {R : List Blk} {L : List En} {G : Gr} (h : RGOk R L G) : L.map En.at_ = keysG G := by
 rw [keysG, ← h.rel, List.map_map]; rfl
theorem usersQ_take {r : Rct} {L : List En} {i : Nat} (h : i < L.length) : usersQ r (L.take (i + 1)) = if touchesU L[i].uses r then usersQ r (L.take i) ++ [L[i].at_] else usersQ r (L.take i) := by
 unfold usersQ
 rw [List.take_succ_eq_append_getElem h, List.filter_append, List.map_append, List.filter_cons]
 split <;> simp
theorem usersQ_len (r : Rct) (L : List En) : (usersQ r L).length ≤ L.length := by
 unfold usersQ
 rw [List.length_map]
 exact List.length_filter_le _ _
set_option maxHeartbeats 2000000 in
theorem rUsers_in (g : Nat) (A : Option Nat) (cap : Nat) (L : List En) (r : Rct) (R : List Blk) (w0 : World) (hE : ∀ e ∈ L, EnOk R e) (hlen : L.length ≤ 1000) :
    FnIn Tryz.prog 35 [.pointer (some ⟨g, 0, none⟩), .agg (encR r).toArray] w0 (rgB g A cap L ++ R) fun v H => ∃ A' cap', v = sl A' (if rectE r ≠ 0 then [] else usersQ r L).length cap' ∧ H = .own A' 38 2 (if rectE r ≠ 0 then [] else usersQ r L).length cap' ((if rectE r ≠ 0 then [] else usersQ r L).flatMap encF) :: (rgB g A cap L ++ R) := by
  refine fn_in Tryz.func35 rfl Tryz.ntmps35 rfl ?_
  have hrc := fun w => refRect_at r w
  refine w_nilrow 38 2 ?_
  unfold rgB
  by_cases hre : rectE r ≠ 0
  · rw [if_pos hre]
    repeat' (first | refine sT ?_ | refine sS ?_ | refine sM fun _ => ?_ | (refine sC ?_ ?_ <;> intro hb <;> try omega) | fail)
    rename_i g3
    refine w_loopK [0, 3] rfl (fun _ : Unit => [(5, .slice none 0 0), (6, .int .i64 0)]) (fun _ => .box g3 24 (encR r) :: .own none 38 2 0 0 [] :: .box g 129 [sl A L.length cap] :: .own A 132 4 L.length cap (L.flatMap encQ) :: R) (fun _ => True) (fun _ => 0) () trivial sB (by simp only [List.append_eq, List.cons_append, List.nil_append]; exact mS) ?_
    rintro ⟨⟩ _
    repeat' (first | ((with_reducible apply wl_callp); exact rfl; exact rfl; (intro w hm; exact hrc w)) | refine sT ?_ | refine sS ?_ | refine sN ?_ | refine sM fun _ => ?_ | (refine sC ?_ ?_ <;> intro hb <;> try omega) | fail)
    all_goals first
      | (exfalso; omega)
      | exact ret1 eIO rfl rfl (H' := .own none 38 2 0 0 [] :: (rgB g A cap L ++ R)) (by unfold rgB; simp only [List.append_eq, List.cons_append, List.nil_append]; exact mS) ⟨none, 0, rfl, rfl⟩
  have hre0 : rectE r = 0 := Classical.not_not.1 hre
  rw [if_neg hre]
  rw [hre0] at hrc
  repeat' (first | refine sT ?_ | refine sS ?_ | refine sM fun _ => ?_ | (refine sC ?_ ?_ <;> intro hb <;> try omega) | fail)
  rename_i g3
  refine w_loopK [0, 3] rfl (fun y : Nat × Option Nat × Nat => [(5, sl y.2.1 (usersQ r (L.take y.1)).length y.2.2), (6, .int .i64 (y.1 : Int))]) (fun y => .own y.2.1 38 2 (usersQ r (L.take y.1)).length y.2.2 ((usersQ r (L.take y.1)).flatMap encF) :: .box g3 24 (encR r) :: .box g 129 [sl A L.length cap] :: .own A 132 4 L.length cap (L.flatMap encQ) :: R) (fun y => y.1 ≤ L.length) (fun y => L.length - y.1) (0, none, 0) (Nat.zero_le _) sB (by simp only [List.append_eq, List.cons_append, List.nil_append, usersQ, List.take_zero, List.filter_nil, List.map_nil, List.length_nil, List.flatMap_nil]; exact mS) ?_
  rintro ⟨i, A3, c3⟩ hi
  dsimp only at hi ⊢
  by_cases hlt : i < L.length
  · refine w_some (A := A) pK (by omega) fun gl hA => ?_
    subst hA
    have hul := usersQ_len r (L.take i)
    rw [List.length_take] at hul
    have hnx := usersQ_take (r := r) hlt
    have hoke := hE L[i] (List.getElem_mem hlt)
    have hc := encQ_cell hlt
    have ha := encQ_all hlt
    generalize L[i] = e at hc ha hnx hoke
    generalize hO : usersQ r (L.take i) = O at hnx hul
    have hT := fun (H' : List Blk) (hs : MSub R H') (w' : World) (hm : Mem w0 w' H') => rTouches_at e r w' (hoke.uses _ w' (hs.use hm)) (by have := hoke.ul; omega)
    cases ht : touchesU e.uses r with
    | true =>
      rw [ht, if_pos rfl] at hnx
      rw [ht] at hT
      repeat' (first | ((with_reducible apply wl_callp); exact rfl; exact rfl; (intro w hm; exact hrc w)) | ((with_reducible apply wq_v); exact rfl; (with_reducible apply v_indexAddr (j := i)); exact rfl; exact rfl; exact hlt) | ((with_reducible apply wl_v); exact rfl; (with_reducible apply v_indexAddr (j := i)); exact rfl; exact rfl; exact hlt) | ((with_reducible apply wq_v); exact rfl; (with_reducible apply v_loads_own (ys := encQ e)); exact rfl; exact pK; exact ha; exact rfl) | ((with_reducible apply wl_v); exact rfl; (with_reducible apply v_loads_own (ys := encF e.at_)); exact rfl; exact pK; exact hc; exact rfl) | ((with_reducible apply wq_callp (f := 83)); exact rfl; exact rfl; exact fun w' hm => hT _ mS w' hm) | ((with_reducible apply wl_append1); (iterate 3 exact rfl); exact pK; exact pK; exact rfl; (simp [encF, Value.oneCell']); omega; (simp only [maxLen]; omega); intro g8 c8) | refine sT ?_ | refine sS ?_ | refine sQ ?_ | refine sN ?_ | refine sNQ ?_ | refine sD ?_ | refine sM fun _ => ?_ | (refine sC ?_ ?_ <;> intro hb <;> try omega) | (refine sCQ ?_ ?_ <;> intro hb <;> try omega) | fail)
      all_goals first
        | (exfalso; omega)
        | (refine ⟨(i + 1, some g8, c8), hlt, (by dsimp only; omega), (by dsimp only; rw [hnx, List.length_append, List.length_singleton]; exact sB), sB, ?_⟩
           dsimp only
           rw [hnx]
           simp only [List.length_append, List.length_singleton, List.flatMap_append, List.flatMap_cons, List.flatMap_nil, List.append_nil, List.append_eq, List.cons_append, List.nil_append]
           exact mS)
    | false =>
      rw [ht, if_neg (by simp)] at hnx
      rw [ht] at hT
      repeat' (first | ((with_reducible apply wl_callp); exact rfl; exact rfl; (intro w hm; exact hrc w)) | ((with_reducible apply wq_v); exact rfl; (with_reducible apply v_indexAddr (j := i)); exact rfl; exact rfl; exact hlt) | ((with_reducible apply wq_v); exact rfl; (with_reducible apply v_loads_own (ys := encQ e)); exact rfl; exact pK; exact ha; exact rfl) | ((with_reducible apply wq_callp (f := 83)); exact rfl; exact rfl; exact fun w' hm => hT _ mS w' hm) | refine sT ?_ | refine sS ?_ | refine sQ ?_ | refine sN ?_ | refine sNQ ?_ | refine sD ?_ | refine sM fun _ => ?_ | (refine sC ?_ ?_ <;> intro hb <;> try omega) | (refine sCQ ?_ ?_ <;> intro hb <;> try omega) | fail)
      all_goals first
        | (exfalso; omega)
        | (refine ⟨(i + 1, A3, c3), hlt, (by dsimp only; omega), (by dsimp only; rw [hnx]; exact sB), sB, ?_⟩
           dsimp only
           rw [hnx]
           exact mS)
  · have e2 : i = L.length := by omega
    subst e2
    rw [List.take_length]
    repeat' (first | ((with_reducible apply wl_callp); exact rfl; exact rfl; (intro w hm; exact hrc w)) | refine sT ?_ | refine sS ?_ | refine sN ?_ | refine sM fun _ => ?_ | (refine sC ?_ ?_ <;> intro hb <;> try omega) | fail)
    all_goals first
      | (exfalso; omega)
      | exact ret1 eIO rfl rfl (H' := .own A3 38 2 (usersQ r L).length c3 ((usersQ r L).flatMap encF) :: (rgB g A cap L ++ R)) (by unfold rgB; simp only [List.append_eq, List.cons_append, List.nil_append]; exact mS) ⟨A3, c3, rfl, rfl⟩
set_option maxHeartbeats 2000000 in
theorem rFormulas_in (g : Nat) (A : Option Nat) (cap : Nat) (L : List En) (R : List Blk) (w0 : World) (hlen : L.length ≤ 1000) :
    FnIn Tryz.prog 84 [.pointer (some ⟨g, 0, none⟩)] w0 (rgB g A cap L ++ R) fun v H => ∃ A' cap', v = sl A' (L.map En.at_).length cap' ∧ H = .own A' 38 2 (L.map En.at_).length cap' ((L.map En.at_).flatMap encF) :: (rgB g A cap L ++ R) := by
  refine fn_in Tryz.func84 rfl Tryz.ntmps84 rfl ?_
  refine w_nilrow 38 2 ?_
  unfold rgB
  rw [List.length_map]
  repeat' (first | refine sT ?_ | refine sS ?_ | refine sM fun _ => ?_ | (refine sC ?_ ?_ <;> intro hb <;> try omega) | fail)
  refine w_loopK [0] rfl (fun y : Nat × Option Nat × Nat => [(3, sl y.2.1 y.1 y.2.2), (4, .int .i64 (y.1 : Int))]) (fun y => .own y.2.1 38 2 y.1 y.2.2 (((L.take y.1).map En.at_).flatMap encF) :: .box g 129 [sl A L.length cap] :: .own A 132 4 L.length cap (L.flatMap encQ) :: R) (fun y => y.1 ≤ L.length) (fun y => L.length - y.1) (0, none, 0) (Nat.zero_le _) sB (by simp only [List.append_eq, List.cons_append, List.nil_append, List.take_zero, List.map_nil, List.flatMap_nil]; exact mS) ?_
  rintro ⟨i, A3, c3⟩ hi
  dsimp only at hi ⊢
  by_cases hlt : i < L.length
  · refine w_some (A := A) pK (by omega) fun gl hA => ?_
    subst hA
    have hc := encQ_cell hlt
    have hnx : (L.take (i + 1)).map En.at_ = (L.take i).map En.at_ ++ [L[i].at_] := by rw [List.take_succ_eq_append_getElem hlt, List.map_append]; rfl
    generalize L[i] = e at hc hnx
    repeat' (first | ((with_reducible apply wl_v); exact rfl; (with_reducible apply v_indexAddr (j := i)); exact rfl; exact rfl; exact hlt) | ((with_reducible apply wl_v); exact rfl; (with_reducible apply v_loads_own (ys := encF e.at_)); exact rfl; exact pK; exact hc; exact rfl) | ((with_reducible apply wl_append1); (iterate 3 exact rfl); exact pK; exact pK; exact rfl; (simp [encF, Value.oneCell']); omega; (simp only [maxLen]; omega); intro g8 c8) | refine sT ?_ | refine sS ?_ | refine sN ?_ | refine sM fun _ => ?_ | (refine sC ?_ ?_ <;> intro hb <;> try omega) | fail)
    all_goals first
      | (exfalso; omega)
      | (refine ⟨(i + 1, some g8, c8), hlt, (by dsimp only; omega), sB, sB, ?_⟩
         dsimp only
         rw [hnx]
         simp only [List.flatMap_append, List.flatMap_cons, List.flatMap_nil, List.append_nil, List.append_eq, List.cons_append, List.nil_append]
         exact mS)
  · have e2 : i = L.length := by omega
    subst e2
    rw [List.take_length]
    repeat' (first | refine sT ?_ | refine sS ?_ | refine sN ?_ | refine sM fun _ => ?_ | (refine sC ?_ ?_ <;> intro hb <;> try omega) | fail)
    all_goals first
      | (exfalso; omega)
      | exact ret1 eIO rfl rfl (H' := .own A3 38 2 L.length c3 ((L.map En.at_).flatMap encF) :: (rgB g A cap L ++ R)) (by unfold rgB; simp only [List.append_eq, List.cons_append, List.nil_append]; exact mS) ⟨A3, c3, rfl, rfl⟩
set_option maxHeartbeats 2000000 in
theorem rCopy_in (g : Nat) (A : Option Nat) (cap : Nat) (L : List En) (R : List Blk) (w0 : World) (hlen : L.length ≤ 1000) :
  FnIn Tryz.prog 43 [.pointer (some ⟨g, 0, none⟩)] w0 (rgB g A cap L ++ R) fun v H => ∃ g' A' cap', v = .pointer (some ⟨g', 0, none⟩) ∧ H = rgB g' A' cap' L ++ (rgB g A cap L ++ R) := by
 refine fn_in Tryz.func43 rfl Tryz.ntmps43 rfl ?_
 have hfl := flat_length' encQ_len L
 unfold rgB
 repeat' (first | ((with_reducible apply wl_buildSlice0); exact rfl; intro gb) | ((with_reducible apply wl_appendR (n' := 0) (c := 0) (A := some gb) (m := L.length)); (iterate 3 exact rfl); exact pK; (intro w hm; exact Reads.of_own hm pK); exact hfl; exact encQ_one L; omega; (simp only [maxLen]; omega); (intro A' cap' hA; rw [Nat.zero_add, List.nil_append])) | refine sT ?_ | refine sS ?_ | refine sM fun _ => ?_ | (refine sC ?_ ?_ <;> intro hb <;> try omega) | fail)
 rename_i g9
 exact ret1 eIO rfl rfl (H' := rgB g9 A' cap' L ++ (rgB g A cap L ++ R)) (by unfold rgB; simp only [List.append_eq, List.cons_append, List.nil_append]; exact mS) ⟨g9, A', cap', rfl, rfl⟩
def qE (a b : En) : Bool := touchesU a.uses (oneA b.at_.col b.at_.row)
def rowQ (a : En) (F : List En) : List (Rf × Rf) := (F.filter (qE a)).map fun b => (a.at_, b.at_)
def edgesQ (F : List En) (L : List En) : List (Rf × Rf) := L.flatMap fun a => rowQ a F
theorem rowQ_take {a : En} {F : List En} {k : Nat} (h : k < F.length) : rowQ a (F.take (k + 1)) = if qE a F[k] then rowQ a (F.take k) ++ [(a.at_, F[k].at_)] else rowQ a (F.take k) := by
 unfold rowQ
 rw [List.take_succ_eq_append_getElem h, List.filter_append, List.map_append, List.filter_cons]
 split <;> simp
theorem edgesQ_take {F L : List En} {i : Nat} (h : i < L.length) : edgesQ F (L.take (i + 1)) = edgesQ F (L.take i) ++ rowQ L[i] F := by
 unfold edgesQ
 rw [List.take_succ_eq_append_getElem h, List.flatMap_append]
 simp
theorem rowQ_len (a : En) (F : List En) : (rowQ a F).length ≤ F.length := by
 unfold rowQ
 rw [List.length_map]
 exact List.length_filter_le _ _
theorem edgesQ_len (F : List En) : ∀ L : List En, (edgesQ F L).length ≤ L.length * F.length
 | [] => by simp [edgesQ]
 | a :: r => by
  have h1 := edgesQ_len F r
  have h2 := rowQ_len a F
  simp only [edgesQ, List.flatMap_cons, List.length_append, List.length_cons] at h1 ⊢
  rw [Nat.add_mul, Nat.one_mul]
  omega
theorem RGOk.edges {R : List Blk} {L : List En} {G : Gr} (h : RGOk R L G) (hG : GrOk G) : edgesQ L L = edgesG G := by
 have hq : ∀ e ∈ L, ∀ f ∈ L, qE e f = hasU e.uses f.at_ := fun e he f hf => by
  have h1 : e.abs ∈ G := by rw [← h.rel]; exact List.mem_map.2 ⟨e, he, rfl⟩
  have h2 : f.abs ∈ G := by rw [← h.rel]; exact List.mem_map.2 ⟨f, hf, rfl⟩
  exact (hasU_touches (hG.ent _ h1).rect (hG.ent _ h2).at_).symm
 unfold edgesQ edgesG
 rw [← h.rel, List.flatMap_map]
 have : ∀ M : List En, (∀ e ∈ M, e ∈ L) → M.flatMap (fun a => rowQ a L) = M.flatMap fun a => ((L.map En.abs).filter fun f => hasU a.abs.2.2 f.1).map fun f => (a.abs.1, f.1) := by
  intro M
  induction M with
  | nil => intro _; rfl
  | cons e r ih =>
   intro hM
   rw [List.flatMap_cons, List.flatMap_cons, ih fun f hf => hM f (List.mem_cons_of_mem _ hf)]
   congr 1
   unfold rowQ
   rw [List.filter_map, List.map_map, List.filter_congr (hq e (hM e List.mem_cons_self))]
   rfl
 exact this L fun _ h => h
set_option maxHeartbeats 4000000 in
theorem rEdges_in (g : Nat) (A : Option Nat) (cap : Nat) (L : List En) (R : List Blk) (w0 : World) (hE : ∀ e ∈ L, EnOk R e) (hlen : L.length ≤ 900) :
    FnIn Tryz.prog 85 [.pointer (some ⟨g, 0, none⟩)] w0 (rgB g A cap L ++ R) fun v H => ∃ A' cap', v = sl A' (edgesQ L L).length cap' ∧ H = .own A' 70 4 (edgesQ L L).length cap' ((edgesQ L L).flatMap encFF) :: (rgB g A cap L ++ R) := by
  refine fn_in Tryz.func85 rfl Tryz.ntmps85 rfl ?_
  refine w_nilrow 70 4 ?_
  unfold rgB
  repeat' (first | refine sT ?_ | refine sS ?_ | refine sM fun _ => ?_ | (refine sC ?_ ?_ <;> intro hb <;> try omega) | fail)
  refine w_loopK [0] rfl (fun y : Nat × Option Nat × Nat => [(3, sl y.2.1 (edgesQ L (L.take y.1)).length y.2.2), (4, .int .i64 (y.1 : Int))]) (fun y => .own y.2.1 70 4 (edgesQ L (L.take y.1)).length y.2.2 ((edgesQ L (L.take y.1)).flatMap encFF) :: .box g 129 [sl A L.length cap] :: .own A 132 4 L.length cap (L.flatMap encQ) :: R) (fun y => y.1 ≤ L.length) (fun y => L.length - y.1) (0, none, 0) (Nat.zero_le _) sB (by simp only [List.append_eq, List.cons_append, List.nil_append, edgesQ, List.take_zero, List.flatMap_nil, List.length_nil]; exact mS) ?_
  rintro ⟨i, A3, c3⟩ hi
  dsimp only at hi ⊢
  by_cases hlt : i < L.length
  · refine w_some (A := A) pK (by omega) fun gl hA => ?_
    subst hA
    have hel := edgesQ_len L (L.take i)
    have hml : (L.take i).length * L.length ≤ 900 * 900 := Nat.mul_le_mul (by rw [List.length_take]; omega) hlen
    have hnx := edgesQ_take (F := L) hlt
    generalize hO : edgesQ L (L.take i) = O at hel hnx
    have hOl : O.length ≤ 810000 := Nat.le_trans hel hml
    have hoke := hE L[i] (List.getElem_mem hlt)
    have hc := encQ_cell hlt
    have ha := encQ_all hlt
    generalize L[i] = e at hc ha hnx hoke
    have hT := fun (f : En) (H' : List Blk) (hs : MSub R H') (w' : World) (hm : Mem w0 w' H') => rTouches_at e (oneA f.at_.col f.at_.row) w' (hoke.uses _ w' (hs.use hm)) (by have := hoke.ul; omega)
    repeat' (first | refine sT ?_ | refine sS ?_ | refine sN ?_ | refine sM fun _ => ?_ | (refine sC ?_ ?_ <;> intro hb <;> try omega) | fail)
    all_goals first | (exfalso; omega) | skip
    refine w_loopK [0, 4] rfl (fun y : Nat × Option Nat × Nat => [(3, sl y.2.1 (O ++ rowQ e (L.take y.1)).length y.2.2), (5, .int .i64 (y.1 : Int))]) (fun y => .own y.2.1 70 4 (O ++ rowQ e (L.take y.1)).length y.2.2 ((O ++ rowQ e (L.take y.1)).flatMap encFF) :: .box g 129 [sl (some gl) L.length cap] :: .own (some gl) 132 4 L.length cap (L.flatMap encQ) :: R) (fun y => y.1 ≤ L.length) (fun y => L.length - y.1) (0, A3, c3) (Nat.zero_le _) (by simp only [rowQ, List.take_zero, List.filter_nil, List.map_nil, List.append_nil]; exact sB) (by simp only [rowQ, List.take_zero, List.filter_nil, List.map_nil, List.append_nil]; exact mS) ?_
    rintro ⟨j, A4, c4⟩ hj
    dsimp only at hj ⊢
    by_cases hlt2 : j < L.length
    · have hrl := rowQ_len e (L.take j)
      rw [List.length_take] at hrl
      have hnx2 := rowQ_take (a := e) hlt2
      have hc2 := encQ_cell hlt2
      generalize L[j] = f at hc2 hnx2
      have hT := hT f
      have hOn := fun w => refOne_at f.at_ w
      generalize hU : rowQ e (L.take j) = U at hrl hnx2
      have hql : (O ++ U).length ≤ 811000 := by rw [List.length_append]; omega
      cases ht : qE e f with
      | true =>
        rw [ht, if_pos rfl] at hnx2
        rw [show touchesU e.uses (oneA f.at_.col f.at_.row) = true from ht] at hT
        repeat' (first | ((with_reducible apply w_draw (id := 8)); kernel_rfl; kernel_rfl) | ((with_reducible apply wq_v (d := 33)); exact rfl; (with_reducible apply v_indexAddr (j := i)); exact rfl; exact rfl; exact hlt) | ((with_reducible apply wq_v (d := 40)); exact rfl; (with_reducible apply v_indexAddr (j := j)); exact rfl; exact rfl; exact hlt2) | ((with_reducible apply wq_v (d := 34)); exact rfl; (with_reducible apply v_loads_own (ys := encQ e)); exact rfl; exact pK; exact ha; exact rfl) | ((with_reducible apply wq_v (d := 42)); exact rfl; (with_reducible apply v_loads_own (ys := encF f.at_)); exact rfl; exact pK; exact hc2; exact rfl) | ((with_reducible apply wq_callp); exact rfl; exact rfl; (intro w hm; exact hOn w)) | ((with_reducible apply wq_callp (f := 83)); exact rfl; exact rfl; exact fun w' hm => hT _ mS w' hm) | refine sT ?_ | refine sS ?_ | refine sQ ?_ | refine sN ?_ | refine sNQ ?_ | refine sM fun _ => ?_ | (refine sC ?_ ?_ <;> intro hb <;> try omega) | (refine sCQ ?_ ?_ <;> intro hb <;> try omega) | fail)
        all_goals first | (exfalso; omega) | skip
        refine w_drawC (id := 9) [18, 19] [] [.box g 129 [sl (some gl) L.length cap], .own (some gl) 132 4 L.length cap (L.flatMap encQ)] (by kernel_rfl) (by kernel_rfl) (by kernel_rfl) mS ?_
        repeat' (first | ((with_reducible apply wc_v (d := 51)); (iterate 3 exact rfl); (with_reducible apply v_indexAddr (j := i)); exact rfl; exact rfl; exact hlt) | ((with_reducible apply wc_v (d := 59)); (iterate 3 exact rfl); (with_reducible apply v_indexAddr (j := j)); exact rfl; exact rfl; exact hlt2) | ((with_reducible apply wc_v (d := 53)); (iterate 3 exact rfl); (with_reducible apply v_loads_own (ys := encF e.at_)); exact rfl; exact pK; exact hc; exact rfl) | ((with_reducible apply wc_v (d := 61)); (iterate 3 exact rfl); (with_reducible apply v_loads_own (ys := encF f.at_)); exact rfl; exact pK; exact hc2; exact rfl) | ((with_reducible apply wc_v (d := 62)); (iterate 3 exact rfl); (with_reducible apply v_buildAr); (iterate 5 exact rfl)) | ((with_reducible apply wl_append1 (news := encFF (e.at_, f.at_))); (iterate 3 exact rfl); exact pK; exact pK; exact rfl; (simp [encFF, Value.oneCell']); omega; (simp only [maxLen]; omega); intro g8 c8) | refine sT ?_ | refine sS ?_ | refine sW ?_ | refine sN ?_ | refine sWN ?_ | refine sM fun _ => ?_ | (refine sC ?_ ?_ <;> intro hb <;> try omega) | (refine sCW ?_ ?_ <;> intro hb <;> try omega) | fail)
        all_goals first
          | (exfalso; omega)
          | (refine ⟨(j + 1, some g8, c8), hlt2, (by dsimp only; omega), (by dsimp only; rw [hnx2, ← List.append_assoc, @List.length_append _ (O ++ U), List.length_singleton]; exact sB), sB, ?_⟩
             dsimp only
             rw [hnx2, ← List.append_assoc, @List.length_append _ (O ++ U), List.length_singleton, List.flatMap_append (xs := O ++ U), List.flatMap_cons, List.flatMap_nil, List.append_nil]
             exact mS)
      | false =>
        rw [ht, if_neg (by simp)] at hnx2
        rw [show touchesU e.uses (oneA f.at_.col f.at_.row) = false from ht] at hT
        repeat' (first | ((with_reducible apply wq_v (d := 33)); exact rfl; (with_reducible apply v_indexAddr (j := i)); exact rfl; exact rfl; exact hlt) | ((with_reducible apply wq_v (d := 40)); exact rfl; (with_reducible apply v_indexAddr (j := j)); exact rfl; exact rfl; exact hlt2) | ((with_reducible apply wq_v (d := 34)); exact rfl; (with_reducible apply v_loads_own (ys := encQ e)); exact rfl; exact pK; exact ha; exact rfl) | ((with_reducible apply wq_v (d := 42)); exact rfl; (with_reducible apply v_loads_own (ys := encF f.at_)); exact rfl; exact pK; exact hc2; exact rfl) | ((with_reducible apply wq_callp); exact rfl; exact rfl; (intro w hm; exact hOn w)) | ((with_reducible apply wq_callp (f := 83)); exact rfl; exact rfl; exact fun w' hm => hT _ mS w' hm) | refine sT ?_ | refine sS ?_ | refine sQ ?_ | refine sN ?_ | refine sNQ ?_ | refine sD ?_ | refine sM fun _ => ?_ | (refine sC ?_ ?_ <;> intro hb <;> try omega) | (refine sCQ ?_ ?_ <;> intro hb <;> try omega) | fail)
        all_goals first
          | (exfalso; omega)
          | (refine ⟨(j + 1, A4, c4), hlt2, (by dsimp only; omega), (by dsimp only; rw [hnx2]; exact sB), sB, ?_⟩
             dsimp only
             rw [hnx2]
             exact mS)
    · have e2 : j = L.length := by omega
      subst e2
      rw [List.take_length]
      repeat' (first | refine sT ?_ | refine sS ?_ | refine sN ?_ | refine sM fun _ => ?_ | (refine sC ?_ ?_ <;> intro hb <;> try omega) | fail)
      all_goals first
        | (exfalso; omega)
        | (refine ⟨(i + 1, A4, c4), hlt, (by dsimp only; omega), (by dsimp only; rw [hnx]; exact sB), sB, ?_⟩
           dsimp only
           rw [hnx]
           exact mS)
  · have e2 : i = L.length := by omega
    subst e2
    rw [List.take_length]
    repeat' (first | refine sT ?_ | refine sS ?_ | refine sN ?_ | refine sM fun _ => ?_ | (refine sC ?_ ?_ <;> intro hb <;> try omega) | fail)
    all_goals first
      | (exfalso; omega)
      | exact ret1 eIO rfl rfl (H' := .own A3 70 4 (edgesQ L L).length c3 ((edgesQ L L).flatMap encFF) :: (rgB g A cap L ++ R)) (by unfold rgB; simp only [List.append_eq, List.cons_append, List.nil_append]; exact mS) ⟨A3, c3, rfl, rfl⟩
def RNewR (r : Option Gr × Int) (v : Value) (H : List Blk) : Prop := match r with
 | (none, e) => v = .tuple #[.pointer none, .int .i64 e] ∧ H = []
 | (some G, _) => ∃ g A cap L R, v = .tuple #[.pointer (some ⟨g, 0, none⟩), .int .i64 0] ∧ H = rgB g A cap L ++ R ∧ RGOk R L G
def foldS (G : Gr) (L : List Et) : Gr := L.foldl (fun G e => (setG G e.at_ e.input).1) G
theorem faultOf_ok {b : Option Rf} {e : Et} (h : faultOf b e = 0) : e.at_.valid = true ∧ (ofP e.input).2.2 = 0 := by
 have hg : ∀ (c1 c2 c3 : Prop) [Decidable c1] [Decidable c2] [Decidable c3] (z : Int), (if c1 then (3 : Int) else if c2 then 12 else if c3 then 2 else z) = 0 → ¬ c1 ∧ z = 0 := by
  intro c1 c2 c3 _ _ _ z hz
  by_cases h1 : c1
  ·
   rw [if_pos h1] at hz; cases hz
  ·
   rw [if_neg h1] at hz
   by_cases h2 : c2
   ·
    rw [if_pos h2] at hz; cases hz
   ·
    rw [if_neg h2] at hz
    by_cases h3 : c3
    ·
     rw [if_pos h3] at hz; cases hz
    ·
     rw [if_neg h3] at hz; exact ⟨h1, hz⟩
 obtain ⟨h1, h2⟩ := hg _ _ _ _ h
 exact ⟨by simpa using h1, h2⟩
theorem checkFrom_ok : ∀ (L : List Et) (i : Nat) (b : Option Rf), (checkFrom i b L).2 = 0 → ∀ e ∈ L, e.at_.valid = true ∧ (ofP e.input).2.2 = 0
 | [], _, _, _, e, he => by cases he
 | x :: r, i, b, h, e, he => by
  rw [checkFrom] at h
  split at h
  ·
   rename_i hf
   exact absurd h hf
  ·
   rename_i hf
   rcases List.mem_cons.1 he with rfl | he
   ·
    exact faultOf_ok (Classical.not_not.1 hf)
   ·
    exact checkFrom_ok r _ _ h e he
theorem newL_ok : ∀ (L : List Et) (G : Gr), (∀ e ∈ L, e.at_.valid = true ∧ (ofP e.input).2.2 = 0) → newL G L = (some (foldS G L), 0)
 | [], G, _ => rfl
 | e :: r, G, h => by
  have he : (setG G e.at_ e.input).2 = 0 := by
   obtain ⟨h1, h2⟩ := h e List.mem_cons_self
   unfold setG
   rw [if_neg (by rw [h1]; simp), if_neg (by rw [h2]; simp)]
   split <;> rfl
  rw [newL, if_neg (by rw [he]; simp), newL_ok r _ fun f hf => h f (List.mem_cons_of_mem _ hf)]
  rfl
theorem newG_eq (L : List Et) : newG L = if (checkEt L).2 ≠ 0 then (none, (checkEt L).2) else (some (foldS [] L), 0) := by
 unfold newG
 split
 ·
  rfl
 ·
  rename_i h
  exact newL_ok L [] (checkFrom_ok L 0 none (Classical.not_not.1 h))
theorem foldS_ok : ∀ (L : List Et) {G : Gr}, GrOk G → GrOk (foldS G L)
 | [], _, h => h
 | e :: r, _, h => foldS_ok r (h.set e.at_ e.input)
theorem foldS_len : ∀ (L : List Et) (G : Gr), (foldS G L).length ≤ G.length + L.length
 | [], G => Nat.le_refl _
 | e :: r, G => by
  have h1 := foldS_len r (setG G e.at_ e.input).1
  have h2 := setG_len G e.at_ e.input
  simp only [List.length_cons]
  exact Nat.le_trans h1 (by omega)
set_option maxHeartbeats 2000000 in
theorem rNew_at (L : List Et) (tv : Value) (w : World) (ht : Reads w tv L.length (L.flatMap encEt)) (hlen : L.length ≤ 900) :
  FnAt Tryz.prog 39 [tv] w (RNewR (newG L)) := by
 have hC := fun (w' : World) (H : List Blk) (hm : Mem w w' H) => refCheckEt_at L tv w' (ht.of_w0 hm) (by omega)
 obtain ⟨Al, cl, rfl, hl1, hl2, hl3⟩ := ht
 refine fn_at Tryz.func39 rfl Tryz.ntmps39 rfl ?_
 rw [newG_eq]
 generalize checkEt L = c at hC
 obtain ⟨ci, ce⟩ := c
 dsimp only at hC ⊢
 by_cases hce : ce ≠ 0
 ·
  rw [if_pos hce]
  repeat' (first | ((with_reducible apply wl_callp (f := 87)); exact rfl; exact rfl; (intro w' hm; exact hC w' _ hm)) | refine sT ?_ | refine sS ?_ | refine sM fun _ => ?_ | (refine sC ?_ ?_ <;> intro hb <;> try omega) | fail)
  all_goals first
   | (exfalso; omega)
   | exact ret2 eIO rfl rfl rfl (.nil _) ⟨rfl, rfl⟩
 rw [if_neg hce]
 have hce0 : ce = 0 := Classical.not_not.1 hce
 subst hce0
 refine w_nilrow 132 4 ?_
 repeat' (first | ((with_reducible apply wl_callp (f := 87)); exact rfl; exact rfl; (intro w' hm; exact hC w' _ hm)) | refine sT ?_ | refine sS ?_ | refine sM fun _ => ?_ | (refine sC ?_ ?_ <;> intro hb <;> try omega) | fail)
 all_goals first | (exfalso; omega) | skip
 rename_i g
 refine w_loopK [0, 6] rfl (fun x : Nat × Option Nat × Nat × List En × Gr × List Blk => [(7, .int .i64 (x.1 : Int))]) (fun x => rgB g x.2.1 x.2.2.1 x.2.2.2.1 ++ x.2.2.2.2.2) (fun x => x.1 ≤ L.length ∧ GrOk x.2.2.2.2.1 ∧ x.2.2.2.2.1.length ≤ x.1 ∧ RGOk x.2.2.2.2.2 x.2.2.2.1 x.2.2.2.2.1 ∧ foldS [] L = foldS x.2.2.2.2.1 (L.drop x.1)) (fun x => L.length - x.1) (0, none, 0, [], [], []) ⟨by simp, grOk_nil, Nat.le_refl _, ⟨(fun _ h => by cases h), rfl⟩, rfl⟩ sB (by unfold rgB; exact mS) ?_
 rintro ⟨i, A, cap, Q, G, R⟩ ⟨hi, hG, hGl, hR, hnew⟩
 dsimp only at hi hG hGl hR hnew ⊢
 by_cases hlt : i < L.length
 ·
  obtain ⟨gl, ol, rfl, hrl⟩ := hl3 (by omega)
  have he := hrl.elem encEt_len i hlt
  rw [List.drop_eq_getElem_cons hlt] at hnew
  generalize L[i] = e at he hnew
  have hS := rSet_in g A cap Q G e.at_ e.input R w hR hG.sort (by rw [hR.len]; omega)
  have hG' := hG.set e.at_ e.input
  have hGl' := setG_len G e.at_ e.input
  rw [show foldS G (e :: L.drop (i + 1)) = foldS (setG G e.at_ e.input).1 (L.drop (i + 1)) from rfl] at hnew
  generalize setG G e.at_ e.input = sg at hS hnew hG' hGl'
  obtain ⟨G', se⟩ := sg
  dsimp only at hS hnew hG' hGl'
  repeat' (first | refine sT ?_ | refine sS ?_ | refine sN ?_ | refine sM fun _ => ?_ | (refine sC ?_ ?_ <;> intro hb <;> try omega) | fail)
  all_goals first | (exfalso; omega) | skip
  refine w_drawC (id := 8) [11] [] [] (by kernel_rfl) (by kernel_rfl) (by kernel_rfl) (MSub.nil _) ?_
  repeat' (first | ((with_reducible apply wc_v (d := 27)); (iterate 3 exact rfl); (with_reducible apply v_indexAddr (j := i)); exact rfl; exact rfl; exact hlt) | ((with_reducible apply wc_v (d := 32)); (iterate 3 exact rfl); (with_reducible apply v_indexAddr (j := i)); exact rfl; exact rfl; exact hlt) | ((with_reducible apply wc_v (d := 29)); (iterate 3 exact rfl); (with_reducible apply v_loads_ro (off := 0) (ys := encF e.at_) he); (iterate 3 exact rfl)) | ((with_reducible apply wc_v (d := 34)); (iterate 3 exact rfl); (with_reducible apply v_loadf_ro (off := 2)); exact rfl; exact he; exact rfl) | ((with_reducible apply wl_callin (f := 28)); exact rfl; exact rfl; exact FnIn.msub hS (MSub.refl _); rintro _ _ ⟨rfl, A', cap', Q', R', rfl, hsub, hR'⟩) | refine sT ?_ | refine sS ?_ | refine sW ?_ | refine sN ?_ | refine sWN ?_ | refine sM fun _ => ?_ | (refine sC ?_ ?_ <;> intro hb <;> try omega) | (refine sCW ?_ ?_ <;> intro hb <;> try omega) | fail)
  all_goals first
   | (exfalso; omega)
   | (refine ⟨(i + 1, A', cap', Q', G', R'), ⟨hlt, hG', (by dsimp only; omega), hR', hnew⟩, (by dsimp only; omega), sB, sB, MSub.refl _⟩)
 ·
  have e2 : i = L.length := by omega
  subst e2
  rw [List.drop_length, show foldS G [] = G from rfl] at hnew
  rw [hnew]
  repeat' (first | refine sT ?_ | refine sS ?_ | refine sN ?_ | refine sM fun _ => ?_ | (refine sC ?_ ?_ <;> intro hb <;> try omega) | fail)
  all_goals first
   | (exfalso; omega)
   | exact ret2 eIO rfl rfl rfl (MSub.refl _) ⟨g, A, cap, Q, R, rfl, rfl, hR⟩
end Go.SL
namespace Go.SL
open Go
def inA : ByteArray := ⟨#[53]⟩
def inB : ByteArray := ⟨#[61, 65, 49, 43, 66, 49]⟩
def inC : ByteArray := ⟨#[61, 68, 83, 85, 77, 40, 66, 49, 58, 66, 51, 41]⟩
def inD : ByteArray := ⟨#[61, 73, 70, 69, 82, 82, 79, 82, 40, 65, 51, 44, 48, 41, 43, 49]⟩
def exL : List Et := [⟨⟨1, 1⟩, inA⟩, ⟨⟨1, 2⟩, inB⟩, ⟨⟨1, 3⟩, inC⟩, ⟨⟨1, 4⟩, inD⟩]
def refN (c r : Int) : Nd := ⟨2, zeroV, oneA c r, 0, 0, 0⟩
def exG : Gr := [
 (⟨1, 2⟩, [refN 1 1, refN 2 1, nodeOp 6 1], [⟨oneA 1 1, -1, 0⟩, ⟨oneA 2 1, -1, 0⟩]),
 (⟨1, 3⟩, [⟨3, zeroV, ⟨2, 1, 2, 3⟩, 0, 0, 0⟩, ⟨7, zeroV, zeroR, 0, 46, 1⟩], [⟨⟨2, 1, 2, 3⟩, 1, 46⟩]),
 (⟨1, 4⟩, [refN 1 3, ⟨1, ⟨1, 0, emptyB⟩, zeroR, 0, 0, 0⟩, ⟨7, zeroV, zeroR, 0, 25, 2⟩, ⟨1, ⟨1, 10000, emptyB⟩, zeroR, 0, 0, 0⟩, nodeOp 6 1], [⟨oneA 1 3, -1, 0⟩])]
theorem ex_new : newG exL = (some exG, 0) := by decide +kernel
theorem exG_ok : GrOk exG := by
 have h : ∀ (L : List Et) (G : Gr), GrOk G → ∀ G', newL G L = (some G', 0) → GrOk G' := by
  intro L
  induction L with
  | nil => intro G hG G' h; cases h; exact hG
  | cons e r ih =>
   intro G hG G' h
   rw [newL] at h
   split at h
   ·
    cases h
   ·
    exact ih _ (hG.set _ _) G' h
 have h2 := ex_new
 unfold newG at h2
 split at h2
 ·
  cases h2
 ·
  exact h exL [] grOk_nil exG h2
end Go.SL
namespace Go.SL
open Go Go.Proofs
attribute [local irreducible] W WL WQ WG WA WX WLI WR WT WC VOp RW thn blk cutP scp retP retPP endB FnAt FnIn FnP ceP
structure Pu where
 col : Int
 row : Int
 input : ByteArray
def encPu (p : Pu) : List Value := [.int .i64 p.col, .int .i64 p.row, .string p.input]
theorem encPu_len (p : Pu) : (encPu p).length = 3 := rfl
def modI (i n : Int) : Int := if n < 1 then 0 else (i.tmod n + n).tmod n
def Pu.ref (p : Pu) : Rf := ⟨1 + modI p.col 5, 1 + modI p.row 7⟩
theorem modI_range (i : Int) {n : Int} (h : 1 ≤ n) : 0 ≤ modI i n ∧ modI i n < n := by
 unfold modI
 rw [if_neg (by omega)]
 have h1 := Int.tmod_lt_of_pos i (show 0 < n by omega)
 have h2 : -n < i.tmod n := by
  have := Int.tmod_lt_of_pos (-i) (show 0 < n by omega)
  rw [Int.neg_tmod] at this
  omega
 exact ⟨Int.tmod_nonneg _ (by omega), Int.tmod_lt_of_pos _ (by omega)⟩
theorem Pu.range (p : Pu) : 1 ≤ p.ref.col ∧ p.ref.col ≤ 5 ∧ 1 ≤ p.ref.row ∧ p.ref.row ≤ 7 := by
 have h1 := modI_range p.col (n := 5) (by decide)
 have h2 := modI_range p.row (n := 7) (by decide)
 simp only [Pu.ref]
 omega
theorem Pu.valid (p : Pu) : p.ref.valid = true := by
 have := p.range
 exact valid_iff.2 (by omega)
theorem mod_at (i n : Int) (h1 : 1 ≤ n) (h2 : n ≤ 100) (w : World) : Pure Tryz.prog 15 [.int .i64 i, .int .i64 n] w (.int .i64 (modI i n)) := by
 refine fn_at Tryz.func15 rfl Tryz.ntmps15 rfl ?_
 have h3 := Int.tmod_lt_of_pos i (show 0 < n by omega)
 have h4 : -n < i.tmod n := by
  have := Int.tmod_lt_of_pos (-i) (show 0 < n by omega)
  rw [Int.neg_tmod] at this
  omega
 repeat' (first | ((with_reducible apply wl_v (d := 9)); exact rfl; (with_reducible apply v_rem_to (c := i.tmod n)); exact rfl; exact rfl; omega; exact rfl) | ((with_reducible apply wl_v (d := 11)); exact rfl; (with_reducible apply v_add); exact rfl; exact rfl; exact ⟨by omega, by omega⟩) | ((with_reducible apply wl_v (d := 13)); exact rfl; (with_reducible apply v_rem_to (c := (i.tmod n + n).tmod n)); exact rfl; exact rfl; omega; exact rfl) | refine sT ?_ | refine sS ?_ | refine sM fun _ => ?_ | (refine sC ?_ ?_ <;> intro hb <;> try omega) | fail)
 all_goals first
  | (exfalso; omega)
  | ((refine rT1 ?_); rw [modI, if_neg (by omega)])
theorem puAt_at (p : Pu) (w : World) : Pure Tryz.prog 44 [.agg (encPu p).toArray] w (.agg (encF p.ref).toArray) := by
 refine fn_at Tryz.func44 rfl Tryz.ntmps44 rfl ?_
 have h5 := fun w => mod_at p.col 5 (by decide) (by decide) w
 have h7 := fun w => mod_at p.row 7 (by decide) (by decide) w
 have hr := p.range
 simp only [Pu.ref] at hr
 unfold Pu.ref
 generalize modI p.col 5 = c at h5 hr
 generalize modI p.row 7 = r at h7 hr
 repeat' (first | refine sT ?_ | refine sS ?_ | refine sM fun _ => ?_ | (refine sC ?_ ?_ <;> intro hb <;> try omega) | fail)
 rename_i g1 g2
 refine w_drawC (id := 1) [2, 6, 9] [] [.box g1 73 (encPu p)] (by kernel_rfl) (by kernel_rfl) (by kernel_rfl) mS ?_
 repeat' (first | ((with_reducible apply wc_callp); (iterate 4 exact rfl); (intro w hm; exact h5 w)) | ((with_reducible apply wc_callp); (iterate 4 exact rfl); (intro w hm; exact h7 w)) | refine sT ?_ | refine sS ?_ | refine sW ?_ | refine sJ ?_ | refine sWJ ?_ | refine sM fun _ => ?_ | (refine sC ?_ ?_ <;> intro hb <;> try omega) | (refine sCW ?_ ?_ <;> intro hb <;> try omega) | fail)
 all_goals ((refine eRC ?_); rfl)
theorem refL_at (c r : Int) (w : World) : Pure Tryz.prog 20 [.int .i64 c, .int .i64 r] w (.agg (encF ⟨c, r⟩).toArray) := by
 refine fn_at Tryz.func20 rfl Tryz.ntmps20 rfl ?_
 repeat' (first | refine sT ?_ | refine sS ?_ | refine sM fun _ => ?_ | (refine sC ?_ ?_ <;> intro hb <;> try omega) | fail)
 all_goals ((refine eRC ?_); rfl)
theorem any_split {α : Type} [DecidableEq α] {L : List α} {i : Nat} (h : i < L.length) (a : α) : decide (a ∈ L.drop i) = (decide (L[i] = a) || decide (a ∈ L.drop (i + 1))) := by
 rw [List.drop_eq_getElem_cons h, Bool.eq_iff_iff]
 simp only [decide_eq_true_eq, Bool.or_eq_true, List.mem_cons]
 constructor
 ·
  rintro (rfl | h)
  ·
   exact .inl rfl
  ·
   exact .inr h
 ·
  rintro (rfl | h)
  ·
   exact .inl rfl
  ·
   exact .inr h
theorem has_at (L : List Rf) (a : Rf) (lv : Value) (w : World) (hl : Reads w lv L.length (L.flatMap encF)) : Pure Tryz.prog 18 [lv, .agg (encF a).toArray] w (.bool (decide (a ∈ L))) := by
  obtain ⟨Al, cl, rfl, hl1, hl2, hl3⟩ := hl
  refine fn_at Tryz.func18 rfl Tryz.ntmps18 rfl ?_
  repeat' (first | refine sT ?_ | refine sS ?_ | refine sM fun _ => ?_ | (refine sC ?_ ?_ <;> intro hb <;> try omega) | fail)
  rename_i g3
  refine w_loopK [0, 3] rfl (fun i : Nat => [(5, .int .i64 (i : Int))]) (fun _ => [.box g3 38 (encF a)]) (fun i => i ≤ L.length ∧ decide (a ∈ L) = decide (a ∈ L.drop i)) (fun i => L.length - i) 0 ⟨by omega, rfl⟩ sB mS ?_
  rintro i ⟨hi, hrec⟩
  by_cases hlt : i < L.length
  · obtain ⟨gl, ol, rfl, hrl⟩ := hl3 (by omega)
    have he := hrl.elem encF_len i hlt
    rw [any_split hlt] at hrec
    generalize L[i] = e at he hrec
    obtain ⟨c, hc⟩ : ∃ c, decide (e = a) = c := ⟨_, rfl⟩
    rw [hc] at hrec
    repeat' (first | ((with_reducible apply wq_v (d := 14)); exact rfl; (with_reducible apply v_indexAddr (j := i)); exact rfl; exact rfl; exact hlt) | ((with_reducible apply wq_v (d := 15)); exact rfl; (with_reducible apply v_loadw_ro); exact rfl; exact he; exact rfl) | ((with_reducible apply wq_v (d := 17)); exact rfl; (with_reducible apply v_eqlF_to); exact hc; exact rfl; exact rfl) | refine sT ?_ | refine sS ?_ | refine sQ ?_ | refine sN ?_ | refine sNQ ?_ | refine sD ?_ | refine sM fun _ => ?_ | (refine sC ?_ ?_ <;> intro hb <;> try omega) | (refine sCQ ?_ ?_ <;> intro hb <;> try omega) | fail)
    all_goals first
      | (exfalso; omega)
      | (refine ret1 eIO rfl rfl (.nil _) ?_; simp_all; done)
      | (refine ⟨i + 1, ⟨hlt, ?_⟩, by omega, ?_, ?_, ?_⟩
         · simp_all
         · exact sB
         · exact sB
         · exact mS)
  · have e2 : i = L.length := by omega
    subst e2
    rw [List.drop_length] at hrec
    repeat' (first | refine sT ?_ | refine sS ?_ | refine sN ?_ | refine sM fun _ => ?_ | (refine sC ?_ ?_ <;> intro hb <;> try omega) | fail)
    all_goals first
      | (exfalso; omega)
      | (refine ret1 eIO rfl rfl (.nil _) ?_; rw [hrec]; rfl)
theorem pair_split {L : List (Rf × Rf)} {i : Nat} (h : i < L.length) (a b : Rf) : decide ((a, b) ∈ L.drop i) = ((decide (L[i].1 = a) && decide (L[i].2 = b)) || decide ((a, b) ∈ L.drop (i + 1))) := by
 have hp : (a, b) = L[i] ↔ (L[i].1 = a ∧ L[i].2 = b) := by
  constructor
  ·
   intro h; rw [← h]; exact ⟨rfl, rfl⟩
  ·
   rintro ⟨rfl, rfl⟩; rfl
 rw [List.drop_eq_getElem_cons h, Bool.eq_iff_iff]
 simp only [decide_eq_true_eq, Bool.or_eq_true, Bool.and_eq_true, List.mem_cons, hp]
set_option maxHeartbeats 1000000 in
theorem pair_at (L : List (Rf × Rf)) (a b : Rf) (lv : Value) (w : World) (hl : Reads w lv L.length (L.flatMap encFF)) : Pure Tryz.prog 24 [lv, .agg (encF a).toArray, .agg (encF b).toArray] w (.bool (decide ((a, b) ∈ L))) := by
  obtain ⟨Al, cl, rfl, hl1, hl2, hl3⟩ := hl
  refine fn_at Tryz.func24 rfl Tryz.ntmps24 rfl ?_
  repeat' (first | refine sT ?_ | refine sS ?_ | refine sM fun _ => ?_ | (refine sC ?_ ?_ <;> intro hb <;> try omega) | fail)
  rename_i g3 g4
  refine w_loopK [0, 4, 5] rfl (fun i : Nat => [(7, .int .i64 (i : Int))]) (fun _ => [.box g4 38 (encF b), .box g3 38 (encF a)]) (fun i => i ≤ L.length ∧ decide ((a, b) ∈ L) = decide ((a, b) ∈ L.drop i)) (fun i => L.length - i) 0 ⟨by omega, rfl⟩ sB mS ?_
  rintro i ⟨hi, hrec⟩
  by_cases hlt : i < L.length
  · obtain ⟨gl, ol, rfl, hrl⟩ := hl3 (by omega)
    have he := hrl.elem encFF_len i hlt
    rw [pair_split hlt] at hrec
    generalize L[i] = e at he hrec
    obtain ⟨c, hc⟩ : ∃ c, decide (e.1 = a) = c := ⟨_, rfl⟩
    obtain ⟨d, hd⟩ : ∃ d, decide (e.2 = b) = d := ⟨_, rfl⟩
    rw [hc, hd] at hrec
    repeat' (first | ((with_reducible apply wq_v (d := 16)); exact rfl; (with_reducible apply v_indexAddr (j := i)); exact rfl; exact rfl; exact hlt) | ((with_reducible apply wq_v (d := 24)); exact rfl; (with_reducible apply v_indexAddr (j := i)); exact rfl; exact rfl; exact hlt) | ((with_reducible apply wq_v (d := 17)); exact rfl; (with_reducible apply v_ia_arr0); (iterate 3 exact rfl)) | ((with_reducible apply wq_v (d := 25)); exact rfl; (with_reducible apply v_ia_arr1); (iterate 3 exact rfl)) | ((with_reducible apply wq_v (d := 18)); exact rfl; (with_reducible apply v_loads_ro (off := 0) (ys := encF e.1) he); (iterate 3 exact rfl)) | ((with_reducible apply wq_v (d := 26)); exact rfl; (with_reducible apply v_loads_ro (off := 2) (ys := encF e.2) he); (iterate 3 exact rfl)) | ((with_reducible apply wq_v (d := 20)); exact rfl; (with_reducible apply v_eqlF_to); exact hc; exact rfl; exact rfl) | ((with_reducible apply wq_v (d := 28)); exact rfl; (with_reducible apply v_eqlF_to); exact hd; exact rfl; exact rfl) | refine sT ?_ | refine sS ?_ | refine sQ ?_ | refine sN ?_ | refine sNQ ?_ | refine sD ?_ | refine sM fun _ => ?_ | (refine sC ?_ ?_ <;> intro hb <;> try omega) | (refine sCQ ?_ ?_ <;> intro hb <;> try omega) | fail)
    all_goals first
      | (exfalso; omega)
      | (refine ret1 eIO rfl rfl (.nil _) ?_; simp_all; done)
      | (refine ⟨i + 1, ⟨hlt, ?_⟩, by omega, ?_, ?_, ?_⟩
         · simp_all
         · exact sB
         · exact sB
         · exact mS)
  · have e2 : i = L.length := by omega
    subst e2
    rw [List.drop_length] at hrec
    repeat' (first | refine sT ?_ | refine sS ?_ | refine sN ?_ | refine sM fun _ => ?_ | (refine sC ?_ ?_ <;> intro hb <;> try omega) | fail)
    all_goals first
      | (exfalso; omega)
      | (refine ret1 eIO rfl rfl (.nil _) ?_; rw [hrec]; rfl)
theorem inside_at (L M : List Rf) (lv mv : Value) (w : World) (hl : Reads w lv L.length (L.flatMap encF)) (hm : Reads w mv M.length (M.flatMap encF)) : Pure Tryz.prog 25 [lv, mv] w (.bool (L.all fun a => decide (a ∈ M))) := by
  obtain ⟨Al, cl, rfl, hl1, hl2, hl3⟩ := hl
  refine fn_at Tryz.func25 rfl Tryz.ntmps25 rfl ?_
  repeat' (first | refine sT ?_ | refine sS ?_ | refine sM fun _ => ?_ | (refine sC ?_ ?_ <;> intro hb <;> try omega) | fail)
  refine w_loopK [0, 1] rfl (fun i : Nat => [(5, .int .i64 (i : Int))]) (fun _ => []) (fun i => i ≤ L.length ∧ (L.all fun a => decide (a ∈ M)) = ((L.drop i).all fun a => decide (a ∈ M))) (fun i => L.length - i) 0 ⟨by omega, rfl⟩ sB (.refl _) ?_
  rintro i ⟨hi, hrec⟩
  by_cases hlt : i < L.length
  · obtain ⟨gl, ol, rfl, hrl⟩ := hl3 (by omega)
    have he := hrl.elem encF_len i hlt
    rw [List.drop_eq_getElem_cons hlt, List.all_cons] at hrec
    generalize L[i] = e at he hrec
    have hH := fun (w' : World) (H' : List Blk) (h : Mem w w' H') => has_at M e mv w' (hm.of_w0 h)
    generalize decide (e ∈ M) = c at hH hrec
    repeat' (first | ((with_reducible apply wl_v (d := 15)); exact rfl; (with_reducible apply v_indexAddr (j := i)); exact rfl; exact rfl; exact hlt) | ((with_reducible apply wl_v (d := 16)); exact rfl; (with_reducible apply v_loadw_ro); exact rfl; exact he; exact rfl) | ((with_reducible apply wl_callp (f := 18)); exact rfl; exact rfl; exact fun w' h => hH w' _ h) | refine sT ?_ | refine sS ?_ | refine sN ?_ | refine sM fun _ => ?_ | (refine sC ?_ ?_ <;> intro hb <;> try omega) | fail)
    all_goals first
      | (exfalso; omega)
      | (refine ret1 eIO rfl rfl (.nil _) ?_; simp_all; done)
      | (refine ⟨i + 1, ⟨hlt, ?_⟩, by omega, ?_, ?_, .refl _⟩
         · simp_all
         · exact sB
         · exact sB)
  · have e2 : i = L.length := by omega
    subst e2
    rw [List.drop_length] at hrec
    repeat' (first | refine sT ?_ | refine sS ?_ | refine sN ?_ | refine sM fun _ => ?_ | (refine sC ?_ ?_ <;> intro hb <;> try omega) | fail)
    all_goals first
      | (exfalso; omega)
      | (refine ret1 eIO rfl rfl (.nil _) ?_; rw [hrec]; rfl)
end Go.SL
namespace Go.SL
open Go Go.Proofs
attribute [local irreducible] W WL WQ WG WA WX WLI WR WT WC VOp RW thn blk cutP scp retP retPP endB FnAt FnP ceP
theorem FnIn.re {P : Program} {f : FuncId} {args : List Value} {w0 : World} {H : List Blk} {R R' : Value → List Blk → Prop} (h : FnIn P f args w0 H R) (hr : ∀ v H, R v H → ∃ H', MSub H' H ∧ R' v H') : FnIn P f args w0 H R' :=
 fun w hm => Calls.mono (h w hm) fun _ _ ⟨v, H', h1, h2, h3⟩ => let ⟨H2, h4, h5⟩ := hr v H' h3; ⟨v, H2, h1, h4.use h2, h5⟩
theorem MSub.of_perm {H H' : List Blk} (h : H'.Perm H) : MSub H H' := ⟨[], by simpa using h⟩
structure Gs where
 gg : Nat
 gm : Nat
 E : List En
 clock : Nat
 R1 : List Blk
 gr : Nat
 A : Option Nat
 cap : Nat
 Q : List En
 R2 : List Blk
def Gs.a (x : Gs) : List Blk := gB x.gg x.gm (x.E.map En.m) x.clock
def Gs.b (x : Gs) : List Blk := rgB x.gr x.A x.cap x.Q
def Gs.H (x : Gs) : List Blk := x.a ++ (x.b ++ (x.R1 ++ x.R2))
def Gs.pa (x : Gs) : Value := .pointer (some ⟨x.gg, 0, none⟩)
def Gs.pb (x : Gs) : Value := .pointer (some ⟨x.gr, 0, none⟩)
structure Gs.ok (x : Gs) (G : Gr) : Prop where
 a : GOk x.R1 x.E x.clock G
 b : RGOk x.R2 x.Q G
 g : GrOk G
theorem Gs.permA (x : Gs) (F : List Blk) : (F ++ x.H).Perm (x.a ++ (x.R1 ++ (x.b ++ (x.R2 ++ F)))) := by
 refine List.perm_append_comm.trans ?_
 unfold Gs.H
 simp only [List.append_assoc]
 exact (List.perm_append_comm_assoc x.b x.R1 (x.R2 ++ F)).append_left x.a
theorem Gs.permB (x : Gs) (F : List Blk) : (F ++ x.H).Perm (x.b ++ (x.R2 ++ (x.a ++ (x.R1 ++ F)))) := by
 refine List.perm_append_comm.trans ?_
 unfold Gs.H
 simp only [List.append_assoc]
 refine (List.perm_append_comm_assoc x.a x.b _).trans (List.Perm.append_left x.b ?_)
 refine (List.Perm.append_left x.a (List.perm_append_comm_assoc x.R1 x.R2 F)).trans ?_
 exact List.perm_append_comm_assoc x.a x.R2 _
theorem Gs.set (x : Gs) (G : Gr) (h : x.ok G) (c : Rf) (i : ByteArray) (F : List Blk) (w0 : World) (hW : Words w0) :
  FnIn Tryz.prog 27 [x.pa, keyF c, .string i] w0 (F ++ x.H) fun v H => v = .int .i64 (setG G c i).2 ∧ ∃ E' clock' R', H = F ++ ({ x with E := E', clock := clock', R1 := R' } : Gs).H ∧ MSub x.R1 R' ∧ GOk R' E' clock' (setG G c i).1 := by
 refine (FnIn.msub (Set_inF x.gg x.gm x.clock x.E G c i x.R1 (x.b ++ (x.R2 ++ F)) w0 h.a hW) (MSub.of_perm (x.permA F))).re ?_
 rintro v H ⟨hv, E', clock', R', rfl, hs, hG⟩
 exact ⟨F ++ ({ x with E := E', clock := clock', R1 := R' } : Gs).H, MSub.of_perm (Gs.permA { x with E := E', clock := clock', R1 := R' } F).symm, hv, E', clock', R', rfl, hs, hG⟩
theorem Gs.rset (x : Gs) (G : Gr) (h : RGOk x.R2 x.Q G) (hs : SortG G) (hl : G.length ≤ 900) (c : Rf) (i : ByteArray) (F : List Blk) (w0 : World) :
  FnIn Tryz.prog 28 [x.pb, keyF c, .string i] w0 (F ++ x.H) fun v H => v = .int .i64 (setG G c i).2 ∧ ∃ A' cap' Q' R', H = F ++ ({ x with A := A', cap := cap', Q := Q', R2 := R' } : Gs).H ∧ MSub x.R2 R' ∧ RGOk R' Q' (setG G c i).1 := by
 refine (FnIn.msub (rSet_inF x.gr x.A x.cap x.Q G c i x.R2 (x.a ++ (x.R1 ++ F)) w0 h hs (by rw [h.len]; omega)) (MSub.of_perm (x.permB F))).re ?_
 rintro v H ⟨hv, A', cap', Q', R', rfl, hss, hG⟩
 exact ⟨F ++ ({ x with A := A', cap := cap', Q := Q', R2 := R' } : Gs).H, MSub.of_perm (Gs.permB { x with A := A', cap := cap', Q := Q', R2 := R' } F).symm, hv, A', cap', Q', R', rfl, hss, hG⟩
section
variable (x : Gs) (G : Gr) (h : x.ok G) (F : List Blk) (w0 : World)
include h
end
end Go.SL
