/-
  Lemmas and walks, put together: Rl Rm Rn Ro.
-/
import Derived.Test.YtpohljcebgacjaaGreatDoorKr30
set_option linter.unusedSimpArgs false
set_option linter.unusedVariables false
set_option maxRecDepth 20000
namespace Go.SL
open Go Go.Proofs
attribute [local irreducible] W WL WQ WG WA WX WLI WR WT WC WE VOp RW thn blk cutP scp retP retPP endB FnAt FnIn FnP ceP
set_option maxHeartbeats 4000000 in
theorem lengths_in (gg : Nat) (G : Gr) (hG : GrOk G) (hGl : G.length ≤ 900) (b : Rf) (hbv : b.valid = true) (B F : List Blk) (hB : MSub B F) (w0 : World)
    (hU : ∀ r H, MSub B H → FnIn Tryz.prog 16 [.pointer (some ⟨gg, 0, none⟩), .agg (encR r).toArray] w0 H fun v H' => ∃ A cap, v = sl A (usersG G r).length cap ∧ H' = .own A 38 2 (usersG G r).length cap ((usersG G r).flatMap encF) :: H) :
    FnIn Tryz.prog 100 [.pointer (some ⟨gg, 0, none⟩), keyF b] w0 F fun v H' => ∃ gm D, v = .map (some gm) ∧ H' = .obj gm (mobj keyF (lenM D) D.length) :: F ∧ ∀ c, lookD D c = disF G b c := by
  refine fn_in Tryz.func100 rfl Tryz.ntmps100 rfl ?_
  repeat' (first | ((with_reducible apply wl_makeMap (enc := keyF)); exact rfl; intro gm) | refine sT ?_ | refine sS ?_ | refine sM fun _ => ?_ | (refine sC ?_ ?_ <;> intro hb <;> try omega) | fail)
  rename_i g3 qg
  refine w_loopK [0, 5] rfl (fun y : Nat × List Rf × List (Rf × Nat) × Option Nat × Nat => [(6, sl y.2.2.2.1 y.2.1.length y.2.2.2.2), (7, .int .i64 ((y.1 + 1 : Nat) : Int))]) (fun y => .own y.2.2.2.1 38 2 y.2.1.length y.2.2.2.2 (y.2.1.flatMap encF) :: .obj gm (mobj keyF (lenM y.2.2.1) y.2.2.1.length) :: F) (fun y => BfI G b y.1 y.2.1 y.2.2.1 ∧ y.1 ≤ y.2.2.1.length + 1 ∧ (y.2.1 ≠ [] → y.1 ≤ y.2.2.1.length) ∧ y.2.1.length ≤ 1000) (fun y => 2 * (G.length - y.2.2.1.length) + y.2.1.length.min 1) (0, [b], [], some qg, 1) ⟨BfI.start G b, Nat.zero_le _, fun _ => Nat.zero_le _, by simp⟩ sB mS ?_
  rintro ⟨m, todo, D, At, ct⟩ ⟨hI, hmD, hmD2, htl⟩
  dsimp only at hI hmD hmD2 htl ⊢
  have hDl := bf_len hG hI.nodup hI.keys
  by_cases ht0 : todo.length = 0
  · have htn : todo = [] := List.length_eq_zero_iff.1 ht0
    subst htn
    have hdone := hI.done
    repeat' (first | refine sT ?_ | refine sS ?_ | refine sN ?_ | refine sM fun _ => ?_ | (refine sC ?_ ?_ <;> intro hb <;> try omega) | fail)
    all_goals first
      | (exfalso; omega)
      | (exact ret1 eIO rfl rfl (H' := .obj gm (mobj keyF (lenM D) D.length) :: F) mS ⟨gm, D, rfl, rfl, hdone⟩)
      | trace_state
  · refine w_some (A := At) .hd (by omega) fun gt hA => ?_
    subst hA
    have hmD3 := hmD2 fun e => ht0 (by rw [e]; rfl)
    refine w_nilrow 38 2 ?_
    repeat' (first | refine sT ?_ | refine sS ?_ | refine sN ?_ | refine sM fun _ => ?_ | (refine sC ?_ ?_ <;> intro hb <;> try omega) | fail)
    all_goals first | (exfalso; omega) | skip
    have hmem : ∀ i (h : i < todo.length), todo[i] ∈ todo := fun i h => List.getElem_mem h
    have hget : ∀ x ∈ todo, ∃ i, ∃ h : i < todo.length, todo[i] = x := fun x hx => List.getElem_of_mem hx
    refine w_loopK [0, 5, 7, 21, 22] rfl (fun y : Nat × List Rf × List (Rf × Nat) × Option Nat × Nat => [(8, sl y.2.2.2.1 y.2.1.length y.2.2.2.2), (23, .int .i64 (y.1 : Int))]) (fun y => .own y.2.2.2.1 38 2 y.2.1.length y.2.2.2.2 (y.2.1.flatMap encF) :: .own (some gt) 38 2 todo.length ct (todo.flatMap encF) :: .obj gm (mobj keyF (lenM y.2.2.1) y.2.2.1.length) :: F) (fun y => y.1 ≤ todo.length ∧ BfJ G b m D y.2.1 y.2.2.1 ∧ ∀ j (h : j < todo.length), j < y.1 → ∀ c ∈ keysG G, touchesU (usesG G c) (oneA todo[j].col todo[j].row) = true → lookD y.2.2.1 c ≠ 0) (fun y => todo.length - y.1) (0, [], D, none, 0) ⟨Nat.zero_le _, hI.enter, fun j _ h => absurd h (Nat.not_lt_zero _)⟩ sB mS ?_
    rintro ⟨i, next, D', An, cn⟩ ⟨hi, hJ, hin⟩
    dsimp only at hi hJ hin ⊢
    have hDl' := bf_len hG hJ.nodup hJ.keys
    have hJl := hJ.len
    by_cases hlt : i < todo.length
    · have hread := refF hlt
      have hxm := hmem i hlt
      have hstep : ∀ (D2 : List (Rf × Nat)), (∀ c, lookD D' c ≠ 0 → lookD D2 c ≠ 0) → (∀ c ∈ keysG G, touchesU (usesG G c) (oneA todo[i].col todo[i].row) = true → lookD D2 c ≠ 0) → ∀ j (h : j < todo.length), j < i + 1 → ∀ c ∈ keysG G, touchesU (usesG G c) (oneA todo[j].col todo[j].row) = true → lookD D2 c ≠ 0 := fun D2 h1 h2 j h3 h4 c h5 h6 => by
        by_cases e : j = i
        · subst e; exact h2 c h5 h6
        · exact h1 c (hin j h3 (by omega) c h5 h6)
      generalize todo[i] = x at hread hxm hstep
      have hxv := hI.valid hG hbv hxm
      have hUx := hU (oneA x.col x.row)
      have huI := fun c => users_iff (a := c) hG hxv
      have hUl : (usersG G (oneA x.col x.row)).length ≤ 900 := Nat.le_trans users_len hGl
      generalize usersG G (oneA x.col x.row) = U at hUx huI hUl
      repeat' (first | ((with_reducible apply wl_v); exact rfl; (with_reducible apply v_indexAddr (j := i)); exact rfl; exact rfl; exact hlt) | ((with_reducible apply wl_v); exact rfl; (with_reducible apply v_loads_own); exact rfl; exact pK; exact hread; exact rfl) | ((with_reducible apply wl_callp); exact rfl; exact rfl; (intro w hm; exact One_at _ w)) | ((with_reducible apply wl_callin (f := 16)); exact rfl; exact rfl; exact hUx _ (MSub.trans hB mS); rintro _ _ ⟨Au, cu, rfl, rfl⟩) | refine sT ?_ | refine sS ?_ | refine sN ?_ | refine sM fun _ => ?_ | (refine sC ?_ ?_ <;> intro hb <;> try omega) | fail)
      all_goals first | (exfalso; omega) | skip
      refine w_loopK [0, 5, 7, 21, 22, 23, 30, 31] rfl (fun y : Nat × List Rf × List (Rf × Nat) × Option Nat × Nat => [(8, sl y.2.2.2.1 y.2.1.length y.2.2.2.2), (32, .int .i64 (y.1 : Int))]) (fun y => .own y.2.2.2.1 38 2 y.2.1.length y.2.2.2.2 (y.2.1.flatMap encF) :: .own Au 38 2 U.length cu (U.flatMap encF) :: .own (some gt) 38 2 todo.length ct (todo.flatMap encF) :: .obj gm (mobj keyF (lenM y.2.2.1) y.2.2.1.length) :: F) (fun y => y.1 ≤ U.length ∧ BfJ G b m D y.2.1 y.2.2.1 ∧ (∀ c, lookD D' c ≠ 0 → lookD y.2.2.1 c ≠ 0) ∧ ∀ j (h : j < U.length), j < y.1 → lookD y.2.2.1 U[j] ≠ 0) (fun y => U.length - y.1) (0, next, D', An, cn) ⟨Nat.zero_le _, hJ, fun _ h => h, fun j _ h => absurd h (Nat.not_lt_zero _)⟩ sB mS ?_
      rintro ⟨k, next2, D2, A2, c2⟩ ⟨hk, hJ2, hmo, hin2⟩
      dsimp only at hk hJ2 hmo hin2 ⊢
      have hDl2 := bf_len hG hJ2.nodup hJ2.keys
      have hJl2 := hJ2.len
      by_cases hlk : k < U.length
      · refine w_some (A := Au) pK (by omega) fun gk hA => ?_
        subst hA
        have hread2 := refF hlk
        have hcm : U[k] ∈ U := List.getElem_mem hlk
        have hstep2 : ∀ (D3 : List (Rf × Nat)), (∀ c, lookD D2 c ≠ 0 → lookD D3 c ≠ 0) → lookD D3 U[k] ≠ 0 → ∀ j (h : j < U.length), j < k + 1 → lookD D3 U[j] ≠ 0 := fun D3 h1 h2 j h3 h4 => by
          by_cases e : j = k
          · subst e; exact h2
          · exact h1 _ (hin2 j h3 (by omega))
        generalize U[k] = c at hread2 hcm hstep2
        obtain ⟨hck, hct⟩ := (huI c).1 hcm
        have hlook := look_len D2 c
        by_cases hz : lookD D2 c = 0
        · have hadd := hJ2.add hI hxm hck hct hz
          have hno := lookD_no hJ2.pos hz
          have hput := putD_len (k := m + 1) hno
          have hlap := fun d => lookD_app (c := d) (k := m + 1) hno
          rw [hz] at hlook
          repeat' (first | ((with_reducible apply wl_v); exact rfl; (with_reducible apply v_indexAddr (j := k)); exact rfl; exact rfl; exact hlk) | ((with_reducible apply wl_v); exact rfl; (with_reducible apply v_loads_own); exact rfl; exact pK; exact hread2; exact rfl) | ((with_reducible apply wl_v); exact rfl; (with_reducible apply v_lookup (enc := keyF) (k := c)); exact rfl; exact rfl; exact pK; exact hlook) | ((with_reducible apply wl_mapPut (enc := keyF) (k := c)); (iterate 3 exact rfl); exact pK; rw [hput]) | ((with_reducible apply wl_append); (iterate 3 exact rfl); (repeat first | exact .hd | apply Sel.tl | apply In.tl); (intro w hm; exact hm.cells_own (by (repeat first | exact .hd | apply Sel.tl | apply In.tl))); exact rfl; (simp [Value.oneCell', sl]); omega; (simp only [maxLen]; omega); (intro A5 cap5 hA5)) | refine sT ?_ | refine sS ?_ | refine sN ?_ | refine sM fun _ => ?_ | (refine sC ?_ ?_ <;> intro hb <;> try omega) | fail)
          all_goals first
            | (exfalso; omega)
            | (refine ⟨(k + 1, next2 ++ [c], D2 ++ [(c, m + 1)], A5, cap5), ⟨hlk, hadd, ?_, ?_⟩, by dsimp only; omega, ?_, by exact sB, ?_⟩
               · intro d hd
                 have h1 := hmo d hd
                 dsimp only
                 rw [hlap]
                 split
                 · omega
                 · exact h1
               · refine hstep2 _ (fun d hd => ?_) ?_
                 · rw [hlap]
                   split
                   · omega
                   · exact hd
                 · rw [hlap, if_pos rfl]; omega
               · dsimp only; rw [List.length_append]; exact sB
               · dsimp only; rw [List.length_append, List.length_append, List.flatMap_append, List.flatMap_cons, List.flatMap_nil, List.append_nil]; exact mS)
            | trace_state
        · have hnz : ¬ ((lookD D2 c : Nat) : Int) = 0 := by omega
          have hs3 := hstep2 D2 (fun _ h => h) hz
          generalize lookD D2 c = v at hlook hnz
          repeat' (first | ((with_reducible apply wl_v); exact rfl; (with_reducible apply v_indexAddr (j := k)); exact rfl; exact rfl; exact hlk) | ((with_reducible apply wl_v); exact rfl; (with_reducible apply v_loads_own); exact rfl; exact pK; exact hread2; exact rfl) | ((with_reducible apply wl_v); exact rfl; (with_reducible apply v_lookup (enc := keyF) (k := c)); exact rfl; exact rfl; exact pK; exact hlook) | refine sT ?_ | refine sS ?_ | refine sN ?_ | refine sM fun _ => ?_ | (refine sC ?_ ?_ <;> intro hb <;> try omega) | fail)
          all_goals first
            | (exfalso; omega)
            | (exact absurd hb hnz)
            | (refine ⟨(k + 1, next2, D2, A2, c2), ⟨hlk, hJ2, hmo, hs3⟩, by dsimp only; omega, by exact sB, by exact sB, by exact mS⟩; done)
            | trace_state
      · have hk2 : k = U.length := by omega
        subst hk2
        have hs4 := hstep D2 hmo fun c hc ht => by
          obtain ⟨j, hj, rfl⟩ := List.getElem_of_mem ((huI c).2 ⟨hc, ht⟩)
          exact hin2 j hj hj
        repeat' (first | refine sT ?_ | refine sS ?_ | refine sN ?_ | refine sM fun _ => ?_ | (refine sC ?_ ?_ <;> intro hb <;> try omega) | fail)
        all_goals first
          | (exfalso; omega)
          | (refine ⟨(i + 1, next2, D2, A2, c2), ⟨hlt, hJ2, hs4⟩, by dsimp only; omega, by exact sB, by exact sB, by exact mS⟩; done)
          | trace_state
    · have hi2 : i = todo.length := by omega
      subst hi2
      have hI2 := hJ.leave hI fun x hx c hc ht => by
        obtain ⟨j, hj, rfl⟩ := hget x hx
        exact hin j hj hj c hc ht
      repeat' (first | refine sT ?_ | refine sS ?_ | refine sN ?_ | refine sM fun _ => ?_ | (refine sC ?_ ?_ <;> intro hb <;> try omega) | fail)
      all_goals first
        | (exfalso; omega)
        | (refine ⟨(m + 1, next, D', An, cn), ⟨hI2, by dsimp only; omega, fun hne => ?_, by dsimp only; omega⟩, ?_, by exact sB, by exact sB, by exact mS⟩
           · dsimp only at hne ⊢
             have := List.length_pos_iff.2 hne
             omega
           · dsimp only
             have h1 : next.length.min 1 ≤ 1 := Nat.min_le_right _ _
             have h2 : todo.length.min 1 = 1 := Nat.min_eq_right (by omega)
             have h3 : next.length.min 1 ≤ next.length := Nat.min_le_left _ _
             omega)
        | trace_state
def pathF (G:Gr) (a b:Rf):List Rf:=if disF G b a=0 then [] else wayF G b (disF G b a) a
def pathR (G:Gr) (a b:Rf):List Rf:=if checkR [a,b] []=0 then pathF G a b else []
def pathB (G:Gr) (a b:Rf):Bool:=decide (checkR [a,b] []=0) && decide (disF G b a≠0)
theorem wayF_len {G:Gr} {b:Rf}: ∀ n c,(wayF G b n c).length≤n+2:=fun n=>by
 induction n with
 |zero=>intro c;simp [wayF,tailF]
 |succ n ih=>
  intro c
  by_cases hn:n=0
  ·
   subst hn;rw [wayF_one];simp
  ·
   rw [wayF,tailF,if_neg hn]
   cases hs:nxtF G b n c with
   |none=>simp
   |some d=>
    have:=ih d
    simp only [wayF,List.length_cons,List.length_append,List.length_nil] at this ⊢
    omega
theorem farF_le (G:Gr) (b c:Rf):disF G b c≤G.length+1:=farN_le _ _
def nextB (G:Gr) (b:Rf) (n:Nat) (c d:Rf):Bool:=decide (disF G b d=n) && (usesG G c).any fun u=>hasR u.rect d
theorem stepF_next {G:Gr} (hG:GrOk G) {b:Rf} {n:Nat} {c:Rf}:nxtF G b n c=(keysG G).find? (nextB G b n c):=by
 unfold nxtF
 have: ∀ l:List Rf,(∀ d∈l,d∈keysG G)→l.find? (fun d=>decide (disF G b d=n) && touchesU (usesG G c) (oneA d.col d.row))=l.find? (nextB G b n c):=fun l=>by
  induction l with
  |nil=>intro _;rfl
  |cons d l ih=>
   intro h
   have hd:=h d List.mem_cons_self
   have he:(decide (disF G b d=n) && touchesU (usesG G c) (oneA d.col d.row))=nextB G b n c d:=by
    unfold nextB
    congr 1
    unfold touchesU
    exact any_congr fun u hu=>touch_of hG hu hd
   rw [List.find?_cons,List.find?_cons,he,ih fun x hx=>h x (List.mem_cons_of_mem _ hx)]
 exact this _ fun _ h=>h
set_option maxHeartbeats 4000000 in
theorem Path_in (gg : Nat) (G : Gr) (hG : GrOk G) (hGl : G.length ≤ 900) (a b : Rf) (B F : List Blk) (hB : MSub B F) (w0 : World)
    (hU : ∀ r H, MSub B H → FnIn Tryz.prog 16 [.pointer (some ⟨gg, 0, none⟩), .agg (encR r).toArray] w0 H fun v H' => ∃ A cap, v = sl A (usersG G r).length cap ∧ H' = .own A 38 2 (usersG G r).length cap ((usersG G r).flatMap encF) :: H)
    (hFm : ∀ H, MSub B H → FnIn Tryz.prog 17 [.pointer (some ⟨gg, 0, none⟩)] w0 H fun v H' => ∃ A cap, v = sl A (keysG G).length cap ∧ H' = .own A 38 2 (keysG G).length cap ((keysG G).flatMap encF) :: H)
    (hUs : ∀ d H, MSub B H → FnIn Tryz.prog 21 [.pointer (some ⟨gg, 0, none⟩), keyF d] w0 H fun v H' => ∃ A cap, v = sl A (usesG G d).length cap ∧ H' = .own A 45 6 (usesG G d).length cap ((usesG G d).flatMap encU) :: H)
    (hUl : ∀ d, (usesG G d).length ≤ 1000) :
    FnIn Tryz.prog 50 [.pointer (some ⟨gg, 0, none⟩), keyF a, keyF b] w0 F fun v H' => ∃ A cap, v = .tuple #[sl A (pathR G a b).length cap, .bool (pathB G a b), .int .i64 (checkR [a, b] [])] ∧ H' = .own A 38 2 (pathR G a b).length cap ((pathR G a b).flatMap encF) :: F := by
  refine fn_in Tryz.func50 rfl Tryz.ntmps50 rfl ?_
  refine w_nilrow 38 2 ?_
  have hck := fun w (v : Value) (hr : Reads w v 2 (encF a ++ encF b)) => checkA_at gg [a, b] [] v (.slice none 0 0) w (by simpa using hr) (reads_nil w) (by simp) (by simp)
  unfold pathR pathB
  by_cases hc0 : checkR [a, b] [] = 0
  · obtain ⟨hca, hva, hvb⟩ := check_fst hc0
    have hle := fun F hB => lengths_in gg G hG hGl b hvb B F hB w0 hU
    rw [if_pos hc0]
    rw [hc0] at hck ⊢
    rw [decide_eq_true rfl, Bool.true_and]
    unfold pathF
    obtain ⟨N, hN⟩ : ∃ N, disF G b a = N := ⟨_, rfl⟩
    have hw := wayF_len (G := G) (b := b) N a
    have hfl := farF_le G b a
    rw [hN] at hfl
    have hla : ∀ D, (∀ c, lookD D c = disF G b c) → ∀ c, (match kfind c (lenM D) 0 with | some (_, v) => v | none => Value.int .i64 0) = .int .i64 (disF G b c : Int) := fun D h c => (look_len D c).trans (by rw [h])
    by_cases hN0 : N = 0
    · have hN1 := hN.trans hN0
      rw [if_pos hN1, decide_eq_false (fun h => h hN1)]
      repeat' (first | ((with_reducible apply wl_callp (f := 88)); exact rfl; exact rfl; (intro w' hm; exact hck w' _ (Reads.of_own (A := some _) hm pK))) | ((with_reducible apply wl_callin (f := 100)); exact rfl; exact rfl; exact hle _ (MSub.trans hB mS); rintro _ _ ⟨gm, D, rfl, rfl, hD⟩) | ((with_reducible apply wl_v); exact rfl; (with_reducible apply v_lookup (enc := keyF) (k := a)); exact rfl; exact rfl; exact pK; exact (hla D hD a).trans (by rw [hN1])) | refine sT ?_ | refine sS ?_ | refine sM fun _ => ?_ | (refine sC ?_ ?_ <;> intro hb <;> try omega) | fail)
      all_goals first
        | (exfalso; omega)
        | (exact ret3 eIO rfl rfl rfl rfl (H' := .own none 38 2 0 0 [] :: F) mS ⟨none, 0, rfl, rfl⟩)
        | trace_state
    have hN1 : disF G b a ≠ 0 := fun e => hN0 (hN.symm.trans e)
    rw [if_neg hN1, decide_eq_true hN1, hN]
    have hKl : (keysG G).length = G.length := by rw [keysG, List.length_map]
    have hstp : ∀ n c, disF G b c = n + 2 → ∃ i, ∃ h : i < (keysG G).length, nxtF G b (n + 1) c = some (keysG G)[i] ∧ disF G b (keysG G)[i] = n + 1 ∧ nextB G b (n + 1) c (keysG G)[i] = true ∧ ∀ j (hj : j < (keysG G).length), j < i → nextB G b (n + 1) c (keysG G)[j] = false := fun n c hc => by
      obtain ⟨d, h1, h2, h3, h4⟩ := stepF_some hc (by omega)
      have h5 := (stepF_next hG (b := b) (n := n + 1) (c := c)).symm.trans h1
      obtain ⟨h6, i, h7, rfl, h8⟩ := List.find?_eq_some_iff_getElem.1 h5
      exact ⟨i, h7, h1, h3, h6, fun j hj hji => by simpa using h8 j hji⟩
    generalize keysG G = K at hKl hstp hFm
    repeat' (first | ((with_reducible apply wl_callp (f := 88)); exact rfl; exact rfl; (intro w' hm; exact hck w' _ (Reads.of_own (A := some _) hm pK))) | ((with_reducible apply wl_callin (f := 100)); exact rfl; exact rfl; exact hle _ (MSub.trans hB mS); rintro _ _ ⟨gm, D, rfl, rfl, hD⟩) | ((with_reducible apply wl_v); exact rfl; (with_reducible apply v_lookup (enc := keyF) (k := a)); exact rfl; exact rfl; exact pK; exact (hla D hD a).trans (by rw [hN])) | ((with_reducible apply wl_callin (f := 17)); exact rfl; exact rfl; exact hFm _ (MSub.trans hB mS); rintro _ _ ⟨Ac, cc, rfl, rfl⟩) | refine sT ?_ | refine sS ?_ | refine sM fun _ => ?_ | (refine sC ?_ ?_ <;> intro hb <;> try omega) | fail)
    all_goals first | (exfalso; omega) | skip
    rename_i g4 g5 g6 go ga
    have hlk := hla D hD
    refine w_loopK [0, 5, 10, 11] rfl (fun y : Rf × List Rf × Option Nat × Nat × Nat => [(12, sl y.2.2.1 y.2.1.length y.2.2.2.1), (13, .pointer (some ⟨y.2.2.2.2, 0, none⟩))]) (fun y => .own y.2.2.1 38 2 y.2.1.length y.2.2.2.1 (y.2.1.flatMap encF) :: .box y.2.2.2.2 38 (encF y.1) :: .own Ac 38 2 K.length cc (K.flatMap encF) :: .obj gm (mobj keyF (lenM D) D.length) :: .box g5 38 (encF b) :: F) (fun y => disF G b y.1 ≠ 0 ∧ wayF G b N a = y.2.1 ++ (tailF G b (disF G b y.1) y.1 ++ [b])) (fun y => disF G b y.1) (a, [a], some go, 1, ga) ⟨hN1, by dsimp only; rw [hN]; rfl⟩ sB mS ?_
    rintro ⟨c, out, A, cap, g13⟩ ⟨hc0', hway⟩
    dsimp only at hc0' hway ⊢
    have hol : out.length ≤ 1000 := by
      have := congrArg List.length hway
      rw [List.length_append] at this
      omega
    obtain ⟨n, hn⟩ : ∃ n, disF G b c = n := ⟨_, rfl⟩
    have hlc := hlk c
    have hnl := farF_le G b c
    rw [hn] at hc0' hway hlc hnl
    by_cases hn1 : n = 1
    · subst hn1
      rw [tailF_one, List.nil_append] at hway
      have hwl : (out ++ [b]).length = out.length + 1 := by simp
      rw [hway]
      repeat' (first | ((with_reducible apply wl_v); exact rfl; (with_reducible apply v_lookup (enc := keyF) (k := c)); exact rfl; exact rfl; exact pK; exact hlc) | ((with_reducible apply wl_append); (iterate 3 exact rfl); (repeat first | exact .hd | apply Sel.tl | apply In.tl); (intro w hm; exact hm.cells_own (by (repeat first | exact .hd | apply Sel.tl | apply In.tl))); exact rfl; (simp [Value.oneCell', sl]); omega; (simp only [maxLen]; omega); (intro A2 cap2 hA2)) | refine sT ?_ | refine sS ?_ | refine sN ?_ | refine sM fun _ => ?_ | (refine sC ?_ ?_ <;> intro hb <;> try omega) | fail)
      all_goals first
        | (exfalso; omega)
        | (refine ret3 eIO rfl rfl rfl rfl (H' := .own A2 38 2 (out.length + 1) cap2 (out.flatMap encF ++ encF b) :: F) mS ⟨A2, cap2, by rw [hwl], ?_⟩
           rw [hwl, List.flatMap_append, List.flatMap_cons, List.flatMap_nil, List.append_nil])
        | trace_state
    · obtain ⟨n, rfl⟩ : ∃ m, n = m + 2 := ⟨n - 2, by omega⟩
      obtain ⟨i, hi, hs1, hs2, hs3, hs4⟩ := hstp n c hn
      have hway2 : wayF G b N a = (out ++ [K[i]]) ++ (tailF G b (n + 1) K[i] ++ [b]) := by
        rw [hway, show tailF G b (n + 2) c = K[i] :: tailF G b (n + 1) K[i] by rw [tailF, if_neg (by omega), hs1]]
        simp
      refine w_some (A := Ac) pK (by omega) fun gk hA => ?_
      subst hA
      have hUc := hUs c
      have hUlc := hUl c
      repeat' (first | ((with_reducible apply wl_v); exact rfl; (with_reducible apply v_lookup (enc := keyF) (k := c)); exact rfl; exact rfl; exact pK; exact hlc) | ((with_reducible apply wl_callin (f := 21)); exact rfl; exact rfl; exact hUc _ (MSub.trans hB mS); rintro _ _ ⟨Au, cu, rfl, rfl⟩) | refine sT ?_ | refine sS ?_ | refine sN ?_ | refine sM fun _ => ?_ | (refine sC ?_ ?_ <;> intro hb <;> try omega) | fail)
      all_goals first | (exfalso; omega) | skip
      have hnx : ∀ d, nextB G b (n + 1) c d = (decide (disF G b d = n + 1) && (usesG G c).any fun u => hasR u.rect d) := fun _ => rfl
      generalize usesG G c = U at hUlc hnx
      refine w_loopK [0, 5, 10, 11, 12, 13, 14, 50, 51] rfl (fun k : Nat => [(52, .int .i64 (k : Int))]) (fun _ => .own Au 45 6 U.length cu (U.flatMap encU) :: .own A 38 2 out.length cap (out.flatMap encF) :: .box g13 38 (encF c) :: .own (some gk) 38 2 K.length cc (K.flatMap encF) :: .obj gm (mobj keyF (lenM D) D.length) :: .box g5 38 (encF b) :: F) (fun k => k ≤ i) (fun k => K.length - k) 0 (Nat.zero_le _) sB mS ?_
      rintro k hki
      have hkl : k < K.length := by omega
      have hread := refF hkl
      have hlx := hlk K[k]
      have hnk := hnx K[k]
      have hct := fun g16 w' (hm : Mem w0 w' (.own Au 45 6 U.length cu (U.flatMap encU) :: .box g16 38 (encF K[k]) :: [])) => ContainsU_at 101 [.pointer (some ⟨g16, 0, none⟩)] (fun u => hasR u.rect K[k]) U (by omega) (sl Au U.length cu) w' (Reads.of_own hm .hd) (fun u w2 H2 hm2 => path1_at u K[k] g16 w2 (Ro.next (Ro.of_box hm (.tl .hd)) hm2))
      generalize hyU : (U.any fun u => hasR u.rect K[k]) = yes at hnk hct
      by_cases hke : k = i
      · subst hke
        have hpx := hs3.symm.trans hnk
        rw [hs2] at hlx
        have hyes : yes = true := by simpa [hs2] using hpx.symm
        rw [hyes] at hct
        have hgo := hway2
        have hfx := hs2
        have hlast : (((out ++ [K[k]]).flatMap encF).drop (0 + (out.length + 1 - 1) * 2)).take 2 = encF K[k] := by
          have h1 := refF (L := out ++ [K[k]]) (k := out.length) (by simp)
          rw [List.getElem_append_right (Nat.le_refl _)] at h1
          simpa using h1
        rw [List.flatMap_append, List.flatMap_cons, List.flatMap_nil, List.append_nil] at hlast
        generalize K[k] = x at hread hlx hct hgo hfx hlast
        repeat' (first | ((with_reducible apply wl_v); exact rfl; (with_reducible apply v_indexAddr (j := k)); exact rfl; exact rfl; exact hkl) | ((with_reducible apply wl_v); exact rfl; (with_reducible apply v_loads_own); exact rfl; exact pK; (first | exact hread | exact hlast); exact rfl) | ((with_reducible apply wl_v); exact rfl; (with_reducible apply v_indexAddr (j := out.length + 1 - 1)); exact rfl; exact rfl; omega) | ((with_reducible apply w_draw (id := 16)); kernel_rfl; kernel_rfl) | ((with_reducible apply wq_v); exact rfl; (with_reducible apply v_lookup (enc := keyF) (k := x)); exact rfl; exact rfl; exact pK; exact hlx) | ((with_reducible apply wq_v); exact rfl; (with_reducible apply v_lookup (enc := keyF) (k := c)); exact rfl; exact rfl; exact pK; exact hlc) | ((with_reducible apply wq_v); exact rfl; (with_reducible apply v_predN); exact rfl; exact rfl; omega; (simp only [maxLen]; omega)) | ((with_reducible apply wq_callp (f := 71)); exact rfl; exact rfl; (intro w' hm; exact hct _ w' (MSub.use mS hm))) | ((with_reducible apply wl_append); (iterate 3 exact rfl); (repeat first | exact .hd | apply Sel.tl | apply In.tl); (intro w hm; exact hm.cells_own (by (repeat first | exact .hd | apply Sel.tl | apply In.tl))); exact rfl; (simp [Value.oneCell', sl]); omega; (simp only [maxLen]; omega); (intro A2 cap2 hA2)) | refine sT ?_ | refine sS ?_ | refine sQ ?_ | refine sN ?_ | refine sNQ ?_ | refine sD ?_ | refine sM fun _ => ?_ | (refine sC ?_ ?_ <;> intro hb <;> try omega) | (refine sCQ ?_ ?_ <;> intro hb <;> try omega) | fail)
        all_goals first | (exfalso; omega) | skip
        refine wl_some (A := A2) pK (by omega) fun g2 hg2 => ?_
        subst hg2
        repeat' (first | ((with_reducible apply wl_v); exact rfl; (with_reducible apply v_indexAddr (j := out.length + 1 - 1)); exact rfl; exact rfl; omega) | ((with_reducible apply wl_v); exact rfl; (with_reducible apply v_loads_own); exact rfl; exact pK; exact hlast; exact rfl) | refine sT ?_ | refine sS ?_ | refine sN ?_ | refine sM fun _ => ?_ | (refine sC ?_ ?_ <;> intro hb <;> try omega) | fail)
        rename_i g13'
        all_goals first
          | (exfalso; omega)
          | (refine ⟨(x, out ++ [x], some g2, cap2, g13'), ⟨by dsimp only; omega, by dsimp only; rw [hfx]; exact hgo⟩, by dsimp only; omega, ?_, by exact sB, ?_⟩
             · dsimp only; rw [List.length_append]; exact sB
             · dsimp only; rw [List.length_append, List.flatMap_append, List.flatMap_cons, List.flatMap_nil, List.append_nil]; exact mS)
          | trace_state
      · have hnf := hs4 k hkl (by omega)
        rw [hnf] at hnk
        generalize K[k] = x at hread hlx hct hnk
        by_cases hfx : disF G b x = n + 1
        · have hno : yes = false := by simpa [hfx] using hnk.symm
          rw [hno] at hct
          rw [hfx] at hlx
          repeat' (first | ((with_reducible apply wl_v); exact rfl; (with_reducible apply v_indexAddr (j := k)); exact rfl; exact rfl; exact hkl) | ((with_reducible apply wl_v); exact rfl; (with_reducible apply v_loads_own); exact rfl; exact pK; exact hread; exact rfl) | ((with_reducible apply w_draw (id := 16)); kernel_rfl; kernel_rfl) | ((with_reducible apply wq_v); exact rfl; (with_reducible apply v_lookup (enc := keyF) (k := x)); exact rfl; exact rfl; exact pK; exact hlx) | ((with_reducible apply wq_v); exact rfl; (with_reducible apply v_lookup (enc := keyF) (k := c)); exact rfl; exact rfl; exact pK; exact hlc) | ((with_reducible apply wq_v); exact rfl; (with_reducible apply v_predN); exact rfl; exact rfl; omega; (simp only [maxLen]; omega)) | ((with_reducible apply wq_callp (f := 71)); exact rfl; exact rfl; (intro w' hm; exact hct _ w' (MSub.use mS hm))) | refine sT ?_ | refine sS ?_ | refine sQ ?_ | refine sN ?_ | refine sNQ ?_ | refine sD ?_ | refine sM fun _ => ?_ | (refine sC ?_ ?_ <;> intro hb <;> try omega) | (refine sCQ ?_ ?_ <;> intro hb <;> try omega) | fail)
          all_goals first
            | (exfalso; omega)
            | (refine ⟨k + 1, by omega, by omega, by exact sB, by exact sB, by exact mS⟩; done)
            | trace_state
        · have hne : ¬ ((disF G b x : Nat) : Int) = ((n + 2 - 1 : Nat) : Int) := by omega
          generalize disF G b x = fx at hlx hne
          repeat' (first | ((with_reducible apply wl_v); exact rfl; (with_reducible apply v_indexAddr (j := k)); exact rfl; exact rfl; exact hkl) | ((with_reducible apply wl_v); exact rfl; (with_reducible apply v_loads_own); exact rfl; exact pK; exact hread; exact rfl) | ((with_reducible apply w_draw (id := 16)); kernel_rfl; kernel_rfl) | ((with_reducible apply wq_v); exact rfl; (with_reducible apply v_lookup (enc := keyF) (k := x)); exact rfl; exact rfl; exact pK; exact hlx) | ((with_reducible apply wq_v); exact rfl; (with_reducible apply v_lookup (enc := keyF) (k := c)); exact rfl; exact rfl; exact pK; exact hlc) | ((with_reducible apply wq_v); exact rfl; (with_reducible apply v_predN); exact rfl; exact rfl; omega; (simp only [maxLen]; omega)) | ((with_reducible apply wq_callp (f := 71)); exact rfl; exact rfl; (intro w' hm; exact hct _ w' (MSub.use mS hm))) | refine sT ?_ | refine sS ?_ | refine sQ ?_ | refine sN ?_ | refine sNQ ?_ | refine sD ?_ | refine sM fun _ => ?_ | (refine sC ?_ ?_ <;> intro hb <;> try omega) | (refine sCQ ?_ ?_ <;> intro hb <;> try omega) | fail)
          all_goals first
            | (exfalso; omega)
            | (refine ⟨k + 1, by omega, by omega, by exact sB, by exact sB, by exact mS⟩; done)
            | trace_state
  · rw [if_neg hc0, decide_eq_false hc0, Bool.false_and]
    repeat' (first | ((with_reducible apply wl_callp (f := 88)); exact rfl; exact rfl; (intro w' hm; exact hck w' _ (Reads.of_own (A := some _) hm pK))) | refine sT ?_ | refine sS ?_ | refine sM fun _ => ?_ | (refine sC ?_ ?_ <;> intro hb <;> try omega) | fail)
    all_goals first
      | (exfalso; omega)
      | (exact ret3 eIO rfl rfl rfl rfl (H' := .own none 38 2 0 0 [] :: F) mS ⟨none, 0, rfl, rfl⟩)
      | trace_state
end Go.SL
namespace Go.SL
open Go Go.Proofs Go.Sort Go.Shelf
attribute [local irreducible] W WL WQ WG WA WX WLI WR WT WC WE VOp RW thn blk cutP scp retP retPP endB FnAt FnIn FnP ceP
def useRects (G:Gr) (c:Rf):List Rct:=(c::belowC G c).flatMap fun x=>(usesG G x).map fun u=>u.rect
def okRects (L M:List Rct):Bool:=decide (L.Pairwise fun x y=>ltOf orderRc x y=true) && (L.all fun r=>decide (r∈M)) && M.all fun r=>decide (r∈L)
theorem leaves_is {G:Gr} {c:Rf} {L:List Rct} (h:okRects L (useRects G c)=true):leavesF G c=L:=by
 unfold okRects at h
 simp only [Bool.and_eq_true,decide_eq_true_eq,List.all_eq_true] at h
 refine ext_ltRc (leavesF_sorted G c) h.1.1 fun r=> ?_
 have hm:r∈leavesF G c↔r∈useRects G c:=by
  unfold leavesF useRects
  rw [mem_cmpt,(sortRc_perm _).mem_iff,below_comp]
 rw [hm]
 exact ⟨h.2 r,h.1.2 r⟩
theorem rx_a1:aboveF exG [oneA 2 2]= [⟨1,3⟩,⟨1,4⟩]:=by rw [above_comp];decide+kernel
theorem rx_b1:belowF exG ⟨1,4⟩= [⟨1,3⟩]:=by rw [below_comp];decide+kernel
theorem rx_l1:leavesF exG ⟨1,4⟩= [⟨2,1,2,3⟩,⟨1,3,1,3⟩]:=leaves_is (by decide+kernel)
theorem rx_p1:pathF exG ⟨1,4⟩ ⟨2,2⟩= [⟨1,4⟩,⟨1,3⟩,⟨2,2⟩]:=by decide+kernel
theorem rx_r1:reachF exG ⟨1,4⟩ ⟨2,3⟩=true:=by rw [reach_comp];decide+kernel
theorem rx_r2:reachF exG ⟨1,4⟩ ⟨1,4⟩=false:=by rw [reach_comp];decide+kernel
end Go.SL
namespace Go.SL
open Go Go.Proofs
attribute [local irreducible] W WL WQ WG WA WX WLI WR WT WC WE VOp RW thn blk cutP scp retP retPP endB FnAt FnIn FnP ceP
theorem usesG_len2 {G:Gr} (hG:GrOk G) (d:Rf):(usesG G d).length≤1000:=Nat.le_trans (usesG_len hG d) (by decide)
structure Rdr (gg:Nat) (G:Gr) (B:List Blk) (w0:World):Prop where
 g:GrOk G
 l:G.length≤900
 ur: ∀ r H,MSub B H→FnIn Tryz.prog 16 [.pointer (some ⟨gg,0,none⟩),.agg (encR r).toArray] w0 H fun v H' => ∃ A cap,v=sl A (usersG G r).length cap∧H' = .own A 38 2 (usersG G r).length cap ((usersG G r).flatMap encF)::H
 fm: ∀ H,MSub B H→FnIn Tryz.prog 17 [.pointer (some ⟨gg,0,none⟩)] w0 H fun v H' => ∃ A cap,v=sl A (keysG G).length cap∧H' = .own A 38 2 (keysG G).length cap ((keysG G).flatMap encF)::H
 us: ∀ d H,MSub B H→FnIn Tryz.prog 21 [.pointer (some ⟨gg,0,none⟩),keyF d] w0 H fun v H' => ∃ A cap,v=sl A (usesG G d).length cap∧H' = .own A 45 6 (usesG G d).length cap ((usesG G d).flatMap encU)::H
section
variable {gg:Nat} {G:Gr} {B F:List Blk} {w0:World} (h:Rdr gg G B w0) (hB:MSub B F)
include h hB
theorem Rdr.above (L:List Rct) (hL:L.length≤1000) (lv:Value) (hrd: ∀ w,Mem w0 w F→Reads w lv L.length (L.flatMap encR)):
  FnIn Tryz.prog 46 [.pointer (some ⟨gg,0,none⟩),lv] w0 F fun v H' => ∃ A cap,v= .tuple #[sl A (aboveR G L).length cap,.int .i64 (checkR [] L)]∧H' = .own A 38 2 (aboveR G L).length cap ((aboveR G L).flatMap encF)::F:=Above_in gg G h.g h.l L hL lv B F hB w0 h.ur hrd
theorem Rdr.below (c:Rf):FnIn Tryz.prog 47 [.pointer (some ⟨gg,0,none⟩),keyF c] w0 F fun v H' => ∃ A cap,v= .tuple #[sl A (belowR G c).length cap,.int .i64 (checkR [c] [])]∧H' = .own A 38 2 (belowR G c).length cap ((belowR G c).flatMap encF)::F:=Below_in gg G h.g h.l c B F hB w0 h.fm h.us (usesG_len2 h.g)
theorem Rdr.leaves (c:Rf):FnIn Tryz.prog 48 [.pointer (some ⟨gg,0,none⟩),keyF c] w0 F fun v H' => ∃ A cap,v= .tuple #[sl A (leavesR G c).length cap,.int .i64 (checkR [c] [])]∧H' = .own A 24 4 (leavesR G c).length cap ((leavesR G c).flatMap encR)::F:=Leaves_in gg G h.g h.l c B F hB w0 h.fm h.us (usesG_len2 h.g)
theorem Rdr.reaches (a b:Rf):FnIn Tryz.prog 49 [.pointer (some ⟨gg,0,none⟩),keyF a,keyF b] w0 F fun v H' =>v= .tuple #[.bool (reachesR G a b),.int .i64 (checkR [a,b] [])]∧H' =F:=Reaches_in gg G h.g h.l a b B F hB w0 h.fm h.us (usesG_len2 h.g)
theorem Rdr.path (a b:Rf):FnIn Tryz.prog 50 [.pointer (some ⟨gg,0,none⟩),keyF a,keyF b] w0 F fun v H' => ∃ A cap,v= .tuple #[sl A (pathR G a b).length cap,.bool (pathB G a b),.int .i64 (checkR [a,b] [])]∧H' = .own A 38 2 (pathR G a b).length cap ((pathR G a b).flatMap encF)::F:=Path_in gg G h.g h.l a b B F hB w0 h.ur h.fm h.us (usesG_len2 h.g)
theorem Rdr.above_to {L:List Rct} {M:List Rf} {e:Int} (hM:aboveR G L=M) (he:checkR [] L=e) (hL:L.length≤1000) (lv:Value) (hrd: ∀ w,Mem w0 w F→Reads w lv L.length (L.flatMap encR)):
  FnIn Tryz.prog 46 [.pointer (some ⟨gg,0,none⟩),lv] w0 F fun v H' => ∃ A cap,v= .tuple #[sl A M.length cap,.int .i64 e]∧H' = .own A 38 2 M.length cap (M.flatMap encF)::F:=by
 subst hM he;exact h.above hB L hL lv hrd
theorem Rdr.below_to {c:Rf} {M:List Rf} {e:Int} (hM:belowR G c=M) (he:checkR [c] []=e):FnIn Tryz.prog 47 [.pointer (some ⟨gg,0,none⟩),keyF c] w0 F fun v H' => ∃ A cap,v= .tuple #[sl A M.length cap,.int .i64 e]∧H' = .own A 38 2 M.length cap (M.flatMap encF)::F:=by
 subst hM he;exact h.below hB c
theorem Rdr.leaves_to {c:Rf} {M:List Rct} {e:Int} (hM:leavesR G c=M) (he:checkR [c] []=e):FnIn Tryz.prog 48 [.pointer (some ⟨gg,0,none⟩),keyF c] w0 F fun v H' => ∃ A cap,v= .tuple #[sl A M.length cap,.int .i64 e]∧H' = .own A 24 4 M.length cap (M.flatMap encR)::F:=by
 subst hM he;exact h.leaves hB c
theorem Rdr.reaches_to {a b:Rf} {y:Bool} {e:Int} (hy:reachesR G a b=y) (he:checkR [a,b] []=e):FnIn Tryz.prog 49 [.pointer (some ⟨gg,0,none⟩),keyF a,keyF b] w0 F fun v H' =>v= .tuple #[.bool y,.int .i64 e]∧H' =F:=by
 subst hy he;exact h.reaches hB a b
theorem Rdr.path_to {a b:Rf} {M:List Rf} {y:Bool} {e:Int} (hM:pathR G a b=M) (hy:pathB G a b=y) (he:checkR [a,b] []=e):FnIn Tryz.prog 50 [.pointer (some ⟨gg,0,none⟩),keyF a,keyF b] w0 F fun v H' => ∃ A cap,v= .tuple #[sl A M.length cap,.bool y,.int .i64 e]∧H' = .own A 38 2 M.length cap (M.flatMap encF)::F:=by
 subst hM hy he;exact h.path hB a b
end
theorem GOk.rdr {R:List Blk} {E:List En} {clock:Nat} {G:Gr} (h:GOk R E clock G) (hG:GrOk G) (hl:G.length≤900) (gg gm:Nat) (w0:World):Rdr gg G (gB gg gm (E.map En.m) clock++R) w0:=
 ⟨hG,hl,fun r _ hs=>h.users_any gg gm hs w0 hl hG r,fun _ hs=>h.formulas_any gg gm hs w0 hl,fun d _ hs=>h.uses_any gg gm hs w0 d⟩
theorem Gp.rdr (x:Gp) {G:Gr} (h:x.ok G) (hl:G.length≤900) (w0:World):Rdr x.gg G x.H w0:=
 ⟨h.g,hl,fun r _ hs=>x.users G h hs w0 hl r,fun _ hs=>x.formulas G h hs w0 hl,fun d _ hs=>x.usesA G h hs w0 d⟩
theorem rx_A:aboveR exG [oneA 2 2]= [⟨1,3⟩,⟨1,4⟩]:=by rw [aboveR,if_pos (by decide+kernel)];exact rx_a1
theorem rx_B:belowR exG ⟨1,4⟩= [⟨1,3⟩]:=by rw [belowR,if_pos (by decide+kernel)];exact rx_b1
theorem rx_L:leavesR exG ⟨1,4⟩= [⟨2,1,2,3⟩,⟨1,3,1,3⟩]:=by rw [leavesR,if_pos (by decide+kernel)];exact rx_l1
theorem rx_P:pathR exG ⟨1,4⟩ ⟨2,2⟩= [⟨1,4⟩,⟨1,3⟩,⟨2,2⟩]:=by rw [pathR,if_pos (by decide+kernel)];exact rx_p1
theorem rx_PB:pathB exG ⟨1,4⟩ ⟨2,2⟩=true:=by decide+kernel
theorem rx_R:reachesR exG ⟨1,4⟩ ⟨2,3⟩=true:=by rw [reachesR,rx_r1];decide+kernel
theorem rx_R2:reachesR exG ⟨1,4⟩ ⟨1,4⟩=false:=by rw [reachesR,rx_r2,Bool.and_false]
theorem EqualRects_to {L M:List Rct} (h:L=M) {lv mv:Value} {w:World} (hl:Reads w lv L.length (L.flatMap encR)) (hm:Reads w mv M.length (M.flatMap encR)):Pure Tryz.prog 62 [lv,mv] w (.bool true):=by
 have:=EqualRects_at L M lv mv w hl hm
 rwa [decide_eq_true h] at this
set_option maxHeartbeats 4000000 in
theorem awake23_at (w:World) (hW:Words w):Pure Tryz.prog 53 [] w (.bool true):=by
 have hN: ∀ (w' :World) (H:List Blk) (tv:Value),Mem w w' H→Reads w' tv exL.length (exL.flatMap encEt)→FnAt Tryz.prog 38 [tv] w' fun v H=> ∃ gg gm E clock R,v= .tuple #[.pointer (some ⟨gg,0,none⟩),.int .i64 0]∧H=gB gg gm (E.map En.m) clock++R∧GOk R E clock exG:=by
  intro w' H tv hm ht
  have h1:=New_at exL tv w' ht (by decide) (hW.next hm)
  rw [ex_new] at h1
  exact h1
 refine fn_at Tryz.func53 rfl Tryz.ntmps53 rfl ?_
 repeat' (first|((with_reducible apply wl_call (f:=51));exact rfl;exact rfl;(intro w' hm;exact Example_at w');rintro _ _ ⟨ge,rfl,rfl⟩)|((with_reducible apply wl_call (f:=38));exact rfl;exact rfl;(intro w' hm;exact hN w' _ _ hm (Reads.of_own (A:=some _) hm pK));rintro _ _ ⟨gg,gm,E,clock,R,rfl,rfl,hG⟩;refine wl_subH (gB gg gm (E.map En.m) clock++R) (MSub.appL _ _) ?_)|((with_reducible apply wl_callp);exact rfl;exact rfl;(intro w hm;exact refL23_at _ _ w))|((with_reducible apply wl_callp);exact rfl;exact rfl;(intro w hm;exact One_at _ w))|((with_reducible apply wl_callin (f:=46));exact rfl;exact rfl;exact (hG.rdr exG_ok (by decide) gg gm w).above_to mS rx_A (by decide+kernel:_=(0:Int)) (by decide) _ (fun w' hm=>Reads.of_own (A:=some _) hm pK);rintro _ _ ⟨A1,c1,rfl,rfl⟩)|((with_reducible apply wl_callin (f:=47));exact rfl;exact rfl;exact (hG.rdr exG_ok (by decide) gg gm w).below_to mS rx_B (by decide+kernel:_=(0:Int));rintro _ _ ⟨A2,c2,rfl,rfl⟩)|((with_reducible apply wl_callin (f:=48));exact rfl;exact rfl;exact (hG.rdr exG_ok (by decide) gg gm w).leaves_to mS rx_L (by decide+kernel:_=(0:Int));rintro _ _ ⟨A3,c3,rfl,rfl⟩)|((with_reducible apply wl_callin (f:=50));exact rfl;exact rfl;exact (hG.rdr exG_ok (by decide) gg gm w).path_to mS rx_P rx_PB (by decide+kernel:_=(0:Int));rintro _ _ ⟨A4,c4,rfl,rfl⟩)|((with_reducible apply wl_callin (f:=49));exact rfl;exact rfl;exact (hG.rdr exG_ok (by decide) gg gm w).reaches_to (a:=⟨1,4⟩) (b:=⟨2,3⟩) mS rx_R (by decide+kernel:_=(0:Int));rintro _ _ ⟨rfl,rfl⟩)|((with_reducible apply wl_callin (f:=49));exact rfl;exact rfl;exact (hG.rdr exG_ok (by decide) gg gm w).reaches_to (a:=⟨1,4⟩) (b:=⟨1,4⟩) mS rx_R2 (by decide+kernel:_=(0:Int));rintro _ _ ⟨rfl,rfl⟩)|((with_reducible apply wl_callp (f:=34));exact rfl;exact rfl;(intro w' hm;exact EqualRefs_to rfl (Reads.of_own hm pK) (Reads.of_own (A:=some _) hm pK)))|((with_reducible apply wl_callp (f:=62));exact rfl;exact rfl;(intro w' hm;exact EqualRects_to rfl (Reads.of_own hm pK) (Reads.of_own (A:=some _) hm pK)))|refine sT ?_|refine sS ?_|refine sM fun _=> ?_|(refine sC ?_ ?_<;>intro hb<;>try omega)|fail)
 all_goals first
  |(exfalso;omega)
  |((refine rT1 ?_);rfl)
  |trace_state
end Go.SL
