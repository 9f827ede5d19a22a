/-
  Lemmas and walks, put together: Rq.
-/
import Derived.Test.YtpohljcebgacjaaGreatDoorKr31
set_option linter.unusedSimpArgs false
set_option linter.unusedVariables false
set_option maxRecDepth 20000
namespace Go.SL
open Go Go.Proofs
attribute [local irreducible] W WL WQ WG WA WX WLI WR WT WC WE VOp RW thn blk cutP scp retP retPP endB FnAt FnIn FnP ceP
noncomputable def belK (G:Gr) (e:Rf × Option Nat × Nat):Blk:= .own e.2.1 38 2 (belowF G e.1).length e.2.2 ((belowF G e.1).flatMap encF)
noncomputable def belV (G:Gr) (e:Rf × Option Nat × Nat):Value:=sl e.2.1 (belowF G e.1).length e.2.2
theorem In.of_mem {b:Blk}: ∀ {H:List Blk},b∈H→In b H
 | [],h=>by cases h
 |a::H,h=>by
  by_cases e:b=a
  ·
   subst e;exact .hd
  ·
   exact .tl (In.of_mem (by rcases List.mem_cons.1 h with h|h;exact absurd h e;exact h))
theorem belV_read {G:Gr} {bs:List (Rf × Option Nat × Nat)} {i:Nat} {e:Rf × Option Nat × Nat} (h:bs[i]? =some e):(bs.map (belV G))[0+i*1]? =some (belV G e):=by
 rw [Nat.zero_add,Nat.mul_one,List.getElem?_map,h];rfl
theorem belK_reads {w0 w:World} {H:List Blk} {G:Gr} {e:Rf × Option Nat × Nat} (hm:Mem w0 w H) (hz:belK G e∈H):Reads w (belV G e) (belowF G e.1).length ((belowF G e.1).flatMap encF):=Reads.of_own hm (In.of_mem hz)
theorem has23_to {M:List Rf} {a:Rf} {y:Bool} (h:decide (a∈M)=y) {lv:Value} {w:World} (hl:Reads w lv M.length (M.flatMap encF)):Pure Tryz.prog 56 [lv,.agg (encF a).toArray] w (.bool y):=by
 have:=has23_at M a lv w hl
 rwa [h] at this
theorem ck_one {c:Rf} (hc:c.valid=true):checkR [c] []=0:=by
 unfold checkR
 rw [if_pos]
 simp [hc]
theorem ck_two {a b:Rf} (ha:a.valid=true) (hb:b.valid=true):checkR [a,b] []=0:=by
 unfold checkR
 rw [if_pos]
 simp [ha,hb]
theorem ck_rect {r:Rct} (hr:rectOk r=true):checkR [] [r]=0:=by
 unfold checkR
 rw [if_pos]
 simp [hr]
def leafTo (L:List Rct) (b:Rf) (n:Nat):Bool:=(L.take n).any fun r=>hasR r b
theorem leafTo_succ {L:List Rct} {b:Rf} {n:Nat} (h:n<L.length):leafTo L b (n+1)=(leafTo L b n||hasR L[n] b):=by
 unfold leafTo
 rw [List.take_succ_eq_append_getElem h,List.any_append]
 simp
noncomputable def madeTo (G:Gr) (K:List Rf) (a b:Rf) (n:Nat):Bool:=decide (a∈usersG G (oneA b.col b.row))||(K.take n).any fun d=>decide (a∈usersG G (oneA d.col d.row)) && decide (b∈belowF G d)
theorem madeTo_succ {G:Gr} {K:List Rf} {a b:Rf} {n:Nat} (h:n<K.length):madeTo G K a b (n+1)=(madeTo G K a b n||(decide (a∈usersG G (oneA K[n].col K[n].row)) && decide (b∈belowF G K[n]))):=by
 unfold madeTo
 rw [List.take_succ_eq_append_getElem h,List.any_append,Bool.or_assoc]
 simp
set_option maxHeartbeats 8000000 in
theorem ReachBoth_at (L : List Pu) (tv : Value) (w : World) (ht : Reads w tv L.length (L.flatMap encPu)) (hW : Words w) :
    Pure Tryz.prog 11 [tv] w (.bool true) := by
  have ht' := ht
  obtain ⟨At, ct, rfl, ht1, ht2, ht3⟩ := ht
  refine fn_at Tryz.func11 rfl Tryz.ntmps11 rfl ?_
  have hcut := ht'.cut (lo := 0) (hi := min L.length 25) (sz := 3) (by omega) (by omega)
  generalize hm : min L.length 25 = m at hcut
  have hm2 : m ≤ 25 := by omega
  have hmL : m ≤ L.length := by omega
  have hl1 : (L.take m).length = m := by simp; omega
  have hl2 : ((L.flatMap encPu).drop (0 * 3)).take ((m - 0) * 3) = (L.take m).flatMap encPu := by
    rw [Nat.zero_mul, List.drop_zero, Nat.sub_zero, flat_take encPu_len]
  rw [hl2, Nat.sub_zero] at hcut
  generalize L.take m = M at hl1 hcut
  subst hl1
  have hS := fun (w' : World) (H : List Blk) (hm : Mem w w' H) => StartP_at M _ w' (hcut.of_w0 hm) (hW.next hm)
  have hGl := startG_len M
  generalize startG M = G at hS hGl
  repeat' (first | ((with_reducible apply wl_v); exact rfl; (with_reducible apply v_minN (a := L.length) (b := 25)); exact rfl; exact rfl; exact hm) | ((with_reducible apply wl_v); exact rfl; (with_reducible apply v_slice (lo := 0) (hi := M.length)); exact rfl; exact rfl; exact ⟨_, rfl⟩; omega; omega) | ((with_reducible apply wl_call (f := 14)); exact rfl; exact rfl; (intro w' hm; exact hS w' _ hm); rintro _ _ ⟨x, rfl, rfl, hx⟩; refine wl_subH _ (MSub.appS _ _) ?_) | ((with_reducible apply wl_callin (f := 17)); exact rfl; exact rfl; exact x.formulas G hx mS w (by omega); rintro _ _ ⟨A5, c5, rfl, rfl⟩) | refine sT ?_ | refine sS ?_ | refine sJ ?_ | refine sM fun _ => ?_ | (refine sC ?_ ?_ <;> intro hb <;> try omega) | exact cT | fail)
  rename_i g3
  have hl' : G.length ≤ 900 := by omega
  have hg := hx.g
  have hrd := x.rdr hx hl' w
  have hU := fun (r : Rct) (H : List Blk) (hs : MSub x.H H) => x.users G hx hs w hl' r
  have hpa : x.pa = .pointer (some ⟨x.gg, 0, none⟩) := rfl
  obtain ⟨K, hK⟩ : ∃ K, K = keysG G := ⟨_, rfl⟩
  have hKl : K.length = G.length := by rw [hK, keysG, List.length_map]
  have hKv : ∀ c ∈ K, c.valid = true := fun c hc => key_valid hg (hK ▸ hc)
  have hKk : ∀ c ∈ K, c ∈ keysG G := fun c hc => hK ▸ hc
  rw [← hK]
  refine w_nilrow 32 1 ?_
  refine w_loopK [3, 5] rfl (fun y : Nat × List (Rf × Option Nat × Nat) × List Blk × Option Nat × Nat => [(6, sl y.2.2.2.1 y.2.1.length y.2.2.2.2), (7, .int .i64 (y.1 : Int))]) (fun y => .own y.2.2.2.1 32 1 y.2.1.length y.2.2.2.2 (y.2.1.map (belV G)) :: .own A5 38 2 K.length c5 (K.flatMap encF) :: .box g3 28 [x.pa, x.pb] :: y.2.2.1) (fun y => y.1 ≤ K.length ∧ y.2.1.map (fun e => e.1) = K.take y.1 ∧ MSub x.H y.2.2.1 ∧ ∀ e ∈ y.2.1, belK G e ∈ y.2.2.1) (fun y => K.length - y.1) (0, [], x.H, none, 0) ⟨Nat.zero_le _, rfl, MSub.refl _, fun _ h => by cases h⟩ sB mS ?_
  rintro ⟨i, bs, Z, A6, c6⟩ ⟨hi, hbs, hZ, hbZ⟩
  dsimp only at hi hbs hZ hbZ ⊢
  have hbl : bs.length = i := by
    have := congrArg List.length hbs
    rw [List.length_map, List.length_take] at this
    omega
  by_cases hlt : i < K.length
  · refine w_some (A := A5) pK (by omega) fun gk hA => ?_
    subst hA
    have hread := refF hlt
    have hcm : K[i] ∈ K := List.getElem_mem hlt
    have htk : ∀ (A : Option Nat) (c : Nat), (bs ++ [(K[i], A, c)]).map (fun e : Rf × Option Nat × Nat => e.1) = K.take (i + 1) := fun A c => by
      rw [List.map_append, hbs, List.take_succ_eq_append_getElem hlt]; rfl
    generalize K[i] = c at hread hcm htk
    have hb1 : belowR G c = belowF G c := by rw [belowR, if_pos (ck_one (hKv c hcm))]
    have hB8 := fun (H : List Blk) (hs : MSub x.H H) => hrd.below_to hs hb1 (ck_one (hKv c hcm))
    repeat' (first | refine sT ?_ | refine sS ?_ | refine sN ?_ | refine sM fun _ => ?_ | (refine sC ?_ ?_ <;> intro hb <;> try omega) | exact cT | fail)
    all_goals first | (exfalso; omega) | skip
    refine w_drawC (id := 9) [6] [] [.own (some gk) 38 2 K.length c5 (K.flatMap encF), .box g3 28 [x.pa, x.pb]] (by kernel_rfl) (by kernel_rfl) (by kernel_rfl) mS ?_
    repeat' (first | ((with_reducible apply wc_v); (iterate 3 exact rfl); (with_reducible apply v_indexAddr (j := i)); exact rfl; exact rfl; exact hlt) | ((with_reducible apply wc_v); (iterate 3 exact rfl); (with_reducible apply v_loads_own); exact rfl; exact pK; exact hread; exact rfl) | ((with_reducible apply wl_callin (f := 47)); exact rfl; exact rfl; exact hB8 _ (MSub.trans hZ mS); rintro _ _ ⟨A8, c8, rfl, rfl⟩) | ((with_reducible apply wl_append); (iterate 3 exact rfl); (repeat first | exact .hd | apply Sel.tl | apply In.tl); (intro w hm; exact hm.cells_own (by (repeat first | exact .hd | apply Sel.tl | apply In.tl))); exact rfl; (simp [Value.oneCell', sl]); omega; (simp only [maxLen]; omega); (intro A2 cap2 hA2)) | refine sT ?_ | refine sS ?_ | refine sW ?_ | refine sN ?_ | refine sWN ?_ | refine sM fun _ => ?_ | (refine sC ?_ ?_ <;> intro hb <;> try omega) | (refine sCW ?_ ?_ <;> intro hb <;> try omega) | exact cT | fail)
    all_goals first
      | (exfalso; omega)
      | (refine ⟨(i + 1, bs ++ [(c, A8, c8)], belK G (c, A8, c8) :: Z, A2, cap2), ⟨hlt, htk A8 c8, MSub.trans hZ (MSub.drop .hd (MSub.refl _)), fun e he => ?_⟩, by dsimp only; omega, ?_, by exact sB, ?_⟩
         · rcases List.mem_append.1 he with he | he
           · exact List.mem_cons_of_mem _ (hbZ e he)
           · rw [List.mem_singleton.1 he]; exact List.mem_cons_self
         · dsimp only; rw [List.length_append]; exact sB
         · dsimp only; rw [List.length_append, List.map_append]; exact mS)
      | trace_state
  · have hi2 : i = K.length := by omega
    subst hi2
    rw [List.take_length] at hbs
    have hbe : ∀ k (h : k < K.length), ∃ e, bs[k]? = some e ∧ e.1 = K[k] ∧ belK G e ∈ Z := fun k h => by
      have hk : k < bs.length := by omega
      refine ⟨bs[k], List.getElem?_eq_getElem hk, ?_, hbZ _ (List.getElem_mem hk)⟩
      have h2 : (bs.map fun e => e.1)[k]? = K[k]? := by rw [hbs]
      rw [List.getElem?_map, List.getElem?_eq_getElem hk, List.getElem?_eq_getElem h] at h2
      exact Option.some.inj h2
    repeat' (first | refine sT ?_ | refine sS ?_ | refine sN ?_ | refine sM fun _ => ?_ | (refine sC ?_ ?_ <;> intro hb <;> try omega) | exact cT | fail)
    all_goals first | (exfalso; omega) | skip
    have hKm : ∀ k (h : k < K.length), K[k] ∈ K := fun k h => List.getElem_mem h
    refine w_loopK [3, 5, 6] rfl (fun i : Nat => [(10, .int .i64 (i : Int))]) (fun _ => .own A6 32 1 bs.length c6 (bs.map (belV G)) :: .own A5 38 2 K.length c5 (K.flatMap encF) :: .box g3 28 [x.pa, x.pb] :: Z) (fun i => i ≤ K.length) (fun i => K.length - i) 0 (Nat.zero_le _) sB mS ?_
    rintro i hi
    by_cases hlt : i < K.length
    · refine w_some (A := A5) pK (by omega) fun gk hA => ?_
      subst hA
      refine w_some (A := A6) pK (by omega) fun g6 hA => ?_
      subst hA
      have hri := refF hlt
      have hcim := hKm i hlt
      obtain ⟨ei, hei, heiK, heiZ⟩ := hbe i hlt
      generalize K[i] = ci at hri hcim heiK
      have hciv := hKv ci hcim
      have hab : aboveR G [oneA ci.col ci.row] = aboveF G [oneA ci.col ci.row] := by rw [aboveR, if_pos (ck_rect (by rw [rect_one]; exact hciv))]
      have hA1 := fun (H : List Blk) (hs : MSub x.H H) => hrd.above_to hs hab (ck_rect (by rw [rect_one]; exact hciv)) (by simp)
      have hlv : leavesR G ci = leavesF G ci := by rw [leavesR, if_pos (ck_one hciv)]
      have hL1 := fun (H : List Blk) (hs : MSub x.H H) => hrd.leaves_to hs hlv (ck_one hciv)
      repeat' (first | refine sT ?_ | refine sS ?_ | refine sN ?_ | refine sM fun _ => ?_ | (refine sC ?_ ?_ <;> intro hb <;> try omega) | exact cT | fail)
      all_goals first | (exfalso; omega) | skip
      refine w_drawC (id := 16) [6, 7, 8] [] [.own (some gk) 38 2 K.length c5 (K.flatMap encF), .box g3 28 [x.pa, x.pb]] (by kernel_rfl) (by kernel_rfl) (by kernel_rfl) mS ?_
      repeat' (first | ((with_reducible apply wc_v); (iterate 3 exact rfl); (with_reducible apply v_indexAddr (j := i)); exact rfl; exact rfl; exact hlt) | ((with_reducible apply wc_v); (iterate 3 exact rfl); (with_reducible apply v_loads_own); exact rfl; exact pK; exact hri; exact rfl) | ((with_reducible apply wc_callp); (iterate 4 exact rfl); (intro w hm; exact One_at _ w)) | ((with_reducible apply wl_callin (f := 46)); exact rfl; exact rfl; exact hA1 _ (MSub.trans hZ mS) _ (fun w' hm => Reads.of_own (A := some _) hm pK); rintro _ _ ⟨A11, c11, rfl, rfl⟩) | refine sT ?_ | refine sS ?_ | refine sW ?_ | refine sN ?_ | refine sWN ?_ | refine sM fun _ => ?_ | (refine sC ?_ ?_ <;> intro hb <;> try omega) | (refine sCW ?_ ?_ <;> intro hb <;> try omega) | exact cT | fail)
      all_goals first | (exfalso; omega) | skip
      refine w_drawC (id := 17) [6] [] [.own (some gk) 38 2 K.length c5 (K.flatMap encF), .box g3 28 [x.pa, x.pb]] (by kernel_rfl) (by kernel_rfl) (by kernel_rfl) mS ?_
      repeat' (first | ((with_reducible apply wc_v); (iterate 3 exact rfl); (with_reducible apply v_indexAddr (j := i)); exact rfl; exact rfl; exact hlt) | ((with_reducible apply wc_v); (iterate 3 exact rfl); (with_reducible apply v_loads_own); exact rfl; exact pK; exact hri; exact rfl) | ((with_reducible apply wl_callin (f := 48)); exact rfl; exact rfl; exact hL1 _ (MSub.trans hZ mS); rintro _ _ ⟨A13, c13, rfl, rfl⟩) | refine sT ?_ | refine sS ?_ | refine sW ?_ | refine sN ?_ | refine sWN ?_ | refine sM fun _ => ?_ | (refine sC ?_ ?_ <;> intro hb <;> try omega) | (refine sCW ?_ ?_ <;> intro hb <;> try omega) | exact cT | fail)
      all_goals first | (exfalso; omega) | skip
      have hAB := fun d : Rf => above_reach (G := G) (a := d) (b := ci)
      have hLV := fun d : Rf => fun hd => reach_leaves (c := ci) (b := d) hg hd
      have hLl := leavesF_len (c := ci) hg.sort (usesG_len2 hg)
      generalize hAF : aboveF G [oneA ci.col ci.row] = AB at hAB
      generalize hLF : leavesF G ci = LV at hLV hLl
      refine w_loopK [3, 5, 6, 10, 11, 13] rfl (fun k : Nat => [(15, .int .i64 (k : Int))]) (fun _ => .own A13 24 4 LV.length c13 (LV.flatMap encR) :: .own A11 38 2 AB.length c11 (AB.flatMap encF) :: .own (some g6) 32 1 bs.length c6 (bs.map (belV G)) :: .own (some gk) 38 2 K.length c5 (K.flatMap encF) :: .box g3 28 [x.pa, x.pb] :: Z) (fun k => k ≤ K.length) (fun k => K.length - k) 0 (Nat.zero_le _) sB mS ?_
      rintro k hk
      by_cases hlk : k < K.length
      · have hrk := refF hlk
        have hckm := hKm k hlk
        obtain ⟨ek, hek, hekK, hekZ⟩ := hbe k hlk
        generalize K[k] = ck at hrk hckm hekK
        have hckv := hKv ck hckm
        have hrr : reachesR G ci ck = reachF G ci ck := by rw [reachesR, decide_eq_true (ck_two hciv hckv), Bool.true_and]
        have hR1 := fun (H : List Blk) (hs : MSub x.H H) => hrd.reaches_to hs hrr (ck_two hciv hckv)
        have hbi := below_reach (a := ci) (hKk ck hckm)
        have hbk := below_reach (a := ck) (hKk ci hcim)
        have hab1 := hAB ck
        have hlv1 := hLV ck hckv
        have hmd := made_iff hg (a := ci) (hKk ck hckm)
        have htr : ∀ d, reachF G ci ck = true → d ∈ belowF G ck → d ∈ belowF G ci := fun d h1 h2 => below_trans (of_decide_eq_true (hbi.trans h1)) h2
        generalize reachF G ci ck = y at hR1 hbi hlv1 hmd htr
        generalize reachF G ck ci = z at hbk hab1
        repeat' (first | refine sT ?_ | refine sS ?_ | refine sN ?_ | refine sM fun _ => ?_ | (refine sC ?_ ?_ <;> intro hb <;> try omega) | exact cT | fail)
        all_goals first | (exfalso; omega) | skip
        refine w_drawC (id := 23) [10] [] [.own (some gk) 38 2 K.length c5 (K.flatMap encF), .box g3 28 [x.pa, x.pb]] (by kernel_rfl) (by kernel_rfl) (by kernel_rfl) mS ?_
        repeat' (first | ((with_reducible apply wc_v (d := 104)); (iterate 3 exact rfl); (with_reducible apply v_indexAddr (j := i)); exact rfl; exact rfl; exact hlt) | ((with_reducible apply wc_v (d := 105)); (iterate 3 exact rfl); (with_reducible apply v_loads_own); exact rfl; exact pK; exact hri; exact rfl) | ((with_reducible apply wc_v (d := 108)); (iterate 3 exact rfl); (with_reducible apply v_indexAddr (j := k)); exact rfl; exact rfl; exact hlk) | ((with_reducible apply wc_v (d := 109)); (iterate 3 exact rfl); (with_reducible apply v_loads_own); exact rfl; exact pK; exact hrk; exact rfl) | ((with_reducible apply wl_callin (f := 49)); exact rfl; exact rfl; exact hR1 _ (MSub.trans hZ mS); rintro _ _ ⟨rfl, rfl⟩) | refine sT ?_ | refine sS ?_ | refine sW ?_ | refine sN ?_ | refine sWN ?_ | refine sM fun _ => ?_ | (refine sC ?_ ?_ <;> intro hb <;> try omega) | (refine sCW ?_ ?_ <;> intro hb <;> try omega) | exact cT | fail)
        all_goals first | (exfalso; omega) | skip
        refine w_loopK [3, 5, 6, 10, 11, 13, 15, 16, 17] rfl (fun v : Nat × Bool => [(18, .bool v.2), (19, .int .i64 (v.1 : Int))]) (fun _ => .own A13 24 4 LV.length c13 (LV.flatMap encR) :: .own A11 38 2 AB.length c11 (AB.flatMap encF) :: .own (some g6) 32 1 bs.length c6 (bs.map (belV G)) :: .own (some gk) 38 2 K.length c5 (K.flatMap encF) :: .box g3 28 [x.pa, x.pb] :: Z) (fun v => v.1 ≤ LV.length ∧ v.2 = leafTo LV ck v.1) (fun v => LV.length - v.1) (0, false) ⟨Nat.zero_le _, rfl⟩ sB mS ?_
        rintro ⟨n, lf⟩ ⟨hn, hlf⟩
        dsimp only at hn hlf ⊢
        by_cases hln : n < LV.length
        · refine w_some (A := A13) pK (by omega) fun gl hA => ?_
          subst hA
          have hrl := refR hln
          have hls := leafTo_succ (b := ck) hln
          generalize LV[n] = r at hrl hls
          rw [← hlf] at hls
          have hHas := fun w => Has_at r ck w
          generalize hasR r ck = h at hHas hls
          cases lf
          · repeat' (first | ((with_reducible apply w_draw (id := 28)); kernel_rfl; kernel_rfl) | ((with_reducible apply wq_v (d := 123)); exact rfl; (with_reducible apply v_indexAddr (j := n)); exact rfl; exact rfl; exact hln) | ((with_reducible apply wq_v (d := 124)); exact rfl; (with_reducible apply v_loads_own); exact rfl; exact pK; exact hrl; exact rfl) | ((with_reducible apply wq_v (d := 127)); exact rfl; (with_reducible apply v_indexAddr (j := k)); exact rfl; exact rfl; exact hlk) | ((with_reducible apply wq_v (d := 128)); exact rfl; (with_reducible apply v_loads_own); exact rfl; exact pK; exact hrk; exact rfl) | ((with_reducible apply wq_callp (f := 55)); exact rfl; exact rfl; (intro w' _; exact hHas w')) | refine sT ?_ | refine sS ?_ | refine sQ ?_ | refine sN ?_ | refine sNQ ?_ | refine sD ?_ | refine sM fun _ => ?_ | (refine sC ?_ ?_ <;> intro hb <;> try omega) | (refine sCQ ?_ ?_ <;> intro hb <;> try omega) | exact cT | fail)
            all_goals first
              | (exfalso; omega)
              | (refine ⟨(n + 1, h), ⟨hln, by dsimp only; rw [hls, Bool.false_or]⟩, by dsimp only; omega, by exact sB, by exact sB, by exact mS⟩; done)
              | trace_state
          · repeat' (first | ((with_reducible apply w_draw (id := 28)); kernel_rfl; kernel_rfl) | refine sT ?_ | refine sS ?_ | refine sQ ?_ | refine sN ?_ | refine sNQ ?_ | refine sD ?_ | refine sM fun _ => ?_ | (refine sC ?_ ?_ <;> intro hb <;> try omega) | (refine sCQ ?_ ?_ <;> intro hb <;> try omega) | exact cT | fail)
            all_goals first
              | (exfalso; omega)
              | (refine ⟨(n + 1, true), ⟨hln, by dsimp only; rw [hls, Bool.true_or]⟩, by dsimp only; omega, by exact sB, by exact sB, by exact mS⟩; done)
              | trace_state
        · have hn2 : n = LV.length := by omega
          subst hn2
          rw [leafTo, List.take_length, hlv1] at hlf
          subst hlf
          have hU20 := hU (oneA ck.col ck.row)
          have hm0 : madeTo G K ci ck 0 = decide (ci ∈ usersG G (oneA ck.col ck.row)) := by simp [madeTo]
          have hmS := fun n (h : n < K.length) => madeTo_succ (G := G) (a := ci) (b := ck) h
          have hmE : madeTo G K ci ck K.length = lf := by rw [madeTo, List.take_length, hK]; exact hmd
          generalize hmt : madeTo G K ci ck = mt at hm0 hmS hmE
          generalize usersG G (oneA ck.col ck.row) = U20 at hU20 hm0
          have hh20 := fun lv w hl => has23_to (M := U20) (a := ci) hm0.symm (lv := lv) (w := w) hl
          repeat' (first | refine sT ?_ | refine sS ?_ | refine sN ?_ | refine sM fun _ => ?_ | (refine sC ?_ ?_ <;> intro hb <;> try omega) | exact cT | fail)
          all_goals first | (exfalso; omega) | skip
          refine w_drawC (id := 29) [6, 7] [] [.own (some gk) 38 2 K.length c5 (K.flatMap encF), .box g3 28 [x.pa, x.pb]] (by kernel_rfl) (by kernel_rfl) (by kernel_rfl) mS ?_
          repeat' (first | ((with_reducible apply wc_v); (iterate 3 exact rfl); (with_reducible apply v_indexAddr (j := k)); exact rfl; exact rfl; exact hlk) | ((with_reducible apply wc_v); (iterate 3 exact rfl); (with_reducible apply v_loads_own); exact rfl; exact pK; exact hrk; exact rfl) | ((with_reducible apply wc_callp); (iterate 4 exact rfl); (intro w hm; exact One_at _ w)) | ((with_reducible apply wl_callin (f := 16)); exact rfl; exact rfl; exact hU20 _ (MSub.trans hZ mS); rintro _ _ ⟨A20, c20, rfl, rfl⟩) | ((with_reducible apply wl_v (d := 142)); exact rfl; (with_reducible apply v_indexAddr (j := i)); exact rfl; exact rfl; exact hlt) | ((with_reducible apply wl_v (d := 143)); exact rfl; (with_reducible apply v_loads_own); exact rfl; exact pK; exact hri; exact rfl) | ((with_reducible apply wl_callp (f := 56)); exact rfl; exact rfl; (intro w' hm; exact hh20 _ w' (Reads.of_own hm pK))) | refine sT ?_ | refine sS ?_ | refine sW ?_ | refine sN ?_ | refine sWN ?_ | refine sM fun _ => ?_ | (refine sC ?_ ?_ <;> intro hb <;> try omega) | (refine sCW ?_ ?_ <;> intro hb <;> try omega) | exact cT | fail)
          all_goals first | (exfalso; omega) | skip
          refine w_loopK [3, 5, 6, 10, 11, 13, 15, 16, 17, 18] rfl (fun v : Nat × Bool => [(21, .bool v.2), (22, .int .i64 (v.1 : Int))]) (fun _ => .own A13 24 4 LV.length c13 (LV.flatMap encR) :: .own A11 38 2 AB.length c11 (AB.flatMap encF) :: .own (some g6) 32 1 bs.length c6 (bs.map (belV G)) :: .own (some gk) 38 2 K.length c5 (K.flatMap encF) :: .box g3 28 [x.pa, x.pb] :: Z) (fun v => v.1 ≤ K.length ∧ v.2 = mt v.1) (fun v => K.length - v.1) (0, mt 0) ⟨Nat.zero_le _, rfl⟩ sB mS ?_
          rintro ⟨n, mv⟩ ⟨hn, hmv⟩
          dsimp only at hn hmv ⊢
          by_cases hln : n < K.length
          · have hrn := refF hln
            have hdm := hKm n hln
            have hms := hmS n hln
            obtain ⟨en, hen, henK, henZ⟩ := hbe n hln
            generalize K[n] = d at hrn hdm henK hms
            rw [← hmv, ← hmt] at hms
            have hUd := hU (oneA d.col d.row)
            obtain ⟨p1, hp1⟩ : ∃ p1, decide (ci ∈ usersG G (oneA d.col d.row)) = p1 := ⟨_, rfl⟩
            obtain ⟨q1, hq1⟩ : ∃ q1, decide (ck ∈ belowF G d) = q1 := ⟨_, rfl⟩
            obtain ⟨q2, hq2⟩ : ∃ q2, decide (d ∈ belowF G ck) = q2 := ⟨_, rfl⟩
            obtain ⟨q3, hq3⟩ : ∃ q3, decide (d ∈ belowF G ci) = q3 := ⟨_, rfl⟩
            have htr' : lf = true → q2 = true → q3 = true := fun h1 h2 => by
              rw [← hq3, decide_eq_true_eq]
              exact htr d h1 (of_decide_eq_true (hq2.trans h2))
            rw [hp1, hq1, hmt] at hms
            have hh21 := fun lv w hl => has23_to (M := usersG G (oneA d.col d.row)) (a := ci) hp1 (lv := lv) (w := w) hl
            generalize usersG G (oneA d.col d.row) = U21 at hUd hh21
            clear hp1
            have hq1' : decide (ck ∈ belowF G en.1) = q1 := by rw [henK]; exact hq1
            have hq2' : decide (d ∈ belowF G ek.1) = q2 := by rw [hekK]; exact hq2
            have hq3' : decide (d ∈ belowF G ei.1) = q3 := by rw [heiK]; exact hq3
            repeat' (first | refine sT ?_ | refine sS ?_ | refine sN ?_ | refine sM fun _ => ?_ | (refine sC ?_ ?_ <;> intro hb <;> try omega) | exact cT | fail)
            all_goals first | (exfalso; omega) | skip
            refine w_cutGH [3, 5, 6, 10, 11, 13, 15, 16, 17, 18, 22] rfl (fun m' : Bool => [(21, .bool m')]) (fun m' => m' = mt (n + 1)) ?_ ?_
            rotate_left
            · rintro m' rfl
              clear hmv hms hh21 hUd
              cases lf <;> cases q2
              all_goals (try (have hq := htr' rfl rfl; subst hq))
              all_goals (
                repeat' (first | ((with_reducible apply w_draw (id := 35)); kernel_rfl; kernel_rfl) | ((with_reducible apply wq_v (d := 182)); exact rfl; (with_reducible apply v_indexAddr (j := k)); exact rfl; exact rfl; omega) | ((with_reducible apply wq_v (d := 183)); exact rfl; (with_reducible apply v_load_own); exact rfl; exact pK; exact belV_read hek) | ((with_reducible apply wq_v (d := 186)); exact rfl; (with_reducible apply v_indexAddr (j := n)); exact rfl; exact rfl; exact hln) | ((with_reducible apply wq_v (d := 187)); exact rfl; (with_reducible apply v_loads_own); exact rfl; exact pK; exact hrn; exact rfl) | ((with_reducible apply wq_v (d := 193)); exact rfl; (with_reducible apply v_indexAddr (j := i)); exact rfl; exact rfl; omega) | ((with_reducible apply wq_v (d := 194)); exact rfl; (with_reducible apply v_load_own); exact rfl; exact pK; exact belV_read hei) | ((with_reducible apply wq_v (d := 197)); exact rfl; (with_reducible apply v_indexAddr (j := n)); exact rfl; exact rfl; exact hln) | ((with_reducible apply wq_v (d := 198)); exact rfl; (with_reducible apply v_loads_own); exact rfl; exact pK; exact hrn; exact rfl) | ((with_reducible apply wq_callp (f := 56) (d := 188)); exact rfl; exact rfl; (intro w' hm; exact has23_to hq2' (belK_reads hm (by repeat (first | exact hekZ | apply List.mem_cons_of_mem))))) | ((with_reducible apply wq_callp (f := 56) (d := 199)); exact rfl; exact rfl; (intro w' hm; exact has23_to hq3' (belK_reads hm (by repeat (first | exact heiZ | apply List.mem_cons_of_mem))))) | refine sT ?_ | refine sS ?_ | refine sQ ?_ | refine sN ?_ | refine sNQ ?_ | refine sD ?_ | refine sM fun _ => ?_ | (refine sC ?_ ?_ <;> intro hb <;> try omega) | (refine sCQ ?_ ?_ <;> intro hb <;> try omega) | exact cT | fail)
                )
              all_goals first
                | (exfalso; omega)
                | (refine ⟨(n + 1, mt (n + 1)), ⟨hln, rfl⟩, by dsimp only; omega, by exact sB, by exact sB, by exact mS⟩; done)
                | trace_state
            refine w_drawC (id := 34) [8, 9, 14, 24] [] [.own (some g6) 32 1 bs.length c6 (bs.map (belV G)), .own (some gk) 38 2 K.length c5 (K.flatMap encF), .box g3 28 [x.pa, x.pb]] (by kernel_rfl) (by kernel_rfl) (by kernel_rfl) mS ?_
            cases mv <;> cases p1
            all_goals simp only [Bool.true_or, Bool.false_or, Bool.true_and, Bool.false_and] at hms
            all_goals (
              repeat' (first | ((with_reducible apply wc_v (d := 157)); (iterate 3 exact rfl); (with_reducible apply v_indexAddr (j := n)); exact rfl; exact rfl; exact hln) | ((with_reducible apply wc_v (d := 158)); (iterate 3 exact rfl); (with_reducible apply v_loads_own); exact rfl; exact pK; exact hrn; exact rfl) | ((with_reducible apply wc_v (d := 163)); (iterate 3 exact rfl); (with_reducible apply v_indexAddr (j := i)); exact rfl; exact rfl; exact hlt) | ((with_reducible apply wc_v (d := 164)); (iterate 3 exact rfl); (with_reducible apply v_loads_own); exact rfl; exact pK; exact hri; exact rfl) | ((with_reducible apply wc_v (d := 169)); (iterate 3 exact rfl); (with_reducible apply v_indexAddr (j := n)); exact rfl; exact rfl; omega) | ((with_reducible apply wc_v (d := 170)); (iterate 3 exact rfl); (with_reducible apply v_load_own); exact rfl; exact pK; exact belV_read hen) | ((with_reducible apply wc_v (d := 173)); (iterate 3 exact rfl); (with_reducible apply v_indexAddr (j := k)); exact rfl; exact rfl; exact hlk) | ((with_reducible apply wc_v (d := 174)); (iterate 3 exact rfl); (with_reducible apply v_loads_own); exact rfl; exact pK; exact hrk; exact rfl) | ((with_reducible apply wc_callp); (iterate 4 exact rfl); (intro w hm; exact One_at _ w)) | ((with_reducible apply wl_callin (f := 16)); exact rfl; exact rfl; exact hUd _ (MSub.trans hZ mS); rintro _ _ ⟨A21, c21, rfl, rfl⟩) | ((with_reducible apply wl_callp (f := 56)); exact rfl; exact rfl; (intro w' hm; exact hh21 _ w' (Reads.of_own hm .hd))) | ((with_reducible apply wl_callp (f := 56)); exact rfl; exact rfl; (intro w' hm; exact has23_to hq1' (belK_reads hm (by repeat (first | exact henZ | apply List.mem_cons_of_mem))))) | refine sT ?_ | refine sS ?_ | refine sW ?_ | refine sN ?_ | refine sWN ?_ | refine sM fun _ => ?_ | (refine sC ?_ ?_ <;> intro hb <;> try omega) | (refine sCW ?_ ?_ <;> intro hb <;> try omega) | exact cT | fail)
              )
            all_goals first
              | (exfalso; omega)
              | (refine cut_n _ hms.symm sB mS; done)
              | trace_state
          · have hn3 : n = K.length := by omega
            subst hn3
            rw [hmE] at hmv
            subst hmv
            have hbi' : decide (ck ∈ belowF G ei.1) = mv := by rw [heiK]; exact hbi
            have hbk' : decide (ci ∈ belowF G ek.1) = z := by rw [hekK]; exact hbk
            repeat' (first | ((with_reducible apply w_draw (id := 37)); kernel_rfl; kernel_rfl) | ((with_reducible apply wq_v (d := 208)); exact rfl; (with_reducible apply v_indexAddr (j := i)); exact rfl; exact rfl; omega) | ((with_reducible apply wq_v (d := 209)); exact rfl; (with_reducible apply v_load_own); exact rfl; exact pK; exact belV_read hei) | ((with_reducible apply wq_v (d := 212)); exact rfl; (with_reducible apply v_indexAddr (j := k)); exact rfl; exact rfl; exact hlk) | ((with_reducible apply wq_v (d := 213)); exact rfl; (with_reducible apply v_loads_own); exact rfl; exact pK; exact hrk; exact rfl) | ((with_reducible apply wq_v (d := 231)); exact rfl; (with_reducible apply v_indexAddr (j := k)); exact rfl; exact rfl; exact hlk) | ((with_reducible apply wq_v (d := 232)); exact rfl; (with_reducible apply v_loads_own); exact rfl; exact pK; exact hrk; exact rfl) | ((with_reducible apply wq_v (d := 236)); exact rfl; (with_reducible apply v_indexAddr (j := k)); exact rfl; exact rfl; omega) | ((with_reducible apply wq_v (d := 237)); exact rfl; (with_reducible apply v_load_own); exact rfl; exact pK; exact belV_read hek) | ((with_reducible apply wq_v (d := 240)); exact rfl; (with_reducible apply v_indexAddr (j := i)); exact rfl; exact rfl; exact hlt) | ((with_reducible apply wq_v (d := 241)); exact rfl; (with_reducible apply v_loads_own); exact rfl; exact pK; exact hri; exact rfl) | ((with_reducible apply wq_callp (f := 56) (d := 214)); exact rfl; exact rfl; (intro w' hm; exact has23_to hbi' (belK_reads hm (by repeat (first | exact heiZ | apply List.mem_cons_of_mem))))) | ((with_reducible apply wq_callp (f := 56) (d := 233)); exact rfl; exact rfl; (intro w' hm; exact has23_to hab1 (Reads.of_own hm pK))) | ((with_reducible apply wq_callp (f := 56) (d := 242)); exact rfl; exact rfl; (intro w' hm; exact has23_to hbk' (belK_reads hm (by repeat (first | exact hekZ | apply List.mem_cons_of_mem))))) | ((with_reducible apply wq_v); exact rfl; (with_reducible apply v_neqb_alike); exact rfl; exact rfl) | refine sT ?_ | refine sS ?_ | refine sQ ?_ | refine sN ?_ | refine sNQ ?_ | refine sD ?_ | refine sM fun _ => ?_ | (refine sC ?_ ?_ <;> intro hb <;> try omega) | (refine sCQ ?_ ?_ <;> intro hb <;> try omega) | exact cT | fail)
            all_goals first
              | (exfalso; omega)
              | (refine ⟨k + 1, hlk, by omega, by exact sB, by exact sB, by exact mS⟩; done)
              | trace_state
      · have hk2 : k = K.length := by omega
        subst hk2
        repeat' (first | refine sT ?_ | refine sS ?_ | refine sN ?_ | refine sM fun _ => ?_ | (refine sC ?_ ?_ <;> intro hb <;> try omega) | exact cT | fail)
        all_goals first
          | (exfalso; omega)
          | (refine ⟨i + 1, hlt, by omega, by exact sB, by exact sB, by exact mS⟩; done)
          | trace_state
    · have hi2 : i = K.length := by omega
      subst hi2
      repeat' (first | ((with_reducible apply wl_callp (f := 53)); exact rfl; exact rfl; (intro w' hm; exact awake23_at w' (hW.next hm))) | refine sT ?_ | refine sS ?_ | refine sN ?_ | refine sM fun _ => ?_ | (refine sC ?_ ?_ <;> intro hb <;> try omega) | exact cT | fail)
      all_goals first
        | (exfalso; omega)
        | ((refine rT1 ?_); rfl)
        | trace_state
end Go.SL
