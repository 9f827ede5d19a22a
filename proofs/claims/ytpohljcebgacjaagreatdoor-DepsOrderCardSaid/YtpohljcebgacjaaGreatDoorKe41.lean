/-
  Lemmas and walks, put together: L7.
-/
import Derived.Test.YtpohljcebgacjaaGreatDoorKe34
set_option linter.unusedSimpArgs false
set_option linter.unusedVariables false
set_option maxRecDepth 20000
namespace Go.SL
open Go Go.Proofs
attribute [local irreducible] W WL WQ WG WA WX WLI WR WT WC VOp RW thn blk cutP scp retP retPP endB FnAt FnIn FnP ceP
theorem MSub.app2 {A A' : List Blk} (X F : List Blk) (h : MSub A A') : MSub (F ++ A) ((X ++ F) ++ A') := by
 obtain ⟨R, hp⟩ := h
 refine ⟨X ++ R, ?_⟩
 have h1 : ((X ++ F) ++ A').Perm ((X ++ F) ++ (A ++ R)) := List.Perm.append_left _ hp
 refine h1.trans ?_
 have h2 : ((X ++ F) ++ (A ++ R)).Perm (X ++ ((F ++ A) ++ R)) := by simp only [List.append_assoc]; exact .refl _
 refine h2.trans ?_
 rw [← List.append_assoc (F ++ A) X R]
 refine (List.perm_append_comm_assoc X (F ++ A) R).trans ?_
 rw [List.append_assoc (F ++ A) X R]
theorem Gp.subR (x : Gp) {R : List Blk} (h : MSub x.R R) : MSub x.H ({ x with R := R } : Gp).H := by
 obtain ⟨T, hp⟩ := h
 refine ⟨T, ?_⟩
 have e : x.H ++ T = x.a ++ (x.b ++ (x.R ++ T)) := by
  unfold Gp.H
  simp only [List.append_assoc]
 rw [e]
 exact List.Perm.append_left _ (List.Perm.append_left _ hp)
theorem cs_perm (g F a b R : List Blk) : ((g ++ F) ++ (a ++ (b ++ R))).Perm (g ++ (R ++ (F ++ (a ++ b)))) := by
 rw [List.append_assoc]
 refine List.Perm.append_left g ?_
 have e : F ++ (a ++ (b ++ R)) = (F ++ (a ++ b)) ++ R := by simp only [List.append_assoc]
 rw [e]
 exact List.perm_append_comm
theorem Gp.copySet (x : Gp) (G : Gr) (gc gm2 : Nat) (E2 : List En) (clock2 : Nat) (h : GOk x.R E2 clock2 G) (c : Rf) (i : ByteArray) (F : List Blk) (w0 : World) (hW : Words w0) :
  FnIn Tryz.prog 27 [.pointer (some ⟨gc, 0, none⟩), keyF c, .string i] w0 ((gB gc gm2 (E2.map En.m) clock2 ++ F) ++ x.H) fun v H => v = .int .i64 (setG G c i).2 ∧ ∃ E3 clock3 R3, H = (gB gc gm2 (E3.map En.m) clock3 ++ F) ++ ({ x with R := R3 } : Gp).H ∧ MSub x.R R3 ∧ GOk R3 E3 clock3 (setG G c i).1 := by
 refine (FnIn.msub (Set_inF gc gm2 clock2 E2 G c i x.R (F ++ (x.a ++ x.b)) w0 h hW) (MSub.of_perm (cs_perm _ _ _ _ _))).re ?_
 rintro v H ⟨hv, E', clock', R', rfl, hs, hG⟩
 exact ⟨_, MSub.of_perm (cs_perm _ _ _ _ _).symm, hv, E', clock', R', rfl, hs, hG⟩
set_option maxHeartbeats 4000000 in
theorem later_in (x : Gp) (G : Gr) (hx : x.ok G) (L : List Pu) (hL : L.length ≤ 40) (lv : Value) (w0 : World) (hl : Reads w0 lv L.length (L.flatMap encPu)) (hW : Words w0) (i : Nat) (hi : i < L.length) (F : List Blk) :
    FnIn Tryz.prog 45 [.agg #[x.pa, x.pb], lv, .int .i64 (i : Int)] w0 (F ++ x.H) fun v H => v = .bool (laterP L[i] (L.drop (i + 1))) ∧ H = F ++ x.H := by
  obtain ⟨Al, cl, rfl, hl1, hl2, hl3⟩ := hl
  obtain ⟨gl, ol, rfl, hrl⟩ := hl3 (by omega)
  have hp := hrl.elem encPu_len i hi
  refine fn_in Tryz.func45 rfl Tryz.ntmps45 rfl ?_
  generalize hpi : L[i] = p at hp
  repeat' (first | refine sT ?_ | refine sS ?_ | refine sN ?_ | refine sM fun _ => ?_ | (refine sC ?_ ?_ <;> intro hb <;> try omega) | fail)
  rename_i g3
  refine w_loopK [1, 2, 3] rfl (fun k : Nat => [(7, .int .i64 (k : Int))]) (fun _ => .box g3 28 [x.pa, x.pb] :: (F ++ x.H)) (fun k => k ≤ L.length ∧ laterP p (L.drop (i + 1)) = laterP p (L.drop k)) (fun k => L.length - k) (i + 1) ⟨by omega, rfl⟩ sB mS ?_
  rintro k ⟨hk, hrec⟩
  by_cases hlt : k < L.length
  · have hq := hrl.elem encPu_len k hlt
    rw [List.drop_eq_getElem_cons hlt] at hrec
    generalize L[k] = q at hq hrec
    have hAp := fun w => puAt_at p w
    have hAq := fun w => puAt_at q w
    have hC := x.copyA G hx.a (.box g3 28 [x.pa, x.pb] :: F) w0
    have hS := fun (y : Gp) gc gm2 E2 clock2 (h : GOk y.R E2 clock2 G) => y.copySet G gc gm2 E2 clock2 h q.ref q.input (.box g3 28 [x.pa, x.pb] :: F) w0 hW
    have herr := setG_err G q
    rw [show laterP p (q :: L.drop (k + 1)) = ((decide (q.ref = p.ref) && accP q) || laterP p (L.drop (k + 1))) from rfl, show accP q = decide ((ofP q.input).2.2 = 0) from rfl, ← herr] at hrec
    generalize setG G q.ref q.input = sg at hS hrec
    obtain ⟨G', se⟩ := sg
    dsimp only at hS hrec
    obtain ⟨c, hc⟩ : ∃ c, decide (q.ref = p.ref) = c := ⟨_, rfl⟩
    rw [hc] at hrec
    repeat' (first | refine sT ?_ | refine sS ?_ | refine sN ?_ | refine sM fun _ => ?_ | (refine sC ?_ ?_ <;> intro hb <;> try omega) | fail)
    all_goals first | (exfalso; omega) | skip
    refine w_drawC (id := 4) [4, 9, 14, 19, 25] [] [.box g3 28 [x.pa, x.pb]] (by kernel_rfl) (by kernel_rfl) (by kernel_rfl) mS ?_
    cases c
    repeat' (first | ((with_reducible apply wc_v (d := 18)); (iterate 3 exact rfl); (with_reducible apply v_indexAddr (j := k)); exact rfl; exact rfl; exact hlt) | ((with_reducible apply wc_v (d := 23)); (iterate 3 exact rfl); (with_reducible apply v_indexAddr (j := i)); exact rfl; exact rfl; exact hi) | ((with_reducible apply wc_v (d := 33)); (iterate 3 exact rfl); (with_reducible apply v_indexAddr (j := k)); exact rfl; exact rfl; exact hlt) | ((with_reducible apply wc_v (d := 38)); (iterate 3 exact rfl); (with_reducible apply v_indexAddr (j := k)); exact rfl; exact rfl; exact hlt) | ((with_reducible apply wc_v (d := 19)); (iterate 3 exact rfl); (with_reducible apply v_loadw_ro); exact rfl; exact hq; exact rfl) | ((with_reducible apply wc_v (d := 24)); (iterate 3 exact rfl); (with_reducible apply v_loadw_ro); exact rfl; exact hp; exact rfl) | ((with_reducible apply wc_v (d := 34)); (iterate 3 exact rfl); (with_reducible apply v_loadw_ro); exact rfl; exact hq; exact rfl) | ((with_reducible apply wc_v (d := 40)); (iterate 3 exact rfl); (with_reducible apply v_loadf_ro (off := 2)); exact rfl; exact hq; exact rfl) | ((with_reducible apply wc_callp); (iterate 4 exact rfl); (intro w hm; exact hAq w)) | ((with_reducible apply wc_callp); (iterate 4 exact rfl); (intro w hm; exact hAp w)) | ((with_reducible apply wc_v (d := 26)); (iterate 3 exact rfl); (with_reducible apply v_eqlF_to); exact hc; exact rfl; exact rfl) | ((with_reducible apply wl_callin (f := 41)); exact rfl; exact rfl; exact FnIn.msub hC (MSub.refl _); rintro _ _ ⟨gc, gm2, E2, clock2, R2, rfl, rfl, hs2, hG2⟩) | ((with_reducible apply wl_callin (f := 27)); exact rfl; exact rfl; exact FnIn.msub (hS { x with R := R2 } gc gm2 E2 clock2 hG2) (MSub.refl _); rintro _ _ ⟨rfl, E3, clock3, R3, rfl, hs3, hG3⟩) | ((with_reducible apply wc_v (d := 42)); (iterate 3 exact rfl); (with_reducible apply v_eql); exact rfl; exact rfl) | refine sT ?_ | refine sS ?_ | refine sW ?_ | refine sN ?_ | refine sWN ?_ | refine sM fun _ => ?_ | (refine sC ?_ ?_ <;> intro hb <;> try omega) | (refine sCW ?_ ?_ <;> intro hb <;> try omega) | fail)
    all_goals first
      | (exfalso; omega)
      | (refine ⟨k + 1, ⟨hlt, ?_⟩, by omega, by exact sB, by exact sB, MSub.refl _⟩
         rw [hrec, Bool.false_and, Bool.false_or])
      | (refine ⟨k + 1, ⟨hlt, ?_⟩, by omega, by exact sB, by exact sB, MSub.app2 _ (.box g3 28 [x.pa, x.pb] :: F) (MSub.trans (x.subR hs2) (Gp.subR _ hs3))⟩
         rw [hrec, decide_eq_false hb, Bool.and_false, Bool.false_or])
      | (refine ret1 eIO rfl rfl (H' := F ++ x.H) (MSub.trans (MSub.drop .hd (MSub.refl (F ++ x.H))) (MSub.app2 (gB gc gm2 (E3.map En.m) clock3) (.box g3 28 [x.pa, x.pb] :: F) (MSub.trans (x.subR hs2) (Gp.subR _ hs3)))) ⟨?_, rfl⟩
         rw [hrec, decide_eq_true hb]; rfl)
  · rw [List.drop_eq_nil_of_le (show L.length ≤ k by omega)] at hrec
    repeat' (first | refine sT ?_ | refine sS ?_ | refine sN ?_ | refine sM fun _ => ?_ | (refine sC ?_ ?_ <;> intro hb <;> try omega) | fail)
    all_goals first
      | (exfalso; omega)
      | (refine ret1 eIO rfl rfl (H' := F ++ x.H) (MSub.drop .hd (MSub.refl _)) ⟨?_, rfl⟩
         rw [hrec]; rfl)
end Go.SL
