/-
  Lemmas and walks, put together: L5.
-/
import Derived.Test.YtpohljcebgacjaaGreatDoorKe34
set_option linter.unusedSimpArgs false
set_option linter.unusedVariables false
set_option maxRecDepth 20000
namespace Go.SL
open Go Go.Proofs
attribute [local irreducible] W WL WQ WG WA WX WLI WR WT WC VOp RW thn blk cutP scp retP retPP endB FnAt FnIn FnP ceP
theorem EqualEntries_to {L M : List Et} (h : L = M) {lv mv : Value} {w : World} (hl : Reads w lv L.length (L.flatMap encEt)) (hm : Reads w mv M.length (M.flatMap encEt)) : Pure Tryz.prog 40 [lv, mv] w (.bool true) := by
 have := EqualEntries_at L M lv mv w hl hm
 rwa [decide_eq_true h] at this
theorem news_perm (a b R1 R2 o : List Blk) : MSub (o ++ (a ++ (b ++ (R1 ++ R2)))) ((b ++ R2) ++ ((a ++ R1) ++ o)) := by
 refine MSub.of_perm ?_
 have e1 : ((b ++ R2) ++ ((a ++ R1) ++ o)).Perm (o ++ ((b ++ R2) ++ (a ++ R1))) := by
  rw [← List.append_assoc]
  exact List.perm_append_comm
 refine e1.trans (List.Perm.append_left o ?_)
 refine List.perm_append_comm.trans ?_
 simp only [List.append_assoc]
 exact (List.perm_append_comm_assoc R1 b R2).append_left a
set_option maxHeartbeats 4000000 in
theorem DepsNews_at (L : List Et) (tv : Value) (w : World) (ht : Reads w tv L.length (L.flatMap encEt)) (hW : Words w) :
  Pure Tryz.prog 5 [tv] w (.bool true) := by
 have ht' := ht
 obtain ⟨At, ct, rfl, ht1, ht2, ht3⟩ := ht
 refine fn_at Tryz.func5 rfl Tryz.ntmps5 rfl ?_
 have hcut := ht'.cut (lo := 0) (hi := min L.length 40) (sz := 3) (by omega) (by omega)
 generalize hm : min L.length 40 = m at hcut
 have hm2 : m ≤ 40 := by omega
 have hmL : m ≤ L.length := by omega
 have hl1 : (L.take m).length = m := by simp; omega
 have hl2 : ((L.flatMap encEt).drop (0 * 3)).take ((m - 0) * 3) = (L.take m).flatMap encEt := by
  rw [Nat.zero_mul, List.drop_zero, Nat.sub_zero, flat_take encEt_len]
 rw [hl2, Nat.sub_zero] at hcut
 generalize L.take m = M at hl1 hcut
 subst hl1
 have hC := fun (w' : World) (H : List Blk) (hm : Mem w w' H) => CopyEntries_at M _ w' (hcut.of_w0 hm) (by omega)
 have hN := fun (w' : World) (H : List Blk) (tv' : Value) (hm : Mem w w' H) (h : Reads w' tv' M.length (M.flatMap encEt)) => New_at M tv' w' h (by omega) (hW.next hm)
 have hR := fun (w' : World) (H : List Blk) (hm : Mem w w' H) => rNew_at M _ w' (hcut.of_w0 hm) (by omega)
 have hQ := fun (w' : World) (H : List Blk) (tv' : Value) (hm : Mem w w' H) (h : Reads w' tv' M.length (M.flatMap encEt)) => EqualEntries_to (rfl : M = M) h (hcut.of_w0 hm)
 have hG : ∀ G e, newG M = (some G, e) → GrOk G ∧ G.length ≤ 40 := by
  intro G e h
  rw [newG_eq] at h
  split at h
  ·
   cases h
  ·
   injection h with h1 h2
   injection h1 with h1
   subst h1
   have := foldS_len M []
   rw [List.length_nil] at this
   exact ⟨foldS_ok M grOk_nil, by omega⟩
 generalize newG M = ng at hN hR hG
 obtain ⟨go, e⟩ := ng
 cases go with
 | none =>
  repeat' (first | ((with_reducible apply wl_v); exact rfl; (with_reducible apply v_minN (a := L.length) (b := 40)); exact rfl; exact rfl; exact hm) | ((with_reducible apply wl_v); exact rfl; (with_reducible apply v_slice (lo := 0) (hi := M.length)); exact rfl; exact rfl; exact ⟨_, rfl⟩; omega; omega) | ((with_reducible apply wl_call (f := 37)); exact rfl; exact rfl; (intro w' hm; exact hC w' _ hm); (rintro v H' ⟨A1, c1, rfl, rfl⟩)) | ((with_reducible apply wl_call (f := 38)); exact rfl; exact rfl; (intro w' hm; exact hN w' _ _ hm (Reads.of_own hm pK)); (rintro v H' ⟨rfl, rfl⟩)) | ((with_reducible apply wl_call (f := 39)); exact rfl; exact rfl; (intro w' hm; exact hR w' _ hm); (rintro v H' ⟨rfl, rfl⟩)) | ((with_reducible apply wl_v); exact rfl; (with_reducible apply v_neq_same); exact rfl; exact rfl) | ((with_reducible apply wl_callp (f := 40)); exact rfl; exact rfl; (intro w' hm; exact hQ w' _ _ hm (Reads.of_own hm pK))) | ((with_reducible apply wl_callp (f := 26)); exact rfl; exact rfl; (intro w' hm; exact awake22_at w' (hW.next hm))) | refine sT ?_ | refine sS ?_ | refine sM fun _ => ?_ | (refine sC ?_ ?_ <;> intro hb <;> try omega) | fail)
  all_goals first
   | (exfalso; omega)
   | ((refine rT1 ?_); rfl)
   | trace_state
 | some G =>
  obtain ⟨hgo, hgl⟩ := hG G e rfl
  repeat' (first | ((with_reducible apply wl_v); exact rfl; (with_reducible apply v_minN (a := L.length) (b := 40)); exact rfl; exact rfl; exact hm) | ((with_reducible apply wl_v); exact rfl; (with_reducible apply v_slice (lo := 0) (hi := M.length)); exact rfl; exact rfl; exact ⟨_, rfl⟩; omega; omega) | ((with_reducible apply wl_call (f := 37)); exact rfl; exact rfl; (intro w' hm; exact hC w' _ hm); (rintro v H' ⟨A1, c1, rfl, rfl⟩)) | ((with_reducible apply wl_call (f := 38)); exact rfl; exact rfl; (intro w' hm; exact hN w' _ _ hm (Reads.of_own hm pK)); (rintro v H' ⟨gg, gm, E, clock, R1, rfl, rfl, hA⟩)) | ((with_reducible apply wl_call (f := 39)); exact rfl; exact rfl; (intro w' hm; exact hR w' _ hm); (rintro v H' ⟨gr, A2, c2, Q, R2, rfl, rfl, hB⟩); refine wl_subH ([.own A1 142 3 M.length c1 (M.flatMap encEt)] ++ (Gp.mk gg gm E clock gr A2 c2 Q (R1 ++ R2)).H) (news_perm _ _ _ _ _) ?_) | ((with_reducible apply wl_v); exact rfl; (with_reducible apply v_neq_same); exact rfl; exact rfl) | ((with_reducible apply wl_callp (f := 40)); exact rfl; exact rfl; (intro w' hm; exact hQ w' _ _ hm (Reads.of_own hm pK))) | ((with_reducible apply wl_callp (f := 26)); exact rfl; exact rfl; (intro w' hm; exact awake22_at w' (hW.next hm))) | ((with_reducible apply wl_callin (f := 36)); exact rfl; exact rfl; exact Same_in (Gp.mk gg gm E clock gr A2 c2 Q (R1 ++ R2)) G ⟨hA.sub (MSub.appL _ _), hB.sub (MSub.appR _ _), hgo⟩ (by omega) mS w; rintro _ _ ⟨rfl, rfl⟩) | refine sT ?_ | refine sS ?_ | refine sM fun _ => ?_ | (refine sC ?_ ?_ <;> intro hb <;> try omega) | fail)
  all_goals first
   | (exfalso; omega)
   | ((refine rT1 ?_); rfl)
   | trace_state
end Go.SL
