/-
  Lemmas and walks, put together: Q12 Q13 Q14 Q15 Ex L1 G1 L2 Lo Fd.
-/
import Derived.OpenShut
import Derived.ProofKit
import Derived.Carry
import Derived.Deep.Slices
import Derived.Test.YtpohljcebgacjaaGreatDoorRows
import Derived.Test.YtpohljcebgacjaaGreatDoorKr25
set_option linter.unusedSimpArgs false
set_option linter.unusedVariables false
set_option maxRecDepth 20000
namespace Go.SL
open Go Go.Proofs
attribute [local irreducible] W WL WQ WG WA WX WLI WR WT WC VOp RW thn blk cutP scp retP retPP endB FnAt FnIn FnP ceP
theorem encQ_cell {L:List En} {i:Nat} (h:i<L.length):((L.flatMap encQ).drop (0+i*4+0)).take 2=encF L[i].at_:=by
 have he:=congrArg (List.take 2) (flat_elem encQ_len L i h)
 rw [List.take_take] at he
 rw [Nat.zero_add]
 exact he
theorem encQ_all {L:List En} {i:Nat} (h:i<L.length):((L.flatMap encQ).drop (0+i*4)).take 4=encQ L[i]:=by
 rw [Nat.zero_add];exact flat_elem encQ_len L i h
theorem usesE_len' (L:List Nd):(usesE L).1.length≤L.length:=by
 unfold usesE
 split
 ·
  exact Nat.zero_le _
 ·
  exact usesFrom_len L 0
set_option maxHeartbeats 4000000 in
theorem rSet_inF (g : Nat) (A : Option Nat) (cap : Nat) (L : List En) (G : Gr) (a : Rf) (b : ByteArray) (R F : List Blk) (w0 : World) (hR : RGOk R L G) (hs : SortG G) (hlen : L.length ≤ 1000) :
    FnIn Tryz.prog 28 [.pointer (some ⟨g, 0, none⟩), keyF a, .string b] w0 (rgB g A cap L ++ (R ++ F)) fun v H => v = .int .i64 (setG G a b).2 ∧ ∃ A' cap' L' R', H = rgB g A' cap' L' ++ (R' ++ F) ∧ MSub R R' ∧ RGOk R' L' (setG G a b).1 := by
  refine fn_in Tryz.func28 rfl Tryz.ntmps28 rfl ?_
  have hV := fun (w' : World) => (refValid_at a.col a.row w' : Pure Tryz.prog 76 [keyF a] w' (.bool (valid a.col a.row)))
  have hO := fun (w' : World) => refOf_at b w'
  unfold setG
  by_cases hv : a.valid = false
  · rw [if_pos hv]
    have hv' : valid a.col a.row = false := hv
    rw [hv'] at hV
    repeat' (first | ((with_reducible apply wl_callp); exact rfl; exact rfl; (intro w hm; exact hV w)) | refine sT ?_ | refine sS ?_ | refine sM fun _ => ?_ | (refine sC ?_ ?_ <;> intro hb <;> try omega) | fail)
    all_goals exact ret1 eIO rfl rfl (by unfold rgB; exact mS) ⟨rfl, A, cap, L, R, rfl, MSub.refl _, hR⟩
  rw [if_neg hv]
  have hv' : valid a.col a.row = true := by
    have : a.valid = valid a.col a.row := rfl
    rw [this] at hv
    simpa using hv
  rw [hv'] at hV
  have hlen2 := ofP_len b
  have htree := ofP_tree (b := b)
  have hwf := ofP_wf b
  generalize ofP b = r at hO hlen2 htree hwf
  obtain ⟨⟨fm, v, t⟩, at_, e⟩ := r
  simp only [ofV, encM] at hO
  dsimp only at hlen2 htree hwf ⊢
  by_cases he : e ≠ 0
  · rw [if_pos he]
    repeat' (first | ((with_reducible apply wl_callp); exact rfl; exact rfl; (intro w hm; exact hV w)) | ((with_reducible apply wl_call (f := 77)); exact rfl; exact rfl; (intro w' hm; exact hO w'); rintro _ _ ⟨A0, cap0, rfl, rfl⟩) | refine sT ?_ | refine sS ?_ | refine sM fun _ => ?_ | (refine sC ?_ ?_ <;> intro hb <;> try omega) | fail)
    all_goals exact ret1 eIO rfl rfl (by unfold rgB; exact mS) ⟨rfl, A, cap, L, R, rfl, MSub.refl _, hR⟩
  rw [if_neg he]
  have he0 : e = 0 := by omega
  subst he0
  have hU := fun (w' : World) (A : Option Nat) (cap : Nat) (H' : List Blk) (hi : In (.own A 136 11 t.length cap (t.flatMap encN)) H') (hm : Mem w0 w' H') => refUses_at t hwf (sl A t.length cap) w' (Reads.of_own hm hi)
  have hul : (usesE t).1.length ≤ 256 := Nat.le_trans (usesE_len' t) hlen2
  have hus : fm = true → usesF t = (usesE t).1 := fun h => by unfold usesE; rw [htree rfl h]; rfl
  obtain ⟨⟨us, ue⟩, hue⟩ : ∃ x, usesE t = x := ⟨_, rfl⟩
  rw [hue] at hU hul hus
  dsimp only at hU hul hus
  refine w_nilrow 132 4 ?_
  repeat' (first | ((with_reducible apply wl_callp); exact rfl; exact rfl; (intro w hm; exact hV w)) | ((with_reducible apply wl_call (f := 77)); exact rfl; exact rfl; (intro w' hm; exact hO w'); rintro _ _ ⟨A0, cap0, rfl, rfl⟩) | ((with_reducible apply wl_call (f := 78)); exact rfl; exact rfl; (intro w' hm; exact hU w' _ _ _ pK hm); rintro _ _ ⟨A2, cap2, rfl, rfl⟩) | refine sT ?_ | refine sS ?_ | refine sM fun _ => ?_ | (refine sC ?_ ?_ <;> intro hb <;> try omega) | fail)
  all_goals first | (exfalso; omega) | skip
  rename_i g4 g7
  obtain ⟨x, hxd⟩ : ∃ x : En, x = ⟨a, A0.map fun g => ⟨g, 0, none⟩, cap0, A2.map fun g => ⟨g, 0, none⟩, cap2, t, us, 0⟩ := ⟨_, rfl⟩
  have hxe : encQ x = [.int .i64 a.col, .int .i64 a.row, sl A0 t.length cap0, sl A2 us.length cap2] := by rw [hxd]; rfl
  obtain ⟨d0, hd0⟩ : ∃ d0, (!fm) = d0 := ⟨_, rfl⟩
  have hfin : (setQ a x d0 L).map En.abs = (if fm = false then (delG G a, (0 : Int)) else (insG G a (t, usesF t), 0)).1 := by
    rw [← hd0]
    cases fm with
    | false => rw [if_pos rfl, ← hR.rel]; exact setQ_del a x L
    | true =>
      rw [if_neg (by simp), hus rfl, ← hR.rel]
      have := setQ_ins (x := x) (a := a) (by rw [hxd]) (L := L) (by rw [hR.rel]; exact hs)
      rw [hxd] at this ⊢
      exact this
  have hfin2 : (if fm = false then (delG G a, (0 : Int)) else (insG G a (t, usesF t), 0)).2 = 0 := by cases fm <;> rfl
  have hRx : RGOk (.own A0 136 11 t.length cap0 (t.flatMap encN) :: .own A2 45 6 us.length cap2 (us.flatMap encU) :: R) (setQ a x d0 L) (if fm = false then (delG G a, (0 : Int)) else (insG G a (t, usesF t), 0)).1 := by
    refine ⟨fun f hf => ?_, hfin⟩
    rcases setQ_mem hf with rfl | hf
    · rw [hxd]
      exact ⟨rdIn.own (A := A0) pK, rdIn.own (A := A2) pK, by dsimp only; omega, by dsimp only; omega⟩
    · exact (hR.en f hf).sub mS
  refine w_loopK [0, 4, 7, 10] rfl (fun y : Nat × List En × Bool × Option Nat × Nat => [(12, sl y.2.2.2.1 y.2.1.length y.2.2.2.2), (13, .bool y.2.2.1), (14, .int .i64 (y.1 : Int))]) (fun y => .own y.2.2.2.1 132 4 y.2.1.length y.2.2.2.2 (y.2.1.flatMap encQ) :: .own A2 45 6 us.length cap2 (us.flatMap encU) :: .box g7 122 [.bool fm, .int .u8 v.kind, .int .i64 v.num, .string v.text, sl A0 t.length cap0] :: .own A0 136 11 t.length cap0 (t.flatMap encN) :: .box g4 38 (encF a) :: .box g 129 [sl A L.length cap] :: .own A 132 4 L.length cap (L.flatMap encQ) :: (R ++ F)) (fun y => y.1 ≤ L.length ∧ (L.take y.1).foldl (stepQ a x) ([], d0) = (y.2.1, y.2.2.1) ∧ y.2.1.length ≤ 2 * y.1) (fun y => L.length - y.1) (0, [], d0, none, 0) ⟨Nat.zero_le _, rfl, Nat.le_refl _⟩ (by subst hd0; exact sB) (by unfold rgB; simp only [List.append_eq, List.cons_append, List.nil_append]; exact mS) ?_
  clear hU hO
  rintro ⟨i, O, d, A3, c3⟩ ⟨hi, hf, hOl⟩
  dsimp only at hi hf hOl ⊢
  by_cases hlt : i < L.length
  · refine w_some (A := A) pK (by omega) fun gl hA => ?_
    subst hA
    have hnx : (L.take (i + 1)).foldl (stepQ a x) ([], d0) = stepQ a x (O, d) L[i] := by
      rw [List.take_succ_eq_append_getElem hlt, List.foldl_append, hf]; rfl
    have hc := encQ_cell hlt
    have ha := encQ_all hlt
    have hL := fun w' => refLess_at a L[i].at_ w'
    generalize L[i] = e at hc ha hL hnx
    obtain ⟨c1, hc1⟩ : ∃ c1, lessF a e.at_ = c1 := ⟨_, rfl⟩
    obtain ⟨c2, hc2⟩ : ∃ c2, decide (e.at_ ≠ a) = c2 := ⟨_, rfl⟩
    rw [hc1] at hL
    have hc2' : c2 = true ↔ e.at_ ≠ a := by rw [← hc2]; simp
    cases d with
    | false =>
      cases c1 with
      | true =>
        have hne : e.at_ ≠ a := (lessF_ne hc1).symm
        obtain rfl : c2 = true := hc2'.2 hne
        have hst : stepQ a x (O, false) e = (O ++ [x] ++ [e], true) := by simp [stepQ, hc1, hne]
        repeat' (first | ((with_reducible apply wq_v); exact rfl; (with_reducible apply v_indexAddr (j := i)); exact rfl; exact rfl; exact hlt) | ((with_reducible apply wl_v); exact rfl; (with_reducible apply v_indexAddr (j := i)); exact rfl; exact rfl; exact hlt) | ((with_reducible apply wq_v); exact rfl; (with_reducible apply v_loads_own (ys := encF e.at_)); exact rfl; exact pK; exact hc; exact rfl) | ((with_reducible apply wl_v); exact rfl; (with_reducible apply v_loads_own (ys := encQ e)); exact rfl; exact pK; exact ha; exact rfl) | ((with_reducible apply wq_v); exact rfl; (with_reducible apply v_neqF_to); exact hc2; exact rfl; exact rfl) | ((with_reducible apply wq_callp); exact rfl; exact rfl; (intro w hm; exact hL w)) | ((with_reducible apply wl_append1); (iterate 3 exact rfl); exact pK; exact pK; exact rfl; (simp [encQ, En.tv, En.uv, sl, Value.oneCell']); omega; (simp only [maxLen]; omega); intro g8 c8) | refine sT ?_ | refine sS ?_ | refine sQ ?_ | refine sN ?_ | refine sNQ ?_ | refine sD ?_ | refine sM fun _ => ?_ | (refine sC ?_ ?_ <;> intro hb <;> try omega) | (refine sCQ ?_ ?_ <;> intro hb <;> try omega) | fail)
        all_goals first
          | (exfalso; omega)
          | (refine ⟨(i + 1, O ++ [x] ++ [e], true, some g8, c8), ⟨hlt, (hnx.trans hst), (by (try simp only [List.length_append, List.length_singleton]); omega)⟩, (by dsimp only; omega), (by (try simp only [List.length_append, List.length_singleton]); exact sB), sB, ?_⟩
             simp only [List.length_append, List.length_singleton, List.flatMap_append, List.flatMap_cons, List.flatMap_nil, List.append_nil, List.append_eq, List.cons_append, List.nil_append, hxe]
             exact mS)
      | false =>
        by_cases hne : e.at_ ≠ a
        · obtain rfl : c2 = true := hc2'.2 hne
          have hst : stepQ a x (O, false) e = (O ++ [e], false) := by simp [stepQ, hc1, hne]
          repeat' (first | ((with_reducible apply wq_v); exact rfl; (with_reducible apply v_indexAddr (j := i)); exact rfl; exact rfl; exact hlt) | ((with_reducible apply wl_v); exact rfl; (with_reducible apply v_indexAddr (j := i)); exact rfl; exact rfl; exact hlt) | ((with_reducible apply wq_v); exact rfl; (with_reducible apply v_loads_own (ys := encF e.at_)); exact rfl; exact pK; exact hc; exact rfl) | ((with_reducible apply wl_v); exact rfl; (with_reducible apply v_loads_own (ys := encQ e)); exact rfl; exact pK; exact ha; exact rfl) | ((with_reducible apply wq_v); exact rfl; (with_reducible apply v_neqF_to); exact hc2; exact rfl; exact rfl) | ((with_reducible apply wq_callp); exact rfl; exact rfl; (intro w hm; exact hL w)) | ((with_reducible apply wl_append1); (iterate 3 exact rfl); exact pK; exact pK; exact rfl; (simp [encQ, En.tv, En.uv, sl, Value.oneCell']); omega; (simp only [maxLen]; omega); intro g8 c8) | refine sT ?_ | refine sS ?_ | refine sQ ?_ | refine sN ?_ | refine sNQ ?_ | refine sD ?_ | refine sM fun _ => ?_ | (refine sC ?_ ?_ <;> intro hb <;> try omega) | (refine sCQ ?_ ?_ <;> intro hb <;> try omega) | fail)
          all_goals first
            | (exfalso; omega)
            | (refine ⟨(i + 1, O ++ [e], false, some g8, c8), ⟨hlt, (hnx.trans hst), (by (try simp only [List.length_append, List.length_singleton]); omega)⟩, (by dsimp only; omega), (by (try simp only [List.length_append, List.length_singleton]); exact sB), sB, ?_⟩
               simp only [List.length_append, List.length_singleton, List.flatMap_append, List.flatMap_cons, List.flatMap_nil, List.append_nil, List.append_eq, List.cons_append, List.nil_append, hxe]
               exact mS)
        · obtain rfl : c2 = false := by cases c2 with | false => rfl | true => exact absurd (hc2'.1 rfl) hne
          have hst : stepQ a x (O, false) e = (O, false) := by
            have := Classical.not_not.1 hne
            simp [stepQ, this, lessF_irr]
          repeat' (first | ((with_reducible apply wq_v); exact rfl; (with_reducible apply v_indexAddr (j := i)); exact rfl; exact rfl; exact hlt) | ((with_reducible apply wl_v); exact rfl; (with_reducible apply v_indexAddr (j := i)); exact rfl; exact rfl; exact hlt) | ((with_reducible apply wq_v); exact rfl; (with_reducible apply v_loads_own (ys := encF e.at_)); exact rfl; exact pK; exact hc; exact rfl) | ((with_reducible apply wl_v); exact rfl; (with_reducible apply v_loads_own (ys := encQ e)); exact rfl; exact pK; exact ha; exact rfl) | ((with_reducible apply wq_v); exact rfl; (with_reducible apply v_neqF_to); exact hc2; exact rfl; exact rfl) | ((with_reducible apply wq_callp); exact rfl; exact rfl; (intro w hm; exact hL w)) | ((with_reducible apply wl_append1); (iterate 3 exact rfl); exact pK; exact pK; exact rfl; (simp [encQ, En.tv, En.uv, sl, Value.oneCell']); omega; (simp only [maxLen]; omega); intro g8 c8) | refine sT ?_ | refine sS ?_ | refine sQ ?_ | refine sN ?_ | refine sNQ ?_ | refine sD ?_ | refine sM fun _ => ?_ | (refine sC ?_ ?_ <;> intro hb <;> try omega) | (refine sCQ ?_ ?_ <;> intro hb <;> try omega) | fail)
          all_goals first
            | (exfalso; omega)
            | (refine ⟨(i + 1, O, false, A3, c3), ⟨hlt, (hnx.trans hst), (by (try simp only [List.length_append, List.length_singleton]); omega)⟩, (by dsimp only; omega), (by (try simp only [List.length_append, List.length_singleton]); exact sB), sB, ?_⟩
               simp only [List.length_append, List.length_singleton, List.flatMap_append, List.flatMap_cons, List.flatMap_nil, List.append_nil, List.append_eq, List.cons_append, List.nil_append, hxe]
               exact mS)
    | true =>
      by_cases hne : e.at_ ≠ a
      · obtain rfl : c2 = true := hc2'.2 hne
        have hst : stepQ a x (O, true) e = (O ++ [e], true) := by simp [stepQ, hne]
        repeat' (first | ((with_reducible apply wq_v); exact rfl; (with_reducible apply v_indexAddr (j := i)); exact rfl; exact rfl; exact hlt) | ((with_reducible apply wl_v); exact rfl; (with_reducible apply v_indexAddr (j := i)); exact rfl; exact rfl; exact hlt) | ((with_reducible apply wq_v); exact rfl; (with_reducible apply v_loads_own (ys := encF e.at_)); exact rfl; exact pK; exact hc; exact rfl) | ((with_reducible apply wl_v); exact rfl; (with_reducible apply v_loads_own (ys := encQ e)); exact rfl; exact pK; exact ha; exact rfl) | ((with_reducible apply wq_v); exact rfl; (with_reducible apply v_neqF_to); exact hc2; exact rfl; exact rfl) | ((with_reducible apply wq_callp); exact rfl; exact rfl; (intro w hm; exact hL w)) | ((with_reducible apply wl_append1); (iterate 3 exact rfl); exact pK; exact pK; exact rfl; (simp [encQ, En.tv, En.uv, sl, Value.oneCell']); omega; (simp only [maxLen]; omega); intro g8 c8) | refine sT ?_ | refine sS ?_ | refine sQ ?_ | refine sN ?_ | refine sNQ ?_ | refine sD ?_ | refine sM fun _ => ?_ | (refine sC ?_ ?_ <;> intro hb <;> try omega) | (refine sCQ ?_ ?_ <;> intro hb <;> try omega) | fail)
        all_goals first
          | (exfalso; omega)
          | (refine ⟨(i + 1, O ++ [e], true, some g8, c8), ⟨hlt, (hnx.trans hst), (by (try simp only [List.length_append, List.length_singleton]); omega)⟩, (by dsimp only; omega), (by (try simp only [List.length_append, List.length_singleton]); exact sB), sB, ?_⟩
             simp only [List.length_append, List.length_singleton, List.flatMap_append, List.flatMap_cons, List.flatMap_nil, List.append_nil, List.append_eq, List.cons_append, List.nil_append, hxe]
             exact mS)
      · obtain rfl : c2 = false := by cases c2 with | false => rfl | true => exact absurd (hc2'.1 rfl) hne
        have hst : stepQ a x (O, true) e = (O, true) := by
          have := Classical.not_not.1 hne
          simp [stepQ, this]
        repeat' (first | ((with_reducible apply wq_v); exact rfl; (with_reducible apply v_indexAddr (j := i)); exact rfl; exact rfl; exact hlt) | ((with_reducible apply wl_v); exact rfl; (with_reducible apply v_indexAddr (j := i)); exact rfl; exact rfl; exact hlt) | ((with_reducible apply wq_v); exact rfl; (with_reducible apply v_loads_own (ys := encF e.at_)); exact rfl; exact pK; exact hc; exact rfl) | ((with_reducible apply wl_v); exact rfl; (with_reducible apply v_loads_own (ys := encQ e)); exact rfl; exact pK; exact ha; exact rfl) | ((with_reducible apply wq_v); exact rfl; (with_reducible apply v_neqF_to); exact hc2; exact rfl; exact rfl) | ((with_reducible apply wq_callp); exact rfl; exact rfl; (intro w hm; exact hL w)) | ((with_reducible apply wl_append1); (iterate 3 exact rfl); exact pK; exact pK; exact rfl; (simp [encQ, En.tv, En.uv, sl, Value.oneCell']); omega; (simp only [maxLen]; omega); intro g8 c8) | refine sT ?_ | refine sS ?_ | refine sQ ?_ | refine sN ?_ | refine sNQ ?_ | refine sD ?_ | refine sM fun _ => ?_ | (refine sC ?_ ?_ <;> intro hb <;> try omega) | (refine sCQ ?_ ?_ <;> intro hb <;> try omega) | fail)
        all_goals first
          | (exfalso; omega)
          | (refine ⟨(i + 1, O, true, A3, c3), ⟨hlt, (hnx.trans hst), (by (try simp only [List.length_append, List.length_singleton]); omega)⟩, (by dsimp only; omega), (by (try simp only [List.length_append, List.length_singleton]); exact sB), sB, ?_⟩
             simp only [List.length_append, List.length_singleton, List.flatMap_append, List.flatMap_cons, List.flatMap_nil, List.append_nil, List.append_eq, List.cons_append, List.nil_append, hxe]
             exact mS)
  · have e2 : i = L.length := by omega
    subst e2
    rw [List.take_length] at hf
    have hset : setQ a x d0 L = endQ x (O, d) := by unfold setQ; rw [hf]
    rw [hset] at hRx
    cases d
    · repeat' (first | ((with_reducible apply wl_append1); (iterate 3 exact rfl); exact pK; exact pK; exact rfl; (simp [encQ, En.tv, En.uv, sl, Value.oneCell']); omega; (simp only [maxLen]; omega); intro g8 c8) | refine sT ?_ | refine sS ?_ | refine sN ?_ | refine sM fun _ => ?_ | (refine sC ?_ ?_ <;> intro hb <;> try omega) | fail)
      all_goals first
        | (exfalso; omega)
        | (refine ret1 eIO rfl rfl (H' := rgB g (some g8) c8 (O ++ [x]) ++ ((.own A0 136 11 t.length cap0 (t.flatMap encN) :: .own A2 45 6 us.length cap2 (us.flatMap encU) :: R) ++ F)) ?_ ⟨by rw [hfin2], some g8, c8, O ++ [x], _, rfl, mS, hRx⟩
           simp only [rgB, List.length_append, List.length_singleton, List.flatMap_append, List.flatMap_cons, List.flatMap_nil, List.append_nil, List.append_eq, List.cons_append, List.nil_append, hxe]
           exact mS)
    · repeat' (first | refine sT ?_ | refine sS ?_ | refine sN ?_ | refine sM fun _ => ?_ | (refine sC ?_ ?_ <;> intro hb <;> try omega) | fail)
      all_goals first
        | (exfalso; omega)
        | (refine ret1 eIO rfl rfl (H' := rgB g A3 c3 O ++ ((.own A0 136 11 t.length cap0 (t.flatMap encN) :: .own A2 45 6 us.length cap2 (us.flatMap encU) :: R) ++ F)) ?_ ⟨by rw [hfin2], A3, c3, O, _, rfl, mS, hRx⟩
           simp only [rgB, List.append_eq, List.cons_append, List.nil_append]
           exact mS)
theorem rSet_in (g:Nat) (A:Option Nat) (cap:Nat) (L:List En) (G:Gr) (a:Rf) (b:ByteArray) (R:List Blk) (w0:World) (hR:RGOk R L G) (hs:SortG G) (hlen:L.length≤1000):
  FnIn Tryz.prog 28 [.pointer (some ⟨g,0,none⟩),keyF a,.string b] w0 (rgB g A cap L++R) fun v H=>v= .int .i64 (setG G a b).2∧ ∃ A' cap' L' R',H=rgB g A' cap' L' ++R' ∧MSub R R' ∧RGOk R' L' (setG G a b).1:=by
 have h:=rSet_inF g A cap L G a b R [] w0 hR hs hlen
 simp only [List.append_nil] at h
 exact h
def RNewR (r:Option Gr × Int) (v:Value) (H:List Blk):Prop:=match r with
 |(none,e)=>v= .tuple #[.pointer none,.int .i64 e]∧H= []
 |(some G,_)=> ∃ g A cap L R,v= .tuple #[.pointer (some ⟨g,0,none⟩),.int .i64 0]∧H=rgB g A cap L++R∧RGOk R L G
def foldS (G:Gr) (L:List Et):Gr:=L.foldl (fun G e=>(setG G e.at_ e.input).1) G
theorem faultOf_ok {b:Option Rf} {e:Et} (h:faultOf b e=0):e.at_.valid=true∧(ofP e.input).2.2=0:=by
 have hg: ∀ (c1 c2 c3:Prop) [Decidable c1] [Decidable c2] [Decidable c3] (z:Int),(if c1 then (3:Int) else if c2 then 12 else if c3 then 2 else z)=0→ ¬ c1∧z=0:=by
  intro c1 c2 c3 _ _ _ z hz
  by_cases h1:c1
  ·
   rw [if_pos h1] at hz;cases hz
  ·
   rw [if_neg h1] at hz
   by_cases h2:c2
   ·
    rw [if_pos h2] at hz;cases hz
   ·
    rw [if_neg h2] at hz
    by_cases h3:c3
    ·
     rw [if_pos h3] at hz;cases hz
    ·
     rw [if_neg h3] at hz;exact ⟨h1,hz⟩
 obtain ⟨h1,h2⟩:=hg _ _ _ _ h
 exact ⟨by simpa using h1,h2⟩
theorem checkFrom_ok: ∀ (L:List Et) (i:Nat) (b:Option Rf),(checkFrom i b L).2=0→ ∀ e∈L,e.at_.valid=true∧(ofP e.input).2.2=0
 | [],_,_,_,e,he=>by cases he
 |x::r,i,b,h,e,he=>by
  rw [checkFrom] at h
  split at h
  ·
   rename_i hf
   exact absurd h hf
  ·
   rename_i hf
   rcases List.mem_cons.1 he with rfl|he
   ·
    exact faultOf_ok (Classical.not_not.1 hf)
   ·
    exact checkFrom_ok r _ _ h e he
theorem newL_ok: ∀ (L:List Et) (G:Gr),(∀ e∈L,e.at_.valid=true∧(ofP e.input).2.2=0)→newL G L=(some (foldS G L),0)
 | [],G,_=>rfl
 |e::r,G,h=>by
  have he:(setG G e.at_ e.input).2=0:=by
   obtain ⟨h1,h2⟩:=h e List.mem_cons_self
   unfold setG
   rw [if_neg (by rw [h1];simp),if_neg (by rw [h2];simp)]
   split<;>rfl
  rw [newL,if_neg (by rw [he];simp),newL_ok r _ fun f hf=>h f (List.mem_cons_of_mem _ hf)]
  rfl
theorem newG_eq (L:List Et):newG L=if (checkEt L).2≠0 then (none,(checkEt L).2) else (some (foldS [] L),0):=by
 unfold newG
 split
 ·
  rfl
 ·
  rename_i h
  exact newL_ok L [] (checkFrom_ok L 0 none (Classical.not_not.1 h))
set_option maxHeartbeats 2000000 in
theorem rNew_at (L:List Et) (tv:Value) (w:World) (ht:Reads w tv L.length (L.flatMap encEt)) (hlen:L.length≤900):
  FnAt Tryz.prog 39 [tv] w (RNewR (newG L)):=by
 have hC:=fun (w' :World) (H:List Blk) (hm:Mem w w' H)=>refCheckEt_at L tv w' (ht.of_w0 hm) (by omega)
 obtain ⟨Al,cl,rfl,hl1,hl2,hl3⟩:=ht
 refine fn_at Tryz.func39 rfl Tryz.ntmps39 rfl ?_
 rw [newG_eq]
 generalize checkEt L=c at hC
 obtain ⟨ci,ce⟩:=c
 dsimp only at hC ⊢
 by_cases hce:ce≠0
 ·
  rw [if_pos hce]
  repeat' (first|((with_reducible apply wl_callp (f:=87));exact rfl;exact rfl;(intro w' hm;exact hC w' _ hm))|refine sT ?_|refine sS ?_|refine sM fun _=> ?_|(refine sC ?_ ?_<;>intro hb<;>try omega)|fail)
  all_goals first
   |(exfalso;omega)
   |exact ret2 eIO rfl rfl rfl (.nil _) ⟨rfl,rfl⟩
 rw [if_neg hce]
 have hce0:ce=0:=Classical.not_not.1 hce
 subst hce0
 refine w_nilrow 132 4 ?_
 repeat' (first|((with_reducible apply wl_callp (f:=87));exact rfl;exact rfl;(intro w' hm;exact hC w' _ hm))|refine sT ?_|refine sS ?_|refine sM fun _=> ?_|(refine sC ?_ ?_<;>intro hb<;>try omega)|fail)
 all_goals first|(exfalso;omega)|skip
 rename_i g
 refine w_loopK [0,6] rfl (fun x:Nat × Option Nat × Nat × List En × Gr × List Blk=> [(7,.int .i64 (x.1:Int))]) (fun x=>rgB g x.2.1 x.2.2.1 x.2.2.2.1++x.2.2.2.2.2) (fun x=>x.1≤L.length∧GrOk x.2.2.2.2.1∧x.2.2.2.2.1.length≤x.1∧RGOk x.2.2.2.2.2 x.2.2.2.1 x.2.2.2.2.1∧foldS [] L=foldS x.2.2.2.2.1 (L.drop x.1)) (fun x=>L.length - x.1) (0,none,0,[],[],[]) ⟨by simp,grOk_nil,Nat.le_refl _,⟨(fun _ h=>by cases h),rfl⟩,rfl⟩ sB (by unfold rgB;exact mS) ?_
 rintro ⟨i,A,cap,Q,G,R⟩ ⟨hi,hG,hGl,hR,hnew⟩
 dsimp only at hi hG hGl hR hnew ⊢
 by_cases hlt:i<L.length
 ·
  obtain ⟨gl,ol,rfl,hrl⟩:=hl3 (by omega)
  have he:=hrl.elem encEt_len i hlt
  rw [List.drop_eq_getElem_cons hlt] at hnew
  generalize L[i]=e at he hnew
  have hS:=rSet_in g A cap Q G e.at_ e.input R w hR hG.sort (by rw [hR.len];omega)
  have hG' :=hG.set e.at_ e.input
  have hGl' :=setG_len G e.at_ e.input
  rw [show foldS G (e::L.drop (i+1))=foldS (setG G e.at_ e.input).1 (L.drop (i+1)) from rfl] at hnew
  generalize setG G e.at_ e.input=sg at hS hnew hG' hGl'
  obtain ⟨G',se⟩:=sg
  dsimp only at hS hnew hG' hGl'
  repeat' (first|refine sT ?_|refine sS ?_|refine sN ?_|refine sM fun _=> ?_|(refine sC ?_ ?_<;>intro hb<;>try omega)|fail)
  all_goals first|(exfalso;omega)|skip
  refine w_drawC (id:=8) [11] [] [] (by kernel_rfl) (by kernel_rfl) (by kernel_rfl) (MSub.nil _) ?_
  repeat' (first|((with_reducible apply wc_v (d:=27));(iterate 3 exact rfl);(with_reducible apply v_indexAddr (j:=i));exact rfl;exact rfl;exact hlt)|((with_reducible apply wc_v (d:=32));(iterate 3 exact rfl);(with_reducible apply v_indexAddr (j:=i));exact rfl;exact rfl;exact hlt)|((with_reducible apply wc_v (d:=29));(iterate 3 exact rfl);(with_reducible apply v_loads_ro (off:=0) (ys:=encF e.at_) he);(iterate 3 exact rfl))|((with_reducible apply wc_v (d:=34));(iterate 3 exact rfl);(with_reducible apply v_loadf_ro (off:=2));exact rfl;exact he;exact rfl)|((with_reducible apply wl_callin (f:=28));exact rfl;exact rfl;exact FnIn.msub hS (MSub.refl _);rintro _ _ ⟨rfl,A',cap',Q',R',rfl,hsub,hR'⟩)|refine sT ?_|refine sS ?_|refine sW ?_|refine sN ?_|refine sWN ?_|refine sM fun _=> ?_|(refine sC ?_ ?_<;>intro hb<;>try omega)|(refine sCW ?_ ?_<;>intro hb<;>try omega)|fail)
  all_goals first
   |(exfalso;omega)
   |(refine ⟨(i+1,A',cap',Q',G',R'),⟨hlt,hG',(by dsimp only;omega),hR',hnew⟩,(by dsimp only;omega),sB,sB,MSub.refl _⟩)
 ·
  have e2:i=L.length:=by omega
  subst e2
  rw [List.drop_length,show foldS G []=G from rfl] at hnew
  rw [hnew]
  repeat' (first|refine sT ?_|refine sS ?_|refine sN ?_|refine sM fun _=> ?_|(refine sC ?_ ?_<;>intro hb<;>try omega)|fail)
  all_goals first
   |(exfalso;omega)
   |exact ret2 eIO rfl rfl rfl (MSub.refl _) ⟨g,A,cap,Q,R,rfl,rfl,hR⟩
end Go.SL
namespace Go.SL
open Go
def inA:ByteArray:=⟨#[53]⟩
def inB:ByteArray:=⟨#[61,65,49,43,66,49]⟩
def inC:ByteArray:=⟨#[61,68,83,85,77,40,66,49,58,66,51,41]⟩
def inD:ByteArray:=⟨#[61,73,70,69,82,82,79,82,40,65,51,44,48,41,43,49]⟩
def exL:List Et:= [⟨⟨1,1⟩,inA⟩,⟨⟨1,2⟩,inB⟩,⟨⟨1,3⟩,inC⟩,⟨⟨1,4⟩,inD⟩]
def refN (c r:Int):Nd:=⟨2,zeroV,oneA c r,0,0,0⟩
def exG:Gr:= [
 (⟨1,2⟩,[refN 1 1,refN 2 1,nodeOp 6 1],[⟨oneA 1 1, -1,0⟩,⟨oneA 2 1, -1,0⟩]),
 (⟨1,3⟩,[⟨3,zeroV,⟨2,1,2,3⟩,0,0,0⟩,⟨7,zeroV,zeroR,0,46,1⟩],[⟨⟨2,1,2,3⟩,1,46⟩]),
 (⟨1,4⟩,[refN 1 3,⟨1,⟨1,0,emptyB⟩,zeroR,0,0,0⟩,⟨7,zeroV,zeroR,0,25,2⟩,⟨1,⟨1,10000,emptyB⟩,zeroR,0,0,0⟩,nodeOp 6 1],[⟨oneA 1 3, -1,0⟩])]
theorem ex_new:newG exL=(some exG,0):=by decide+kernel
theorem exG_ok:GrOk exG:=by
 have h: ∀ (L:List Et) (G:Gr),GrOk G→ ∀ G',newL G L=(some G',0)→GrOk G' :=by
  intro L
  induction L with
  |nil=>intro G hG G' h;cases h;exact hG
  |cons e r ih=>
   intro G hG G' h
   rw [newL] at h
   split at h
   ·
    cases h
   ·
    exact ih _ (hG.set _ _) G' h
 have h2:=ex_new
 unfold newG at h2
 split at h2
 ·
  cases h2
 ·
  exact h exL [] grOk_nil exG h2
end Go.SL
namespace Go.SL
open Go Go.Proofs
attribute [local irreducible] W WL WQ WG WA WX WLI WR WT WC VOp RW thn blk cutP scp retP retPP endB FnAt FnIn FnP ceP
structure Pu where
 col:Int
 row:Int
 input:ByteArray
def encPu (p:Pu):List Value:= [.int .i64 p.col,.int .i64 p.row,.string p.input]
theorem encPu_len (p:Pu):(encPu p).length=3:=rfl
def modI (i n:Int):Int:=if n<1 then 0 else (i.tmod n+n).tmod n
def Pu.ref (p:Pu):Rf:=⟨1+modI p.col 5,1+modI p.row 7⟩
theorem modI_range (i:Int) {n:Int} (h:1≤n):0≤modI i n∧modI i n<n:=by
 unfold modI
 rw [if_neg (by omega)]
 have h1:=Int.tmod_lt_of_pos i (show 0<n by omega)
 have h2: -n<i.tmod n:=by
  have:=Int.tmod_lt_of_pos (-i) (show 0<n by omega)
  rw [Int.neg_tmod] at this
  omega
 exact ⟨Int.tmod_nonneg _ (by omega),Int.tmod_lt_of_pos _ (by omega)⟩
theorem Pu.range (p:Pu):1≤p.ref.col∧p.ref.col≤5∧1≤p.ref.row∧p.ref.row≤7:=by
 have h1:=modI_range p.col (n:=5) (by decide)
 have h2:=modI_range p.row (n:=7) (by decide)
 simp only [Pu.ref]
 omega
theorem mod_at (i n:Int) (h1:1≤n) (h2:n≤100) (w:World):Pure Tryz.prog 15 [.int .i64 i,.int .i64 n] w (.int .i64 (modI i n)):=by
 refine fn_at Tryz.func15 rfl Tryz.ntmps15 rfl ?_
 have h3:=Int.tmod_lt_of_pos i (show 0<n by omega)
 have h4: -n<i.tmod n:=by
  have:=Int.tmod_lt_of_pos (-i) (show 0<n by omega)
  rw [Int.neg_tmod] at this
  omega
 repeat' (first|((with_reducible apply wl_v (d:=9));exact rfl;(with_reducible apply v_rem_to (c:=i.tmod n));exact rfl;exact rfl;omega;exact rfl)|((with_reducible apply wl_v (d:=11));exact rfl;(with_reducible apply v_add);exact rfl;exact rfl;exact ⟨by omega,by omega⟩)|((with_reducible apply wl_v (d:=13));exact rfl;(with_reducible apply v_rem_to (c:=(i.tmod n+n).tmod n));exact rfl;exact rfl;omega;exact rfl)|refine sT ?_|refine sS ?_|refine sM fun _=> ?_|(refine sC ?_ ?_<;>intro hb<;>try omega)|fail)
 all_goals first
  |(exfalso;omega)
  |((refine rT1 ?_);rw [modI,if_neg (by omega)])
theorem puAt_at (p:Pu) (w:World):Pure Tryz.prog 44 [.agg (encPu p).toArray] w (.agg (encF p.ref).toArray):=by
 refine fn_at Tryz.func44 rfl Tryz.ntmps44 rfl ?_
 have h5:=fun w=>mod_at p.col 5 (by decide) (by decide) w
 have h7:=fun w=>mod_at p.row 7 (by decide) (by decide) w
 have hr:=p.range
 simp only [Pu.ref] at hr
 unfold Pu.ref
 generalize modI p.col 5=c at h5 hr
 generalize modI p.row 7=r at h7 hr
 repeat' (first|refine sT ?_|refine sS ?_|refine sM fun _=> ?_|(refine sC ?_ ?_<;>intro hb<;>try omega)|fail)
 rename_i g1 g2
 refine w_drawC (id:=1) [2,6,9] [] [.box g1 73 (encPu p)] (by kernel_rfl) (by kernel_rfl) (by kernel_rfl) mS ?_
 repeat' (first|((with_reducible apply wc_callp);(iterate 4 exact rfl);(intro w hm;exact h5 w))|((with_reducible apply wc_callp);(iterate 4 exact rfl);(intro w hm;exact h7 w))|refine sT ?_|refine sS ?_|refine sW ?_|refine sJ ?_|refine sWJ ?_|refine sM fun _=> ?_|(refine sC ?_ ?_<;>intro hb<;>try omega)|(refine sCW ?_ ?_<;>intro hb<;>try omega)|fail)
 all_goals ((refine eRC ?_);rfl)
theorem any_split {α:Type} [DecidableEq α] {L:List α} {i:Nat} (h:i<L.length) (a:α):decide (a∈L.drop i)=(decide (L[i]=a)||decide (a∈L.drop (i+1))):=by
 rw [List.drop_eq_getElem_cons h,Bool.eq_iff_iff]
 simp only [decide_eq_true_eq,Bool.or_eq_true,List.mem_cons]
 constructor
 ·
  rintro (rfl|h)
  ·
   exact .inl rfl
  ·
   exact .inr h
 ·
  rintro (rfl|h)
  ·
   exact .inl rfl
  ·
   exact .inr h
end Go.SL
namespace Go.SL
open Go Go.Proofs
attribute [local irreducible] W WL WQ WG WA WX WLI WR WT WC VOp RW thn blk cutP scp retP retPP endB FnAt FnP ceP
theorem FnIn.re {P:Program} {f:FuncId} {args:List Value} {w0:World} {H:List Blk} {R R' :Value→List Blk→Prop} (h:FnIn P f args w0 H R) (hr: ∀ v H,R v H→ ∃ H',MSub H' H∧R' v H'):FnIn P f args w0 H R' :=
 fun w hm=>Calls.mono (h w hm) fun _ _ ⟨v,H',h1,h2,h3⟩=>let ⟨H2,h4,h5⟩:=hr v H' h3;⟨v,H2,h1,h4.use h2,h5⟩
theorem MSub.of_perm {H H' :List Blk} (h:H'.Perm H):MSub H H' :=⟨[],by simpa using h⟩
structure Gs where
 gg:Nat
 gm:Nat
 E:List En
 clock:Nat
 R1:List Blk
 gr:Nat
 A:Option Nat
 cap:Nat
 Q:List En
 R2:List Blk
def Gs.a (x:Gs):List Blk:=gB x.gg x.gm (x.E.map En.m) x.clock
def Gs.b (x:Gs):List Blk:=rgB x.gr x.A x.cap x.Q
def Gs.H (x:Gs):List Blk:=x.a++(x.b++(x.R1++x.R2))
def Gs.pa (x:Gs):Value:= .pointer (some ⟨x.gg,0,none⟩)
def Gs.pb (x:Gs):Value:= .pointer (some ⟨x.gr,0,none⟩)
structure Gs.ok (x:Gs) (G:Gr):Prop where
 a:GOk x.R1 x.E x.clock G
 b:RGOk x.R2 x.Q G
 g:GrOk G
theorem Gs.permA (x:Gs) (F:List Blk):(F++x.H).Perm (x.a++(x.R1++(x.b++(x.R2++F)))):=by
 refine List.perm_append_comm.trans ?_
 unfold Gs.H
 simp only [List.append_assoc]
 exact (List.perm_append_comm_assoc x.b x.R1 (x.R2++F)).append_left x.a
theorem Gs.permB (x:Gs) (F:List Blk):(F++x.H).Perm (x.b++(x.R2++(x.a++(x.R1++F)))):=by
 refine List.perm_append_comm.trans ?_
 unfold Gs.H
 simp only [List.append_assoc]
 refine (List.perm_append_comm_assoc x.a x.b _).trans (List.Perm.append_left x.b ?_)
 refine (List.Perm.append_left x.a (List.perm_append_comm_assoc x.R1 x.R2 F)).trans ?_
 exact List.perm_append_comm_assoc x.a x.R2 _
theorem Gs.set (x:Gs) (G:Gr) (h:x.ok G) (c:Rf) (i:ByteArray) (F:List Blk) (w0:World) (hW:Words w0):
  FnIn Tryz.prog 27 [x.pa,keyF c,.string i] w0 (F++x.H) fun v H=>v= .int .i64 (setG G c i).2∧ ∃ E' clock' R',H=F++({ x with E:=E',clock:=clock',R1:=R' }:Gs).H∧MSub x.R1 R' ∧GOk R' E' clock' (setG G c i).1:=by
 refine (FnIn.msub (Set_inF x.gg x.gm x.clock x.E G c i x.R1 (x.b++(x.R2++F)) w0 h.a hW) (MSub.of_perm (x.permA F))).re ?_
 rintro v H ⟨hv,E',clock',R',rfl,hs,hG⟩
 exact ⟨F++({ x with E:=E',clock:=clock',R1:=R' }:Gs).H,MSub.of_perm (Gs.permA { x with E:=E',clock:=clock',R1:=R' } F).symm,hv,E',clock',R',rfl,hs,hG⟩
theorem Gs.rset (x:Gs) (G:Gr) (h:RGOk x.R2 x.Q G) (hs:SortG G) (hl:G.length≤900) (c:Rf) (i:ByteArray) (F:List Blk) (w0:World):
  FnIn Tryz.prog 28 [x.pb,keyF c,.string i] w0 (F++x.H) fun v H=>v= .int .i64 (setG G c i).2∧ ∃ A' cap' Q' R',H=F++({ x with A:=A',cap:=cap',Q:=Q',R2:=R' }:Gs).H∧MSub x.R2 R' ∧RGOk R' Q' (setG G c i).1:=by
 refine (FnIn.msub (rSet_inF x.gr x.A x.cap x.Q G c i x.R2 (x.a++(x.R1++F)) w0 h hs (by rw [h.len];omega)) (MSub.of_perm (x.permB F))).re ?_
 rintro v H ⟨hv,A',cap',Q',R',rfl,hss,hG⟩
 exact ⟨F++({ x with A:=A',cap:=cap',Q:=Q',R2:=R' }:Gs).H,MSub.of_perm (Gs.permB { x with A:=A',cap:=cap',Q:=Q',R2:=R' } F).symm,hv,A',cap',Q',R',rfl,hss,hG⟩
section
variable (x:Gs) (G:Gr) (h:x.ok G) (F:List Blk) (w0:World)
include h
end
end Go.SL
namespace Go.SL
open Go Go.Proofs
attribute [local irreducible] W WL WQ WG WA WX WLI WR WT WC VOp RW thn blk cutP scp retP retPP endB FnAt FnIn FnP ceP
def foldU (G:Gr) (l:List Pu):Gr:=l.foldl (fun G p=>(setG G p.ref p.input).1) G
def startG (L:List Pu):Gr:=foldU [] (L.take 40)
theorem foldU_len: ∀ (l:List Pu) (G:Gr),(foldU G l).length≤G.length+l.length
 | [],G=>Nat.le_refl _
 |p::r,G=>by
  have h1:=foldU_len r (setG G p.ref p.input).1
  have h2:=setG_len G p.ref p.input
  simp only [List.length_cons]
  exact Nat.le_trans h1 (by omega)
theorem startG_len (L:List Pu):(startG L).length≤40:=by
 have:=foldU_len (L.take 40) []
 rw [List.length_take,List.length_nil] at this
 unfold startG
 omega
theorem start_perm (a b R1 R2:List Blk) (p q:Blk):MSub ([p,q]++(a++(b++(R1++R2)))) (p::((b++R2)++((a++R1)++ [q]))):=by
 refine MSub.of_perm (List.Perm.cons p ?_)
 refine (show ((b++R2)++((a++R1)++ [q])).Perm (q::((b++R2)++(a++R1))) from ?_).trans (List.Perm.cons q ?_)
 ·
  rw [← List.append_assoc]
  exact List.perm_append_comm
 ·
  refine List.perm_append_comm.trans ?_
  simp only [List.append_assoc]
  exact (List.perm_append_comm_assoc R1 b R2).append_left a
theorem newG_nil:newG []=(some [],0):=rfl
set_option maxHeartbeats 4000000 in
theorem Start_at (L:List Pu) (tv:Value) (w:World) (ht:Reads w tv L.length (L.flatMap encPu)) (hW:Words w):
  FnAt Tryz.prog 14 [tv] w fun v H=> ∃ x:Gs,v= .tuple #[.agg #[x.pa,x.pb],.bool true]∧H=x.H∧x.ok (startG L):=by
 have hN:=fun (w' :World) (H:List Blk) (hm:Mem w w' H)=>New_at [] (.slice none 0 0) w' ⟨none,0,rfl,Nat.le_refl _,Nat.zero_le _,fun h=>by cases h⟩ (by simp) (hW.next hm)
 have hM:=fun (w' :World)=>rNew_at [] (.slice none 0 0) w' ⟨none,0,rfl,Nat.le_refl _,Nat.zero_le _,fun h=>by cases h⟩ (by simp)
 rw [newG_nil] at hN hM
 obtain ⟨Al,cl,rfl,hl1,hl2,hl3⟩:=ht
 refine fn_at Tryz.func14 rfl Tryz.ntmps14 rfl ?_
 repeat' (first|((with_reducible apply wl_call (f:=38));exact rfl;exact rfl;(intro w' hm;exact hN w' _ hm);rintro _ _ ⟨gg,gm,E,clock,R1,rfl,rfl,hGA⟩)|((with_reducible apply wl_call (f:=39));exact rfl;exact rfl;(intro w' hm;exact hM w');rintro _ _ ⟨gr,A,cap,Q,R2,rfl,rfl,hGB⟩)|refine sT ?_|refine sS ?_|refine sM fun _=> ?_|(refine sC ?_ ?_<;>intro hb<;>try omega)|fail)
 all_goals first|(exfalso;omega)|skip
 rename_i g2 g8
 refine w_loopK [0,4,6,8,2] rfl (fun y:Nat × Gs × Gr=> [(9,.int .i64 (y.1:Int))]) (fun y=> [.box g8 28 [.pointer (some ⟨gg,0,none⟩),.pointer (some ⟨gr,0,none⟩)],.box g2 28 [.pointer none,.pointer none]]++y.2.1.H) (fun y=>(y.2.1.gg=gg∧y.2.1.gr=gr)∧y.1≤L.length∧y.1≤40∧y.2.1.ok y.2.2∧y.2.2.length≤y.1∧startG L=foldU y.2.2 ((L.take 40).drop y.1)) (fun y=>L.length - y.1) (0,⟨gg,gm,E,clock,R1,gr,A,cap,Q,R2⟩,[]) ⟨⟨rfl,rfl⟩,Nat.zero_le _,Nat.zero_le _,⟨hGA,hGB,grOk_nil⟩,Nat.le_refl _,rfl⟩ sB (start_perm _ _ _ _ _ _) ?_
 rintro ⟨i,x,G⟩ ⟨⟨hgg,hgr⟩,hi,hi4,hx,hGl,hst⟩
 dsimp only at hgg hgr hi hi4 hx hGl hst ⊢
 subst hgg hgr
 by_cases hlt:i<L.length∧i<40
 ·
  obtain ⟨hlt,hlt4⟩:=hlt
  obtain ⟨gl,ol,rfl,hrl⟩:=hl3 (by omega)
  have he:=hrl.elem encPu_len i hlt
  have hlk:i<(L.take 40).length:=by rw [List.length_take];omega
  rw [List.drop_eq_getElem_cons hlk,show (L.take 40)[i]=L[i] by rw [List.getElem_take]] at hst
  generalize L[i]=p at he hst
  rw [show ∀ r,foldU G (p::r)=foldU (setG G p.ref p.input).1 r from fun _=>rfl] at hst
  have hAt:=fun w=>puAt_at p w
  have hS:=fun F=>x.set G hx p.ref p.input F w hW
  have hT:=fun (x' :Gs) (h:RGOk x'.R2 x'.Q G) F=>x'.rset G h hx.g.sort (by omega) p.ref p.input F w
  have hg' :=hx.g.set p.ref p.input
  have hgl:=setG_len G p.ref p.input
  generalize p.ref=c at hAt hS hT hst hg' hgl
  generalize setG G c p.input=sg at hS hT hst hg' hgl
  obtain ⟨G',se⟩:=sg
  dsimp only at hS hT hst hg' hgl
  repeat' (first|refine sT ?_|refine sS ?_|refine sN ?_|refine sM fun _=> ?_|(refine sC ?_ ?_<;>intro hb<;>try omega)|fail)
  all_goals first|(exfalso;omega)|skip
  refine w_drawC (id:=9) [5,11,17,23] [] [] (by kernel_rfl) (by kernel_rfl) (by kernel_rfl) (MSub.nil _) ?_
  repeat' (first|((with_reducible apply wc_v);(iterate 3 exact rfl);(with_reducible apply v_indexAddr (j:=i));exact rfl;exact rfl;exact hlt)|((with_reducible apply wc_v);(iterate 3 exact rfl);(with_reducible apply v_loadw_ro);exact rfl;exact he;exact rfl)|((with_reducible apply wc_v);(iterate 3 exact rfl);(with_reducible apply v_loadf_ro (off:=2));exact rfl;exact he;exact rfl)|((with_reducible apply wc_callp);(iterate 4 exact rfl);(intro w hm;exact hAt w))|((with_reducible apply wl_callin (f:=27));exact rfl;exact rfl;exact FnIn.msub (hS [.box g8 28 [.pointer (some ⟨x.gg,0,none⟩),.pointer (some ⟨x.gr,0,none⟩)],.box g2 28 [.pointer none,.pointer none]]) (MSub.refl _);rintro _ _ ⟨rfl,E',clock',R1',rfl,hs1,hG1⟩)|((with_reducible apply wl_callin (f:=28));exact rfl;exact rfl;exact FnIn.msub (hT { x with E:=E',clock:=clock',R1:=R1' } hx.b [.box g8 28 [.pointer (some ⟨x.gg,0,none⟩),.pointer (some ⟨x.gr,0,none⟩)],.box g2 28 [.pointer none,.pointer none]]) (MSub.refl _);rintro _ _ ⟨rfl,A',cap',Q',R2',rfl,hs2,hG2⟩)|((with_reducible apply wc_v);(iterate 3 exact rfl);(with_reducible apply v_neq_same);exact rfl;exact rfl)|refine sT ?_|refine sS ?_|refine sW ?_|refine sN ?_|refine sWN ?_|refine sM fun _=> ?_|(refine sC ?_ ?_<;>intro hb<;>try omega)|(refine sCW ?_ ?_<;>intro hb<;>try omega)|fail)
  all_goals first
   |(exfalso;omega)
   |(refine ⟨(i+1,{ x with E:=E',clock:=clock',R1:=R1',A:=A',cap:=cap',Q:=Q',R2:=R2' },G'),⟨⟨rfl,rfl⟩,hlt,hlt4,⟨hG1,hG2,hg'⟩,(by dsimp only;omega),hst⟩,(by dsimp only;omega),sB,sB,MSub.refl _⟩)
 ·
  have hdr:(L.take 40).drop i= []:=by
   rw [List.drop_eq_nil_iff,List.length_take]
   omega
  rw [hdr,show foldU G []=G from rfl] at hst
  rw [← hst] at hx
  repeat' (first|refine sT ?_|refine sS ?_|refine sN ?_|refine sM fun _=> ?_|(refine sC ?_ ?_<;>intro hb<;>try omega)|fail)
  all_goals first
   |(exfalso;omega)
   |exact retct eIO rfl rfl pK rfl rfl (H' :=x.H) (MSub.drop .hd (MSub.drop .hd (MSub.refl _))) ⟨x,rfl,rfl,hx⟩
end Go.SL
namespace Go.SL
open Go Go.Proofs Go.ChangeShapes Go.WideShapes Go.ChangeAt Go.RowKit Go.Deep
section
variable {H:Type} {enc:TypeId × Value→H} {P:Program} {w:World} {base:Nat} {spare:Nat→Bool} {held:Bool}
theorem post_of_below {f:Func} {s:ChangeSpec} {apart fresh handsOn again:Bool} {W W' :World} {args:Array Value} {v:Value} {ds gs:List (DataW H)} {before pa pv:List MemPlace}
  (hW:DataW.Whole enc P f.params.toList s.vars apart W args.toList ds gs before)
  (hres: ∀ (b:Nat) (sp:Nat→Bool) (hd:Bool),DataW.TrodAll enc P W' b sp hd f.resultTypes.toList (v.resultList f.resultTypes.size) (s.fn H (ds++gs)).results [])
  (hargs: ∀ sp:Nat→Bool,(∀ p∈before,sp p.block=true)→DataW.TrodAll enc P W' 0 sp true f.params.toList args.toList (s.fn H (ds++gs)).args pa)
  (hvars: ∀ sp:Nat→Bool,(∀ p∈before,sp p.block=true)→DataW.TrodVars enc P W' sp s.vars (s.fn H (ds++gs)).vars pv)
  (hps:before=pa++pv) (hb:Below W.heap.size W W')
  (hok: ∀ (j:Nat) (t:TypeId) (r:Value),f.resultTypes[j]? =some t→(v.resultList f.resultTypes.size)[j]? =some r→Value.okWide P W' .any 0 t r):
  s.post enc P f apart fresh handsOn again W args v W' :=by
 have hold: ∀ p∈before,(fun b=>decide (b<W.heap.size)) p.block=true:=fun p hp=>by simpa using hW.lt p hp
 refine ⟨ds,gs,before,[],pa,pv,hW,hres _ _ _,hargs _ hold,hvars _ hold,hb.frame _,fun _=> ?_⟩
 have hlt:=hW.lt
 obtain ⟨_,_,_,_,_,hz,hn⟩:=hW
 refine ⟨hok,_,_,([]++pa)++pv,⟨[]++pa,pv,trodAll_append (hargs _ (fun _ _=>rfl)) (hres _ _ _),hvars _ (fun _ _=>rfl),rfl,?_,?_⟩,?_⟩
 ·
  intro b off hp
  have hp' :MemPlace.cell b off∈before:=by rw [hps];simpa using hp
  have h1:=hz b off hp'
  have h2:=hlt _ hp'
  rw [← h1]
  exact hb.frozen h2
 ·
  intro ha
  have:=hn ha
  rw [hps] at this
  simpa using this
 ·
  intro p hp _
  rw [hps]
  simpa using hp
theorem trod_stays_of {t:TypeId} (hl:laidOutB P=true) (hr:P.readableRec t=true) (hrow:t<P.types.size) {W W' :World} {v:Value} {d:DataW H} {ps:List MemPlace} {sp:Nat→Bool}
  (h:DataW.Trod enc P W 0 (fun _=>true) true t v d ps) (hb:Below W.heap.size W W') (hlt: ∀ x∈ps,x.block<W.heap.size) (hs: ∀ x∈ps,sp x.block=true):DataW.Trod enc P W' 0 sp true t v d ps:=
 WideElems.Trod_stays hl hr hrow h (fun x hx=>hb.same (hlt x hx)) hs
end
theorem Try_own:ownKnob Tryz.prog.godebug=none:=by kernel_rfl
theorem Try_laidOut:laidOutB Tryz.prog=true:=by kernel_rfl
section
variable {H:Type} {enc:TypeId × Value→H} {w:World} {base:Nat} {spare:Nat→Bool} {held:Bool}
theorem cells_flat {α:Type} {enc:α→List Value} {m:Nat} (hm: ∀ a,(enc a).length=m) (w:World) (g o:Nat): ∀ (L:List α),(∀ (i:Nat) (a:α),L[i]? =some a→Cells w g (o+i*m) (enc a))→Cells w g o (L.flatMap enc):=by
 intro L h j v hv
 by_cases hm0:m=0
 ·
  have:(L.flatMap enc).length=0:=by rw [flat_length' hm,hm0,Nat.mul_zero]
  rw [List.getElem?_eq_none (by omega)] at hv
  cases hv
 have hlen:(L.flatMap enc).length=L.length*m:=flat_length' hm L
 have hj:j<(L.flatMap enc).length:=(List.getElem?_eq_some_iff.1 hv).1
 have hi:j / m<L.length:=by rw [Nat.div_lt_iff_lt_mul (by omega)];omega
 have hk:j % m<m:=Nat.mod_lt _ (by omega)
 have he:j / m*m+j % m=j:=by rw [Nat.mul_comm];exact Nat.div_add_mod j m
 have h1:=flat_cell hm L (j / m) (j % m) hi hk
 rw [he,hv] at h1
 have h2:=h (j / m) L[j / m] (List.getElem?_eq_getElem hi) (j % m) v h1.symm
 rw [show o+j / m*m+j % m=o+j by omega] at h2
 exact h2
theorem open_rows {α:Type} [Inhabited α] {encA:α→List Value} {ok:α→Prop} {P:Program} {t e m fuel:Nat} {cs:List Value} {x:DataW H × List MemPlace} (ht:P.underlying t=some (.slice e)) (hm:P.cellsOf e=m) (hm0:0<m) (hlenA: ∀ a,(encA a).length=m)
  (helem: ∀ (n:Nat) (cs:List Value) (y:DataW H × List MemPlace),DataW.trod enc P w 0 spare held n e cs=some y→ ∃ a,cs=encA a∧ok a) (h:DataW.trod enc P w 0 spare held fuel t cs=some x):
  ∃ (v:Value) (L:List α),cs= [v]∧Reads w v L.length (L.flatMap encA)∧ ∀ a∈L,ok a:=by
 rcases open_slice ht h with ⟨h0,_⟩|⟨a,len,cap,mm,n,D,Pl,h0,hb,hl,hmx,hmm,_,hx⟩
 ·
  exact ⟨_,[],h0,⟨none,0,rfl,Nat.le_refl _,Nat.zero_le _,fun h=>by cases h⟩,fun _ h=>by cases h⟩
 ·
  have hlm:len≤mm:=by rw [hmm];split<;>omega
  obtain ⟨F,hF⟩:=choose_lt (α:=α) (n:=len) (p:=fun i nd=>w.cells? 0 (a.add (i*m)) m=some (encA nd)∧ok nd) (fun i hi=>by
   obtain ⟨cs',h1,h2⟩:=hx i (by omega)
   rw [hm] at h1
   obtain ⟨nd,rfl,hw⟩:=helem _ _ _ h2
   exact ⟨nd,h1,hw⟩)
  have hlen:((List.range len).map F).length=len:=by simp
  refine ⟨_,(List.range len).map F,h0,⟨some a,cap,by rw [hlen],by omega,hmx,fun hpos=> ?_⟩,fun n hn=> ?_⟩
  rotate_left
  ·
   obtain ⟨i,hi,rfl⟩:=List.mem_map.1 hn
   exact (hF i (List.mem_range.1 hi)).2
  rw [hlen] at hpos
  obtain ⟨g,o,spot⟩:=a
  have hspot:spot=none:=by
   obtain ⟨_,_,h3⟩:=World.cells?_some (hF 0 (by omega)).1
   have h4' :=h3 0 hm0
   rw [List.getElem?_eq_getElem (by rw [hlenA];exact hm0)] at h4'
   have h4:=World.cell?_spot h4'
   simpa [Addr.add] using h4
  subst hspot
  have hcell: ∀ (i:Nat) (nd:α),((List.range len).map F)[i]? =some nd→Cells w g (o+i*m) (encA nd):=by
   intro i nd hnd k v hv
   have hil:i<len:=by have:=(List.getElem?_eq_some_iff.1 hnd).1;omega
   have hnd' :F i=nd:=by simpa [hil] using hnd
   subst hnd'
   have hk:k<m:=by have:=(List.getElem?_eq_some_iff.1 hv).1;rwa [hlenA] at this
   obtain ⟨_,_,h3⟩:=World.cells?_some (hF i hil).1
   have:=h3 k hk
   rw [hv,addr_add,addr_add] at this
   exact this
  refine ⟨g,o,rfl,?_,cells_flat hlenA w g o _ hcell⟩
  obtain ⟨u,hu⟩: ∃ u,(encA (F 0))[0]? =some u:=⟨_,List.getElem?_eq_getElem (by rw [hlenA];exact hm0)⟩
  have h5:=hcell 0 (F 0) (by simp [hpos]) 0 u hu
  simp only [World.cell?] at h5
  split at h5
  ·
   rename_i h6
   exact (Array.getElem?_eq_some_iff.1 h6).1
  ·
   cases h5
theorem trod_i {n:Nat} {c:Value} {x:DataW H × List MemPlace} (h:DataW.trod enc Tryz.prog w base spare held n 3 [c]=some x): ∃ a,c= .int .i64 a∧I64 a:=by
 obtain ⟨a0,q0,_,w0⟩:=DataW.trod_int Tryz.underlying3 h
 simp only [List.cons.injEq,and_true] at q0
 exact ⟨a0,q0,bounds_i64 w0⟩
theorem trod_s {n:Nat} {c:Value} {x:DataW H × List MemPlace} (h:DataW.trod enc Tryz.prog w base spare held n 9 [c]=some x): ∃ a,c= .string a:=by
 obtain ⟨a0,q0,_⟩:=DataW.trod_string Tryz.underlying9 h
 simp only [List.cons.injEq,and_true] at q0
 exact ⟨a0,q0⟩
def okPu (p:Pu):Prop:=I64 p.col∧I64 p.row
set_option maxRecDepth 100000 in
theorem trod_put {fuel:Nat} {cs:List Value} {x:DataW H × List MemPlace} (h:DataW.trod enc Tryz.prog w base spare held fuel 73 cs=some x): ∃ v:Pu,cs=encPu v∧okPu v:=by
 obtain ⟨xs,n,_,_,hlen,hxl,hf⟩:=DataW.trod_struct Tryz.underlying73 h
 have eS:Tryz.prog.cellsOf 73=3:=by kernel_rfl
 have eI:Tryz.prog.cellsOf 3=1:=by kernel_rfl
 have eT:Tryz.prog.cellsOf 9=1:=by kernel_rfl
 rw [eS] at hlen
 match cs,hlen,xs,hxl with
 | [c0,c1,c2],_,[x0,x1,x2],_=>
  have h0:DataW.trod enc Tryz.prog w base spare held n 3 ((([c0,c1,c2]:List Value).drop 0).take (Tryz.prog.cellsOf 3))=some x0:=hf 0 _ rfl
  rw [eI] at h0
  obtain ⟨a0,rfl,w0⟩:=trod_i (c:=c0) h0
  have h1:DataW.trod enc Tryz.prog w base spare held n 3 ((([Value.int .i64 a0,c1,c2]:List Value).drop 1).take (Tryz.prog.cellsOf 3))=some x1:=hf 1 _ rfl
  rw [eI] at h1
  obtain ⟨a1,rfl,w1⟩:=trod_i (c:=c1) h1
  have h2:DataW.trod enc Tryz.prog w base spare held n 9 ((([Value.int .i64 a0,.int .i64 a1,c2]:List Value).drop 2).take (Tryz.prog.cellsOf 9))=some x2:=hf 2 _ rfl
  rw [eT] at h2
  obtain ⟨a2,rfl⟩:=trod_s (c:=c2) h2
  exact ⟨⟨a0,a1,a2⟩,rfl,w0,w1⟩
instance:Inhabited Pu:=⟨⟨0,0,emptyB⟩⟩
set_option maxRecDepth 100000 in
theorem open_list {α:Type} [Inhabited α] {encA:α→List Value} {ok:α→Prop} {t e m:Nat} {v:Value} {d:DataW H} {p:List MemPlace} (ht:Tryz.prog.underlying t=some (.slice e)) (hm:Tryz.prog.cellsOf e=m) (hm0:0<m) (hlenA: ∀ a,(encA a).length=m)
  (helem: ∀ (n:Nat) (cs:List Value) (y:DataW H × List MemPlace),DataW.trod enc Tryz.prog w 0 spare held n e cs=some y→ ∃ a,cs=encA a∧ok a)
  (hv:Value.okWide Tryz.prog w .any base t v) (h:DataW.Trod enc Tryz.prog w 0 spare held t v d p): ∃ L:List α,Reads w v L.length (L.flatMap encA)∧ ∀ a∈L,ok a:=by
 obtain ⟨fuel,hf⟩:=h
 have hc:v.cells.toList= [v]:=by
  obtain ⟨a,n,c,rfl⟩:=okWide_slice ht hv
  rfl
 rw [hc] at hf
 obtain ⟨v',L,q,h1,h2⟩:=open_rows ht hm hm0 hlenA helem hf
 simp only [List.cons.injEq,and_true] at q
 subst q
 exact ⟨L,h1,h2⟩
set_option maxRecDepth 100000 in
theorem open_puts {v:Value} {d:DataW H} {p:List MemPlace} (hv:Value.okWide Tryz.prog w .any base 22 v) (h:DataW.Trod enc Tryz.prog w 0 spare held 22 v d p): ∃ L:List Pu,Reads w v L.length (L.flatMap encPu)∧ ∀ a∈L,okPu a:=
 open_list Tryz.underlying22 (by kernel_rfl) (by decide) encPu_len (fun _ _ _ h=>trod_put h) hv h
end
end Go.SL
