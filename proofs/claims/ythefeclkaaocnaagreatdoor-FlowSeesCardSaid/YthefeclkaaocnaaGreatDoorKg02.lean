/-
  Lemmas and walks, put together: Sl2 Sl4 Ty La Ra Rb Pg2 Pf Fp Ng Nd Ne.
-/
import Derived.Test.YthefeclkaaocnaaGreatDoorKg01
set_option linter.unusedSimpArgs false
set_option linter.unusedVariables false
set_option maxRecDepth 20000
namespace Go.SL
open Go Go.RowKit
open Go.Proofs
attribute [local irreducible] W WL WQ WG WA WX WLI WR WT WC WE VOp RW thn blk bF scp ba aZ bC FnAt FnIn FnP ceP gA cP dR
set_option maxHeartbeats 16000000 in
theorem FZ (L : List Et) (R : List Rl) (N : List Gn) (T : List Rf) (lv rv nv tv : Value) (w : World) (hl : Reads w lv L.length (L.flatMap du)) (hr : Reads w rv R.length (R.flatMap bM)) (hn : Reads w nv N.length (N.flatMap bp)) (ht : Reads w tv T.length (T.flatMap aC)) (hW : Words w) :
    aD Tryz.prog 7 [lv, rv, nv, tv] w (.bool true) := by
  have hg := fun (w' : World) (H : List Blk) (hm : Mem w w' H) => mN L R N lv rv nv w' (hl.of_w0 hm) (hr.of_w0 hm) (hn.of_w0 hm)
  have haw := fun (w' : World) (H : List Blk) (hm : Mem w w' H) => n9 w' (hW.next hm)
  refine ax Tryz.func7 rfl Tryz.ntmps7 rfl ?_
  have ht2 := ht
  obtain ⟨At, ct, rfl, -⟩ := ht
  cases hgd : tz L R N with
  | false =>
    rw [hgd] at hg
    obtain ⟨Al, cl, rfl, -⟩ := hl
    obtain ⟨Ar, cr, rfl, -⟩ := hr
    obtain ⟨An, cn, rfl, -⟩ := hn
    repeat' (first
      | ((with_reducible apply aa (f := 32)); exact rfl; exact rfl; (intro w' hm; exact hg w' _ hm))
      | ((with_reducible apply ak); exact rfl; (first | ((with_reducible apply QY); exact rfl) | ((with_reducible apply Dz); exact rfl) | ((with_reducible apply SI); exact rfl) | ((with_reducible apply Mx); exact rfl) | ((with_reducible apply w7); exact rfl; (repeat first | exact .hd | apply Sel.tl | apply In.tl); exact rfl) | ((with_reducible apply Rx); exact rfl; exact rfl) | ((with_reducible apply Mw); exact rfl; exact rfl) | ((with_reducible apply Dx); exact rfl; (repeat first | exact .hd | apply Sel.tl | apply In.tl); exact rfl) | ((with_reducible apply oH); exact rfl; (repeat first | exact .hd | apply Sel.tl | apply In.tl); exact rfl; exact rfl) | ((with_reducible apply v_shr); exact rfl; exact rfl; exact rfl) | ((with_reducible apply O7); exact rfl) | ((with_reducible apply v_neqpn); exact rfl)))
      | ((with_reducible apply OW); exact rfl; exact rfl)
      | ((with_reducible apply Me); exact rfl; exact rfl; exact rfl; exact rfl)
      | ((with_reducible apply Mc); exact rfl; exact rfl; exact rfl)
      | ((with_reducible apply Mi); exact rfl; intro _)
      | ((with_reducible apply y6); exact rfl; exact rfl; (repeat first | exact .hd | apply Sel.tl | apply In.tl); exact rfl; exact rfl; exact rfl)
      | ((with_reducible apply Dg); exact rfl; exact rfl; (repeat first | exact .hd | apply Sel.tl | apply In.tl); exact rfl; exact rfl; exact rfl; exact rfl)
      | ((with_reducible apply J1) <;> first | exact rfl | (intro hb; (replace hb := Tidy.out hb; try (exfalso; omega))))
      | (with_reducible first | apply F9 | apply SQ | apply Sw | apply Mr | apply Sx | apply QT | apply QW | apply O3 | apply SN | apply SS | apply Tl | apply Ti | apply Tm | apply O0 | apply O2 | apply scp_n | apply SU | apply scp_e)
      | ((with_reducible apply Du); exact rfl)
      | ((with_reducible apply BC); exact rfl)
      | ((with_reducible apply QX) <;> first | exact rfl | (intro hb; (replace hb := Tidy.out hb; try (exfalso; omega))))
      | ((with_reducible apply Th); exact rfl))
    all_goals first | (exfalso; omega) | (((with_reducible apply cA); exact .inl rfl; exact rfl; exact rfl; exact MSub.nil _); rfl) | trace_state
  | true =>
    rw [hgd] at hg
    obtain ⟨k1, k2, k3, hL, hN, G, hG, hGo, hGl⟩ := pI hgd
    have hmd := fun (w' : World) (H : List Blk) (hm : Mem w w' H) => qi L hG k1 lv w' (hl.of_w0 hm) (hW.next hm)
    obtain ⟨Al, cl, rfl, -⟩ := hl
    have hr2 := hr
    have hn2 := hn
    obtain ⟨Ar, cr, rfl, -⟩ := hr
    obtain ⟨An, cn, rfl, -⟩ := hn
    have hKl : (aq G).length ≤ 40 := by rw [aq, Uf]; omega
    have hTf : (T.flatMap aC).length = T.length * 2 := aR fj T
    by_cases h10 : 10 < T.length
    · repeat' (first
        | ((with_reducible apply aa (f := 32)); exact rfl; exact rfl; (intro w' hm; exact hg w' _ hm))
        | ((with_reducible apply ak); exact rfl; (first | ((with_reducible apply QY); exact rfl) | ((with_reducible apply Dz); exact rfl) | ((with_reducible apply SI); exact rfl) | ((with_reducible apply Mx); exact rfl) | ((with_reducible apply w7); exact rfl; (repeat first | exact .hd | apply Sel.tl | apply In.tl); exact rfl) | ((with_reducible apply Rx); exact rfl; exact rfl) | ((with_reducible apply Mw); exact rfl; exact rfl) | ((with_reducible apply Dx); exact rfl; (repeat first | exact .hd | apply Sel.tl | apply In.tl); exact rfl) | ((with_reducible apply oH); exact rfl; (repeat first | exact .hd | apply Sel.tl | apply In.tl); exact rfl; exact rfl) | ((with_reducible apply v_shr); exact rfl; exact rfl; exact rfl) | ((with_reducible apply O7); exact rfl) | ((with_reducible apply v_neqpn); exact rfl)))
        | ((with_reducible apply OW); exact rfl; exact rfl)
        | ((with_reducible apply Me); exact rfl; exact rfl; exact rfl; exact rfl)
        | ((with_reducible apply Mc); exact rfl; exact rfl; exact rfl)
        | ((with_reducible apply Mi); exact rfl; intro _)
        | ((with_reducible apply y6); exact rfl; exact rfl; (repeat first | exact .hd | apply Sel.tl | apply In.tl); exact rfl; exact rfl; exact rfl)
        | ((with_reducible apply Dg); exact rfl; exact rfl; (repeat first | exact .hd | apply Sel.tl | apply In.tl); exact rfl; exact rfl; exact rfl; exact rfl)
        | ((with_reducible apply J1) <;> first | exact rfl | (intro hb; (replace hb := Tidy.out hb; try (exfalso; omega))))
        | (with_reducible first | apply F9 | apply SQ | apply Sw | apply Mr | apply Sx | apply QT | apply QW | apply O3 | apply SN | apply SS | apply Tl | apply Ti | apply Tm | apply O0 | apply O2 | apply scp_n | apply SU | apply scp_e)
        | ((with_reducible apply Du); exact rfl)
        | ((with_reducible apply BC); exact rfl)
        | ((with_reducible apply QX) <;> first | exact rfl | (intro hb; (replace hb := Tidy.out hb; try (exfalso; omega))))
        | ((with_reducible apply Th); exact rfl))
      all_goals first | (exfalso; omega) | (((with_reducible apply cA); exact .inl rfl; exact rfl; exact rfl; exact MSub.nil _); rfl) | trace_state
    repeat' (first
      | ((with_reducible apply aa (f := 32)); exact rfl; exact rfl; (intro w' hm; exact hg w' _ hm))
      | ((with_reducible apply aF (f := 33)); exact rfl; exact rfl; (intro w' hm; exact hmd w' _ hm); rintro _ _ ⟨gg, gm, E, clock, Rb, rfl, rfl, hA⟩; refine pW (gB gg gm (E.map En.m) clock ++ Rb) (MSub.appL _ _) ?_)
      | ((with_reducible apply au (f := 34)); exact rfl; exact rfl; exact (hA.rdr hGo (by omega) gg gm w).fm _ (MSub.refl _); rintro _ _ ⟨Ac, cap, rfl, rfl⟩)
      | ((with_reducible apply eF (n' := (aq G).length) (c := cap) (A := Ac) (m := T.length)); exact rfl; exact rfl; exact rfl; (repeat first | exact .hd | apply Sel.tl | apply In.tl); (intro w' hm; exact ht2.of_w0 hm); exact hTf; exact yC T; omega; (simp only [maxLen]; omega); intro A2 cap2 _)
      | ((with_reducible apply ak); exact rfl; (first | ((with_reducible apply QY); exact rfl) | ((with_reducible apply Dz); exact rfl) | ((with_reducible apply SI); exact rfl) | ((with_reducible apply Mx); exact rfl) | ((with_reducible apply w7); exact rfl; (repeat first | exact .hd | apply Sel.tl | apply In.tl); exact rfl) | ((with_reducible apply Rx); exact rfl; exact rfl) | ((with_reducible apply Mw); exact rfl; exact rfl) | ((with_reducible apply Dx); exact rfl; (repeat first | exact .hd | apply Sel.tl | apply In.tl); exact rfl) | ((with_reducible apply oH); exact rfl; (repeat first | exact .hd | apply Sel.tl | apply In.tl); exact rfl; exact rfl) | ((with_reducible apply v_shr); exact rfl; exact rfl; exact rfl) | ((with_reducible apply O7); exact rfl) | ((with_reducible apply v_neqpn); exact rfl)))
      | ((with_reducible apply OW); exact rfl; exact rfl)
      | ((with_reducible apply Me); exact rfl; exact rfl; exact rfl; exact rfl)
      | ((with_reducible apply Mc); exact rfl; exact rfl; exact rfl)
      | ((with_reducible apply Mi); exact rfl; intro _)
      | ((with_reducible apply y6); exact rfl; exact rfl; (repeat first | exact .hd | apply Sel.tl | apply In.tl); exact rfl; exact rfl; exact rfl)
      | ((with_reducible apply Dg); exact rfl; exact rfl; (repeat first | exact .hd | apply Sel.tl | apply In.tl); exact rfl; exact rfl; exact rfl; exact rfl)
      | ((with_reducible apply J1) <;> first | exact rfl | (intro hb; (replace hb := Tidy.out hb; try (exfalso; omega))))
      | (with_reducible first | apply F9 | apply SQ | apply Sw | apply Mr | apply Sx | apply QT | apply QW | apply O3 | apply SN | apply SS | apply Tl | apply Ti | apply Tm | apply O0 | apply O2 | apply scp_n | apply SU | apply scp_e)
      | ((with_reducible apply Du); exact rfl)
      | ((with_reducible apply BC); exact rfl)
      | ((with_reducible apply QX) <;> first | exact rfl | (intro hb; (replace hb := Tidy.out hb; try (exfalso; omega))))
      | ((with_reducible apply Th); exact rfl))
    all_goals first | (exfalso; omega) | skip
    have hR := hA.rdr hGo (by omega) gg gm w
    generalize gB gg gm (E.map En.m) clock ++ Rb = B at hR ⊢
    rw [show (aq G).length + T.length = (aq G ++ T).length from TG.symm, ← List.flatMap_append]
    have hMl : (aq G ++ T).length ≤ 60 := by rw [List.length_append]; omega
    generalize aq G ++ T = M at hMl ⊢
    refine ay [1, 2, 9, 10] rfl (fun i : Nat => [(11, .int .i64 (i : Int))]) (fun _ => .own A2 51 2 M.length cap2 (M.flatMap aC) :: B) (fun i => i ≤ M.length) (fun i => M.length - i) 0 (TW _) (by (repeat (first | exact Sub.nil _ | refine Sub.cons rfl ?_))) (by (repeat (first | exact MSub.nil _ | refine MSub.pick (by (repeat first | exact .hd | apply Sel.tl | apply In.tl)) ?_ | exact MSub.refl _ | refine MSub.drop .hd ?_))) ?_
    rintro i hi
    by_cases hlt : i < M.length
    · refine bK (A := A2) (by (repeat first | exact .hd | apply Sel.tl | apply In.tl)) (by omega) fun gk hA => ?_
      subst hA
      have hread := xJ hlt
      generalize M[i] = a at hread
      have hva : a.valid = true ↔ 1 ≤ a.col ∧ a.col ≤ 1024 ∧ 1 ≤ a.row ∧ a.row ≤ 1024 := zI
      by_cases hv : a.valid = true
      · have hv2 := hva.1 hv
        have hlb := JF (G := G) hL hN hv
        have hbit := fun i => iQ (G := G) (w := aI R N) (a := a) (i := i)
        obtain ⟨lb, hlbe⟩ : ∃ x, dr G (aI R N) a = x := ⟨_, rfl⟩
        simp only [hlbe] at hlb hbit
        clear hva
        repeat' (first
          | ((with_reducible apply ak); exact rfl; (with_reducible apply aj (j := i)); exact rfl; exact rfl; exact hlt)
          | ((with_reducible apply ak); exact rfl; (with_reducible apply aA); exact rfl; (repeat first | exact .hd | apply Sel.tl | apply In.tl); exact hread; exact rfl)
          | ((with_reducible apply au (f := 35)); exact rfl; exact rfl; exact tM hlb hR (by (repeat (first | exact MSub.nil _ | refine MSub.pick (by (repeat first | exact .hd | apply Sel.tl | apply In.tl)) ?_ | exact MSub.refl _ | refine MSub.drop .hd ?_))) Ar An cr cn (fun w' hm => hr2.of_w0 hm) (fun w' hm => hn2.of_w0 hm) (by omega); rintro _ _ ⟨rfl, rfl⟩)
          | ((with_reducible apply ak); exact rfl; (first | ((with_reducible apply QY); exact rfl) | ((with_reducible apply Dz); exact rfl) | ((with_reducible apply SI); exact rfl) | ((with_reducible apply Mx); exact rfl) | ((with_reducible apply w7); exact rfl; (repeat first | exact .hd | apply Sel.tl | apply In.tl); exact rfl) | ((with_reducible apply Rx); exact rfl; exact rfl) | ((with_reducible apply Mw); exact rfl; exact rfl) | ((with_reducible apply Dx); exact rfl; (repeat first | exact .hd | apply Sel.tl | apply In.tl); exact rfl) | ((with_reducible apply oH); exact rfl; (repeat first | exact .hd | apply Sel.tl | apply In.tl); exact rfl; exact rfl) | ((with_reducible apply v_shr); exact rfl; exact rfl; exact rfl) | ((with_reducible apply O7); exact rfl) | ((with_reducible apply v_neqpn); exact rfl)))
          | ((with_reducible apply OW); exact rfl; exact rfl)
          | ((with_reducible apply Me); exact rfl; exact rfl; exact rfl; exact rfl)
          | ((with_reducible apply Mc); exact rfl; exact rfl; exact rfl)
          | ((with_reducible apply Mi); exact rfl; intro _)
          | ((with_reducible apply y6); exact rfl; exact rfl; (repeat first | exact .hd | apply Sel.tl | apply In.tl); exact rfl; exact rfl; exact rfl)
          | ((with_reducible apply Dg); exact rfl; exact rfl; (repeat first | exact .hd | apply Sel.tl | apply In.tl); exact rfl; exact rfl; exact rfl; exact rfl)
          | ((with_reducible apply J1) <;> first | exact rfl | (intro hb; (replace hb := Tidy.out hb; try (exfalso; omega))))
          | (with_reducible first | apply F9 | apply SQ | apply Sw | apply Mr | apply Sx | apply QT | apply QW | apply O3 | apply SN | apply SS | apply Tl | apply Ti | apply Tm | apply O0 | apply O2 | apply scp_n | apply SU | apply scp_e)
          | ((with_reducible apply Du); exact rfl)
          | ((with_reducible apply BC); exact rfl)
          | ((with_reducible apply QX) <;> first | exact rfl | (intro hb; (replace hb := Tidy.out hb; try (exfalso; omega))))
          | ((with_reducible apply Th); exact rfl)
          | ((with_reducible apply ak); exact rfl; (with_reducible apply lp); exact rfl; exact rfl; (simp only [maxLen] at *; omega))
          | ((with_reducible apply ak); exact rfl; (with_reducible apply Je); exact rfl; exact rfl; (simp only [maxLen] at *; omega))
          | ((with_reducible apply ak); exact rfl; (with_reducible apply dP); exact rfl; exact rfl; (simp only [maxLen] at *; omega)))
        all_goals first | (exfalso; omega) | skip
        rename_i g12 _ _ _
        refine ay [1, 2, 9, 10, 11, 12, 13] rfl (fun u : Nat => [(15, .int .i64 (u : Int))]) (fun _ => .box g12 51 (aC a) :: .own (some gk) 51 2 M.length cap2 (M.flatMap aC) :: B) (fun u => u ≤ 5) (fun u => 5 - u) 0 (TW _) (by (repeat (first | exact Sub.nil _ | refine Sub.cons rfl ?_))) (by (repeat (first | exact MSub.nil _ | refine MSub.pick (by (repeat first | exact .hd | apply Sel.tl | apply In.tl)) ?_ | exact MSub.refl _ | refine MSub.drop .hd ?_))) ?_
        rintro u hu
        by_cases hltu : u < 5
        · have hb1 := CQ lb u
          have hbu := hbit u
          have hSe := fun (F : List Blk) (hB : MSub B F) => Ky u (by omega) a hv gg G B F w hR hB R N Ar An cr cn (fun w' hm => hr2.of_w0 hm) (fun w' hm => hn2.of_w0 hm) (by omega) hL hN
          obtain ⟨bb, hbb⟩ : ∃ x, lb.getLsbD u = x := ⟨_, rfl⟩
          rw [hbb] at hb1 hbu
          repeat' (first
            | ((with_reducible apply ak); exact rfl; (with_reducible apply bB (c := (u : Int))); exact rfl; (simp only [IntKind.wrap_u64]; omega))
            | ((with_reducible apply ak); exact rfl; (with_reducible apply m7 (m := u)); exact rfl; exact rfl; omega)
            | ((with_reducible apply ak); exact rfl; (with_reducible apply tR); exact rfl; exact rfl)
            | ((with_reducible apply ak); exact rfl; (with_reducible apply fW hb1); exact rfl; exact rfl)
            | ((with_reducible apply au (f := 36)); exact rfl; exact rfl; exact hSe _ (by (repeat (first | exact MSub.nil _ | refine MSub.pick (by (repeat first | exact .hd | apply Sel.tl | apply In.tl)) ?_ | exact MSub.refl _ | refine MSub.drop .hd ?_))); (rintro _ _ ⟨b2, rfl, h2, rfl⟩; obtain rfl : bb = b2 := Uy.2 (hbu.trans h2.symm)))
            | ((with_reducible apply ak); exact rfl; (with_reducible apply BF); exact rfl; exact rfl)
            | ((with_reducible apply ak); exact rfl; (first | ((with_reducible apply QY); exact rfl) | ((with_reducible apply Dz); exact rfl) | ((with_reducible apply SI); exact rfl) | ((with_reducible apply Mx); exact rfl) | ((with_reducible apply w7); exact rfl; (repeat first | exact .hd | apply Sel.tl | apply In.tl); exact rfl) | ((with_reducible apply Rx); exact rfl; exact rfl) | ((with_reducible apply Mw); exact rfl; exact rfl) | ((with_reducible apply Dx); exact rfl; (repeat first | exact .hd | apply Sel.tl | apply In.tl); exact rfl) | ((with_reducible apply oH); exact rfl; (repeat first | exact .hd | apply Sel.tl | apply In.tl); exact rfl; exact rfl) | ((with_reducible apply v_shr); exact rfl; exact rfl; exact rfl) | ((with_reducible apply O7); exact rfl) | ((with_reducible apply v_neqpn); exact rfl)))
            | ((with_reducible apply OW); exact rfl; exact rfl)
            | ((with_reducible apply Me); exact rfl; exact rfl; exact rfl; exact rfl)
            | ((with_reducible apply Mc); exact rfl; exact rfl; exact rfl)
            | ((with_reducible apply Mi); exact rfl; intro _)
            | ((with_reducible apply y6); exact rfl; exact rfl; (repeat first | exact .hd | apply Sel.tl | apply In.tl); exact rfl; exact rfl; exact rfl)
            | ((with_reducible apply Dg); exact rfl; exact rfl; (repeat first | exact .hd | apply Sel.tl | apply In.tl); exact rfl; exact rfl; exact rfl; exact rfl)
            | ((with_reducible apply J1) <;> first | exact rfl | (intro hb; (replace hb := Tidy.out hb; try (exfalso; omega))))
            | (with_reducible first | apply F9 | apply SQ | apply Sw | apply Mr | apply Sx | apply QT | apply QW | apply O3 | apply SN | apply SS | apply Tl | apply Ti | apply Tm | apply O0 | apply O2 | apply scp_n | apply SU | apply scp_e)
            | ((with_reducible apply Du); exact rfl)
            | ((with_reducible apply BC); exact rfl)
            | ((with_reducible apply QX) <;> first | exact rfl | (intro hb; (replace hb := Tidy.out hb; try (exfalso; omega))))
            | ((with_reducible apply Th); exact rfl)
            | ((with_reducible apply ak); exact rfl; (with_reducible apply lp); exact rfl; exact rfl; (simp only [maxLen] at *; omega))
            | ((with_reducible apply ak); exact rfl; (with_reducible apply Je); exact rfl; exact rfl; (simp only [maxLen] at *; omega))
            | ((with_reducible apply ak); exact rfl; (with_reducible apply dP); exact rfl; exact rfl; (simp only [maxLen] at *; omega)))
          all_goals first
            | (exfalso; omega)
            | (refine ⟨u + 1, hltu, by omega, by (repeat (first | exact Sub.nil _ | refine Sub.cons rfl ?_)), by (repeat (first | exact Sub.nil _ | refine Sub.cons rfl ?_)), by (repeat (first | exact MSub.nil _ | refine MSub.pick (by (repeat first | exact .hd | apply Sel.tl | apply In.tl)) ?_ | exact MSub.refl _ | refine MSub.drop .hd ?_))⟩; done)
            | trace_state
        · repeat' (first
            | ((with_reducible apply ak); exact rfl; (first | ((with_reducible apply QY); exact rfl) | ((with_reducible apply Dz); exact rfl) | ((with_reducible apply SI); exact rfl) | ((with_reducible apply Mx); exact rfl) | ((with_reducible apply w7); exact rfl; (repeat first | exact .hd | apply Sel.tl | apply In.tl); exact rfl) | ((with_reducible apply Rx); exact rfl; exact rfl) | ((with_reducible apply Mw); exact rfl; exact rfl) | ((with_reducible apply Dx); exact rfl; (repeat first | exact .hd | apply Sel.tl | apply In.tl); exact rfl) | ((with_reducible apply oH); exact rfl; (repeat first | exact .hd | apply Sel.tl | apply In.tl); exact rfl; exact rfl) | ((with_reducible apply v_shr); exact rfl; exact rfl; exact rfl) | ((with_reducible apply O7); exact rfl) | ((with_reducible apply v_neqpn); exact rfl)))
            | ((with_reducible apply OW); exact rfl; exact rfl)
            | ((with_reducible apply Me); exact rfl; exact rfl; exact rfl; exact rfl)
            | ((with_reducible apply Mc); exact rfl; exact rfl; exact rfl)
            | ((with_reducible apply Mi); exact rfl; intro _)
            | ((with_reducible apply y6); exact rfl; exact rfl; (repeat first | exact .hd | apply Sel.tl | apply In.tl); exact rfl; exact rfl; exact rfl)
            | ((with_reducible apply Dg); exact rfl; exact rfl; (repeat first | exact .hd | apply Sel.tl | apply In.tl); exact rfl; exact rfl; exact rfl; exact rfl)
            | ((with_reducible apply J1) <;> first | exact rfl | (intro hb; (replace hb := Tidy.out hb; try (exfalso; omega))))
            | (with_reducible first | apply F9 | apply SQ | apply Sw | apply Mr | apply Sx | apply QT | apply QW | apply O3 | apply SN | apply SS | apply Tl | apply Ti | apply Tm | apply O0 | apply O2 | apply scp_n | apply SU | apply scp_e)
            | ((with_reducible apply Du); exact rfl)
            | ((with_reducible apply BC); exact rfl)
            | ((with_reducible apply QX) <;> first | exact rfl | (intro hb; (replace hb := Tidy.out hb; try (exfalso; omega))))
            | ((with_reducible apply Th); exact rfl)
            | ((with_reducible apply ak); exact rfl; (with_reducible apply lp); exact rfl; exact rfl; (simp only [maxLen] at *; omega))
            | ((with_reducible apply ak); exact rfl; (with_reducible apply Je); exact rfl; exact rfl; (simp only [maxLen] at *; omega))
            | ((with_reducible apply ak); exact rfl; (with_reducible apply dP); exact rfl; exact rfl; (simp only [maxLen] at *; omega)))
          all_goals first
            | (exfalso; omega)
            | (refine ⟨i + 1, hlt, by omega, by (repeat (first | exact Sub.nil _ | refine Sub.cons rfl ?_)), by (repeat (first | exact Sub.nil _ | refine Sub.cons rfl ?_)), by (repeat (first | exact MSub.nil _ | refine MSub.pick (by (repeat first | exact .hd | apply Sel.tl | apply In.tl)) ?_ | exact MSub.refl _ | refine MSub.drop .hd ?_))⟩; done)
            | trace_state
      · have hv2 := fun h => hv (hva.2 h)
        clear hva
        repeat' (first
          | ((with_reducible apply ak); exact rfl; (with_reducible apply aj (j := i)); exact rfl; exact rfl; exact hlt)
          | ((with_reducible apply ak); exact rfl; (with_reducible apply aA); exact rfl; (repeat first | exact .hd | apply Sel.tl | apply In.tl); exact hread; exact rfl)
          | ((with_reducible apply ak); exact rfl; (first | ((with_reducible apply QY); exact rfl) | ((with_reducible apply Dz); exact rfl) | ((with_reducible apply SI); exact rfl) | ((with_reducible apply Mx); exact rfl) | ((with_reducible apply w7); exact rfl; (repeat first | exact .hd | apply Sel.tl | apply In.tl); exact rfl) | ((with_reducible apply Rx); exact rfl; exact rfl) | ((with_reducible apply Mw); exact rfl; exact rfl) | ((with_reducible apply Dx); exact rfl; (repeat first | exact .hd | apply Sel.tl | apply In.tl); exact rfl) | ((with_reducible apply oH); exact rfl; (repeat first | exact .hd | apply Sel.tl | apply In.tl); exact rfl; exact rfl) | ((with_reducible apply v_shr); exact rfl; exact rfl; exact rfl) | ((with_reducible apply O7); exact rfl) | ((with_reducible apply v_neqpn); exact rfl)))
          | ((with_reducible apply OW); exact rfl; exact rfl)
          | ((with_reducible apply Me); exact rfl; exact rfl; exact rfl; exact rfl)
          | ((with_reducible apply Mc); exact rfl; exact rfl; exact rfl)
          | ((with_reducible apply Mi); exact rfl; intro _)
          | ((with_reducible apply y6); exact rfl; exact rfl; (repeat first | exact .hd | apply Sel.tl | apply In.tl); exact rfl; exact rfl; exact rfl)
          | ((with_reducible apply Dg); exact rfl; exact rfl; (repeat first | exact .hd | apply Sel.tl | apply In.tl); exact rfl; exact rfl; exact rfl; exact rfl)
          | ((with_reducible apply J1) <;> first | exact rfl | (intro hb; (replace hb := Tidy.out hb; try (exfalso; omega))))
          | (with_reducible first | apply F9 | apply SQ | apply Sw | apply Mr | apply Sx | apply QT | apply QW | apply O3 | apply SN | apply SS | apply Tl | apply Ti | apply Tm | apply O0 | apply O2 | apply scp_n | apply SU | apply scp_e)
          | ((with_reducible apply Du); exact rfl)
          | ((with_reducible apply BC); exact rfl)
          | ((with_reducible apply QX) <;> first | exact rfl | (intro hb; (replace hb := Tidy.out hb; try (exfalso; omega))))
          | ((with_reducible apply Th); exact rfl)
          | ((with_reducible apply ak); exact rfl; (with_reducible apply lp); exact rfl; exact rfl; (simp only [maxLen] at *; omega))
          | ((with_reducible apply ak); exact rfl; (with_reducible apply Je); exact rfl; exact rfl; (simp only [maxLen] at *; omega))
          | ((with_reducible apply ak); exact rfl; (with_reducible apply dP); exact rfl; exact rfl; (simp only [maxLen] at *; omega)))
        all_goals first
          | (exfalso; omega)
          | (refine ⟨i + 1, hlt, by omega, by (repeat (first | exact Sub.nil _ | refine Sub.cons rfl ?_)), by (repeat (first | exact Sub.nil _ | refine Sub.cons rfl ?_)), by (repeat (first | exact MSub.nil _ | refine MSub.pick (by (repeat first | exact .hd | apply Sel.tl | apply In.tl)) ?_ | exact MSub.refl _ | refine MSub.drop .hd ?_))⟩; done)
          | (exfalso; exact hv2 ⟨by omega, by omega, by omega, by omega⟩)
          | trace_state
    · repeat' (first
        | ((with_reducible apply aa (f := 37)); exact rfl; exact rfl; (intro w' hm; exact haw w' _ hm))
        | ((with_reducible apply ak); exact rfl; (first | ((with_reducible apply QY); exact rfl) | ((with_reducible apply Dz); exact rfl) | ((with_reducible apply SI); exact rfl) | ((with_reducible apply Mx); exact rfl) | ((with_reducible apply w7); exact rfl; (repeat first | exact .hd | apply Sel.tl | apply In.tl); exact rfl) | ((with_reducible apply Rx); exact rfl; exact rfl) | ((with_reducible apply Mw); exact rfl; exact rfl) | ((with_reducible apply Dx); exact rfl; (repeat first | exact .hd | apply Sel.tl | apply In.tl); exact rfl) | ((with_reducible apply oH); exact rfl; (repeat first | exact .hd | apply Sel.tl | apply In.tl); exact rfl; exact rfl) | ((with_reducible apply v_shr); exact rfl; exact rfl; exact rfl) | ((with_reducible apply O7); exact rfl) | ((with_reducible apply v_neqpn); exact rfl)))
        | ((with_reducible apply OW); exact rfl; exact rfl)
        | ((with_reducible apply Me); exact rfl; exact rfl; exact rfl; exact rfl)
        | ((with_reducible apply Mc); exact rfl; exact rfl; exact rfl)
        | ((with_reducible apply Mi); exact rfl; intro _)
        | ((with_reducible apply y6); exact rfl; exact rfl; (repeat first | exact .hd | apply Sel.tl | apply In.tl); exact rfl; exact rfl; exact rfl)
        | ((with_reducible apply Dg); exact rfl; exact rfl; (repeat first | exact .hd | apply Sel.tl | apply In.tl); exact rfl; exact rfl; exact rfl; exact rfl)
        | ((with_reducible apply J1) <;> first | exact rfl | (intro hb; (replace hb := Tidy.out hb; try (exfalso; omega))))
        | (with_reducible first | apply F9 | apply SQ | apply Sw | apply Mr | apply Sx | apply QT | apply QW | apply O3 | apply SN | apply SS | apply Tl | apply Ti | apply Tm | apply O0 | apply O2 | apply scp_n | apply SU | apply scp_e)
        | ((with_reducible apply Du); exact rfl)
        | ((with_reducible apply BC); exact rfl)
        | ((with_reducible apply QX) <;> first | exact rfl | (intro hb; (replace hb := Tidy.out hb; try (exfalso; omega))))
        | ((with_reducible apply Th); exact rfl)
        | ((with_reducible apply ak); exact rfl; (with_reducible apply lp); exact rfl; exact rfl; (simp only [maxLen] at *; omega))
        | ((with_reducible apply ak); exact rfl; (with_reducible apply Je); exact rfl; exact rfl; (simp only [maxLen] at *; omega))
        | ((with_reducible apply ak); exact rfl; (with_reducible apply dP); exact rfl; exact rfl; (simp only [maxLen] at *; omega)))
      all_goals first
        | (exfalso; omega)
        | (((with_reducible apply cA); exact .inl rfl; exact rfl; exact rfl; exact MSub.nil _); rfl)
        | trace_state
end Go.SL
