/-
  Lemmas and walks, put together: D9 D10 D11 D12 E2 K1.
-/
import Derived.ChangeKeysEq
import Derived.Test.YtpohljcebgacjaaGreatDoorKe20
set_option linter.unusedSimpArgs false
set_option linter.unusedVariables false
set_option maxRecDepth 20000
namespace Go.SL
open Go Go.Proofs
theorem MSub.appL (R H1 : List Blk) : MSub R (R ++ H1) := ⟨H1, .refl _⟩
theorem MSub.appR (R H1 : List Blk) : MSub R (H1 ++ R) := ⟨H1, List.perm_append_comm⟩
theorem MSub.appC (X Hc H1 : List Blk) : MSub (H1 ++ (Hc ++ X)) (X ++ (Hc ++ H1)) := ⟨[], by
 rw [List.append_nil]
 refine List.Perm.trans ?_ (List.Perm.append_left H1 (List.perm_append_comm (l₁ := X) (l₂ := Hc)))
 refine List.Perm.trans (List.Perm.append_left X (List.perm_append_comm (l₁ := Hc) (l₂ := H1))) ?_
 rw [← List.append_assoc, ← List.append_assoc]
 exact (List.perm_append_comm (l₁ := X) (l₂ := H1)).append_right Hc⟩
theorem MSub.appD (X Hc H2 : List Blk) : MSub (X ++ (Hc ++ H2)) (H2 ++ (Hc ++ X)) := MSub.appC H2 Hc X
theorem MSub.appS (Hc H1 : List Blk) : MSub (H1 ++ Hc) (Hc ++ H1) := ⟨[], by rw [List.append_nil]; exact List.perm_append_comm⟩
theorem MSub.appE (X Hc H2 : List Blk) : MSub (H2 ++ Hc) (H2 ++ (Hc ++ X)) := ⟨X, by rw [List.append_assoc]⟩
theorem MSub.tailX (X Hc H2 : List Blk) (b : Blk) : MSub (H2 ++ (Hc ++ X)) (H2 ++ (Hc ++ b :: X)) := ⟨[b], by
 rw [List.append_assoc, List.append_assoc]
 refine List.Perm.append_left H2 (List.Perm.append_left Hc ?_)
 exact (List.perm_append_comm (l₁ := [b]) (l₂ := X))⟩
section
variable {P : Program} {n : Fr} {w0 : World} {Q : Post} {s : Slots} {H : List Blk} {ty : TypeId}
theorem w_rd {c : Code} {A : Option Addr} {m cap : Nat} {xs : List Value} {R : List Blk} (h : rdIn R (.slice A m cap) m xs) (hs : MSub R H) (hm : 0 < m)
  (k : ∀ g o, A = some ⟨g, o, none⟩ → (∀ w, Mem w0 w R → Ro w g o xs) → W P n w0 c Q s H) : W P n w0 c Q s H := fun a w hst hmem => by
 have key : ∀ w', Mem w0 w' R → ∃ g o, A = some ⟨g, o, none⟩ ∧ Ro w' g o xs := fun w' hm' => by
  obtain ⟨A', cap', he, _, _, h3⟩ := h _ w' hm'
  injection he with h4 h5 h6
  subst h4
  exact h3 hm
 obtain ⟨g, o, rfl, _⟩ := key w (hs.use hmem)
 refine k g o rfl (fun w' hm' => ?_) a w hst hmem
 obtain ⟨g', o', he, hr⟩ := key w' hm'
 injection he with he
 injection he with h1 h2
 subst h1; subst h2
 exact hr
theorem v_loads_rd {x : Operand} {t g o off m : Nat} {xs ys : List Value} {R : List Blk} [Agg P t m] (hx : ev s x = some (.pointer (some ⟨g, o + off, none⟩))) (hc : ∀ w, Mem w0 w R → Ro w g o xs) (hs : MSub R H) (hv : (xs.drop off).take m = ys) (hl : ys.length = m) :
  VOp P w0 s H (.load t x) ty (.agg ys.toArray) := fun ρ w _ _ _ _ hρ hm => by
 subst hv
 have hcc : Cells w g (o + off) ((xs.drop off).take m) := ((hc w (hs.use hm)).cells.drop (k := off)).take (k := m)
 simp [execOp, hρ x _ hx, Instr.loadAt, Instr.sureAddr, run_load_agg (P := P) hl hcc]
end
attribute [local irreducible] W WL WQ WG WA WX WLI WR WT WC VOp RW thn blk cutP scp retP retPP endB FnAt FnIn FnP ceP
def usesRow (E : List En) (a : Rf) : List (Rf × Us) := (foundE E a).uses.map fun u => (a, u)
def allE (E : List En) : List (Rf × Us) := (formsF (E.map En.m)).flatMap (usesRow E)
def encAU (x : Rf × Us) : List Value := [keyF x.1, .agg (encR x.2.rect).toArray]
set_option maxHeartbeats 4000000 in
theorem all_seq (gg gm clock : Nat) (E : List En) (hok : MapOk (E.map En.m) clock) (hlen : E.length ≤ 1000) (R : List Blk) (w0 : World) (hE : ∀ e ∈ E, EnOk R e) (g : Nat) :
  Seqs Tryz.prog 110 [.pointer (some ⟨g, 0, none⟩)] w0 (.box g 25 [.pointer (some ⟨gg, 0, none⟩)] :: (gB gg gm (E.map En.m) clock ++ R)) (allE E) encAU := by
 intro l I J H0 hy h0
 refine FnIn.msub (H' := (.box g 25 [.pointer (some ⟨gg, 0, none⟩)] :: (gB gg gm (E.map En.m) clock ++ R)) ++ H0) ?_ (MSub.appC H0 [] _)
 refine fn_in Tryz.func110 rfl Tryz.ntmps110 rfl ?_
 have hF := fun R => Formulas_in gg gm clock (E.map En.m) hok (by simp; omega) R w0
 have hfl : (formsF (E.map En.m)).length ≤ 1000 := by rw [formsF_len]; simpa using hlen
 have hl2 : (E.map En.m).length = (formsF (E.map En.m)).length := (formsF_len _).symm
 unfold allE at hy ⊢
 rw [hl2] at hF
 generalize formsF (E.map En.m) = F at hF hfl hy ⊢
 have hall : ∀ us, us = F.flatMap (usesRow E) → F.flatMap (usesRow E) = us := fun us h => h.symm
 unfold gB at hy ⊢
 repeat' (first | ((with_reducible apply wl_callin (f := 17)); exact rfl; exact rfl; exact FnIn.msub (hF (.box g 25 [.pointer (some ⟨gg, 0, none⟩)] :: (R ++ H0))) (by unfold gB; exact mS); rintro _ _ ⟨A0, c0, rfl, rfl⟩) | refine sT ?_ | refine sS ?_ | refine sM fun _ => ?_ | (refine sC ?_ ?_ <;> intro hb <;> try omega) | fail)
 unfold gB
 refine w_loopK [0, 1, 8, 9] rfl (fun y : Nat × List (Rf × Us) × List Blk => [(10, .int .i64 (y.1 : Int))])
  (fun y => .own A0 38 2 F.length c0 (F.flatMap encF) :: ((.box g 25 [.pointer (some ⟨gg, 0, none⟩)] :: ([.box gg 109 [.map (some gm)], .obj gm (mobj keyF (E.map En.m) clock)] ++ R)) ++ y.2.2))
  (fun y => y.1 ≤ F.length ∧ F.flatMap (usesRow E) = y.2.1 ++ (F.drop y.1).flatMap (usesRow E) ∧ I y.2.1 y.2.2) (fun y => F.length - y.1) (0, [], H0) ⟨by omega, rfl, h0⟩ ?_ ?_ ?_
 ·
  exact sB
 ·
  exact mS
 rintro ⟨i, pre, H1⟩ ⟨hi, hus, hI⟩
 dsimp only at hi hus hI ⊢
 by_cases hlt : i < F.length
 ·
  have hv0 : ((F.flatMap encF).drop (i * 2)).take 2 = encF F[i] := flat_elem encF_len F i hlt
  rw [List.drop_eq_getElem_cons hlt, List.flatMap_cons] at hus
  have hl := look_E E F[i]
  have hoke := foundE_ok hE F[i]
  have hrow : usesRow E F[i] = (foundE E F[i]).uses.map fun u => (F[i], u) := rfl
  rw [hrow] at hus
  generalize F[i] = a at hv0 hl hoke hus
  generalize foundE E a = e at hl hoke hus
  refine w_some (A := A0) pK (by omega) fun g0 hA0 => ?_
  subst hA0
  repeat' (first | ((with_reducible apply wl_v); exact rfl; (with_reducible apply v_indexAddr); exact rfl; exact rfl; exact hlt) | ((with_reducible apply wl_v); exact rfl; (with_reducible apply v_loads_own (ys := encF a)); exact rfl; exact pK; (rw [Nat.zero_add]; exact hv0); exact rfl) | ((with_reducible apply wc_v); (iterate 3 exact rfl); (with_reducible apply v_nilCheck); exact rfl) | ((with_reducible apply w_drawC0 (id := 3) [] []); kernel_rfl; kernel_rfl; kernel_rfl) | ((with_reducible apply wc_v); (iterate 3 exact rfl); (with_reducible apply v_lookup (enc := keyF) (z := zeroFm)); exact rfl; exact rfl; exact pK; exact hl) | ((with_reducible apply wc_v); (iterate 3 exact rfl); (with_reducible apply v_field); exact rfl; exact rfl) | refine sT ?_ | refine sS ?_ | refine sW ?_ | refine sN ?_ | refine sWN ?_ | refine sM fun _ => ?_ | (refine sC ?_ ?_ <;> intro hb <;> try omega) | (refine sCW ?_ ?_ <;> intro hb <;> try omega) | fail)
  rename_i g4
  have hul := hoke.ul
  refine w_loopK [0, 1, 8, 9, 10, 4, 20, 21] rfl (fun y : Nat × List (Rf × Us) × List Blk => [(22, .int .i64 (y.1 : Int))])
   (fun y => .box g4 38 (encF a) :: .own (some g0) 38 2 F.length c0 (F.flatMap encF) :: ((.box g 25 [.pointer (some ⟨gg, 0, none⟩)] :: ([.box gg 109 [.map (some gm)], .obj gm (mobj keyF (E.map En.m) clock)] ++ R)) ++ y.2.2))
   (fun y => y.1 ≤ e.uses.length ∧ F.flatMap (usesRow E) = y.2.1 ++ ((e.uses.drop y.1).map (fun u => (a, u)) ++ (F.drop (i + 1)).flatMap (usesRow E)) ∧ I y.2.1 y.2.2) (fun y => e.uses.length - y.1) (0, pre, H1) ⟨by omega, hus, hI⟩ sB (by exact MSub.refl _) ?_
  rintro ⟨k, pre2, H2⟩ ⟨hk, hus2, hI2⟩
  dsimp only at hk hus2 hI2 ⊢
  by_cases hkt : k < e.uses.length
  ·
   rw [List.drop_eq_getElem_cons hkt, List.map_cons, List.cons_append] at hus2
   have hv1 : ((e.uses.flatMap encU).drop (k * 6)).take 6 = encU e.uses[k] := flat_elem encU_len e.uses k hkt
   generalize e.uses[k] = u at hus2 hv1
   have hsubR : ∀ X : List Blk, MSub R (X ++ ((.box g 25 [.pointer (some ⟨gg, 0, none⟩)] :: ([.box gg 109 [.map (some gm)], .obj gm (mobj keyF (E.map En.m) clock)] ++ R)) ++ H2)) := fun X => by
    refine MSub.trans ?_ (MSub.appR _ X)
    refine MSub.drop .hd (MSub.drop .hd (MSub.drop .hd ?_))
    exact MSub.appL _ _
   refine w_rd hoke.uses (hsubR [.box g4 38 (encF a), .own (some g0) 38 2 F.length c0 (F.flatMap encF)]) (by omega) fun gu ou hua hur => ?_
   have huv : e.uv = .slice (some ⟨gu, ou, none⟩) e.uses.length e.uc := by unfold En.uv; rw [hua]
   rw [huv]
   repeat' (first | ((with_reducible apply wl_v); exact rfl; (with_reducible apply v_indexAddr); exact rfl; exact rfl; exact hkt) | ((with_reducible apply wl_v); exact rfl; (with_reducible apply v_loads_rd (ys := encU u)); exact rfl; exact hur; exact hsubR [.box g4 38 (encF a), .own (some g0) 38 2 F.length c0 (F.flatMap encF)]; exact hv1; exact rfl) | ((with_reducible apply w_regionI (id := 6))) | ((with_reducible apply wli_v); exact rfl; exact rfl; (with_reducible apply v_loads_box (ys := encR u.rect)); exact rfl; exact pK; exact rfl; exact rfl) | refine sT ?_ | refine sS ?_ | refine sI ?_ | refine sN ?_ | refine sM fun _ => ?_ | (refine sC ?_ ?_ <;> intro hb <;> try omega) | fail)
   rename_i g6
   (with_reducible apply wli_yieldB)
   ·
    exact rfl
   ·
    exact rfl
   ·
    exact rfl
   ·
    exact MSub.appC [.box g6 45 (encU u), .box g4 38 (encF a), .own (some g0) 38 2 F.length c0 (F.flatMap encF)] (.box g 25 [.pointer (some ⟨gg, 0, none⟩)] :: ([.box gg 109 [.map (some gm)], .obj gm (mobj keyF (E.map En.m) clock)] ++ R)) H2
   ·
    exact fun w hm => hy pre2 (a, u) _ hus2 H2 _ hI2 w hm
   intro bb H3 hq
   cases bb
   ·
    repeat' (first | refine sT ?_ | refine sS ?_ | refine sI ?_ | refine sM fun _ => ?_ | (refine sC ?_ ?_ <;> intro hb <;> try omega) | fail)
    exact ret0 eIO Tryz.results110 (MSub.appE [.box g6 45 (encU u), .box g4 38 (encF a), .own (some g0) 38 2 F.length c0 (F.flatMap encF)] (.box g 25 [.pointer (some ⟨gg, 0, none⟩)] :: ([.box gg 109 [.map (some gm)], .obj gm (mobj keyF (E.map En.m) clock)] ++ R)) H3) ⟨H3, .inr ⟨_, hq⟩, MSub.refl _⟩
   ·
    repeat' (first | refine sT ?_ | refine sS ?_ | refine sI ?_ | refine sN ?_ | refine sM fun _ => ?_ | (refine sC ?_ ?_ <;> intro hb <;> try omega) | fail)
    refine ⟨(k + 1, _, H3), ⟨hkt, hus2.trans (by rw [List.append_assoc]; rfl), hq⟩, (by dsimp only; omega), ?_, ?_, ?_⟩
    ·
     exact sB
    ·
     exact sB
    ·
     dsimp only
     exact MSub.trans (MSub.appD [.box g4 38 (encF a), .own (some g0) 38 2 F.length c0 (F.flatMap encF)] (.box g 25 [.pointer (some ⟨gg, 0, none⟩)] :: Blk.box gg 109 [.map (some gm)] :: Blk.obj gm (mobj keyF (E.map En.m) clock) :: R) H3) (MSub.tailX _ _ _ _)
  ·
   have e2 : k = e.uses.length := by omega
   subst e2
   rw [List.drop_length, List.map_nil, List.nil_append] at hus2
   repeat' (first | refine sT ?_ | refine sS ?_ | refine sN ?_ | refine sM fun _ => ?_ | (refine sC ?_ ?_ <;> intro hb <;> try omega) | fail)
   refine ⟨(i + 1, pre2, H2), ⟨hlt, hus2, hI2⟩, (by dsimp only; omega), ?_, ?_, ?_⟩
   ·
    exact sB
   ·
    exact sB
   ·
    exact MSub.drop .hd (MSub.refl _)
 ·
  have e2 : i = F.length := by omega
  subst e2
  rw [List.drop_length, List.flatMap_nil, List.append_nil] at hus
  repeat' (first | refine sT ?_ | refine sS ?_ | refine sM fun _ => ?_ | (refine sC ?_ ?_ <;> intro hb <;> try omega) | fail)
  refine ret0 (.inr rfl) Tryz.results110 (MSub.drop .hd (MSub.appS (.box g 25 [.pointer (some ⟨gg, 0, none⟩)] :: ([.box gg 109 [.map (some gm)], .obj gm (mobj keyF (E.map En.m) clock)] ++ R)) H1)) ⟨H1, .inl ?_, MSub.refl _⟩
  rw [hus]; exact hI
end Go.SL
namespace Go.SL
open Go Go.Proofs
attribute [local irreducible] W WL WQ WG WA WX WLI WR WT WC VOp RW thn blk cutP scp retP retPP endB FnAt FnIn FnP ceP bodyB assignQ roundQ
theorem v_neqF_to {w0 : World} {s : Slots} {H : List Blk} {ty t' : TypeId} {x y : Operand} {a b : Rf} {c : Bool} (h : decide (a ≠ b) = c) (hx : ev s x = some (.agg (encF a).toArray)) (hy : ev s y = some (.agg (encF b).toArray)) : VOp Tryz.prog w0 s H (.binOp .neq 38 x y t') ty (.bool c) := by
 have h1 := v_neqF (w0 := w0) (H := H) (ty := ty) (t' := t') hx hy
 rw [eqF_dec] at h1
 rw [← h]
 have e : (!decide (a = b)) = decide (a ≠ b) := by simp
 rwa [e] at h1
def usersStep (r : Rct) (out : List Rf) (x : Rf × Us) : List Rf := if touch r x.2 && (match out.getLast? with | none => true | some b => decide (b ≠ x.1)) then out ++ [x.1] else out
def usersP (E : List En) (r : Rct) : List Rf := if rectE r ≠ 0 then [] else (allE E).foldl (usersStep r) []
theorem usersStep_eq (r : Rct) (out : List Rf) (x : Rf × Us) : usersStep r out x = if touch r x.2 && (match out.getLast? with | none => true | some b => decide (b ≠ x.1)) then out ++ [x.1] else out := rfl
theorem usersStep_len (r : Rct) (out : List Rf) (x : Rf × Us) : (usersStep r out x).length ≤ out.length + 1 := by
 unfold usersStep
 generalize (touch r x.2 && (match out.getLast? with | none => true | some b => decide (b ≠ x.1))) = c
 cases c <;> simp
theorem usersFold_len (r : Rct) : ∀ (us : List (Rf × Us)) (out : List Rf), (us.foldl (usersStep r) out).length ≤ out.length + us.length
 | [], _ => Nat.le_refl _
 | x :: us, out => by
  have h1 := usersFold_len r us (usersStep r out x)
  have h2 := usersStep_len r out x
  simp only [List.foldl_cons, List.length_cons]
  omega
theorem allV_at (x : Value) (g0 : Nat) (w : World) (hx : x = .pointer (some ⟨g0, 0, none⟩)) : FnAt Tryz.prog 66 [x] w fun v H => ∃ g, v = .func (.func 110) #[] #[.pointer (some ⟨g, 0, none⟩)] ∧ H = [.box g 25 [x]] := by
 refine fn_at Tryz.func66 rfl Tryz.ntmps66 rfl ?_
 subst hx
 repeat' (first | refine sT ?_ | refine sM fun _ => ?_ | (refine sC ?_ ?_ <;> intro hb <;> try omega) | fail)
 rename_i g
 exact ret1 eIO rfl rfl (.refl _) ⟨g, rfl, rfl⟩
set_option maxHeartbeats 4000000 in
theorem Users_in (gg gm clock : Nat) (E : List En) (r : Rct) (hok : MapOk (E.map En.m) clock) (hlen : E.length ≤ 1000) (hal : (allE E).length ≤ 1000000) (R : List Blk) (w0 : World) (hE : ∀ e ∈ E, EnOk R e) :
    FnIn Tryz.prog 16 [.pointer (some ⟨gg, 0, none⟩), .agg (encR r).toArray] w0 (gB gg gm (E.map En.m) clock ++ R) fun v H => ∃ A cap, v = sl A (usersP E r).length cap ∧ H = .own A 38 2 (usersP E r).length cap ((usersP E r).flatMap encF) :: (gB gg gm (E.map En.m) clock ++ R) := by
  refine fn_range Tryz.func16 rfl Tryz.ntmps16 (by rfl) ?_
  have hrc := fun w => rect_at r w
  unfold usersP
  refine wt_seq_r ?_
  refine w_nilrow 38 2 ?_
  by_cases hre : rectE r ≠ 0
  · rw [if_pos hre]
    repeat' (first | ((with_reducible apply wl_callp); exact rfl; exact rfl; (intro w hm; exact hrc w)) | refine sT ?_ | refine sS ?_ | refine sR ?_ | refine sM fun _ => ?_ | (refine sC ?_ ?_ <;> intro hb <;> try omega) | (refine sCR ?_ ?_ <;> intro hb <;> try omega) | fail)
    all_goals first
      | (exfalso; omega)
      | (refine end_ret ?_
         exact ret1 eIO rfl rfl (H' := .own none 38 2 0 0 [] :: (gB gg gm (E.map En.m) clock ++ R)) mS ⟨none, 0, rfl, rfl⟩)
  rw [if_neg hre]
  have hre0 : rectE r = 0 := by omega
  rw [hre0] at hrc
  repeat' (first | ((with_reducible apply wl_callp); exact rfl; exact rfl; (intro w hm; exact hrc w)) | ((with_reducible apply wl_call (f := 66)); exact rfl; exact rfl; (intro w' hm; exact allV_at _ gg w' rfl); rintro _ _ ⟨g, rfl, rfl⟩) | refine sT ?_ | refine sS ?_ | refine sR ?_ | refine sM fun _ => ?_ | (refine sC ?_ ?_ <;> intro hb <;> try omega) | (refine sCR ?_ ?_ <;> intro hb <;> try omega) | fail)
  rename_i g3 g5
  refine wt_range (ps := [19, 20]) (us := allE E) (encs := encAU) (Hc := .box g 25 [.pointer (some ⟨gg, 0, none⟩)] :: (gB gg gm (E.map En.m) clock ++ R)) (HU0 := [.box g5 32 [.slice none 0 0], .own none 38 2 0 0 [], .box g3 24 (encR r)]) rfl (fun _ => rfl) rfl (all_seq gg gm clock E hok hlen R w0 hE g)
    (fun pre HU => ∃ A cap, (0 < (pre.foldl (usersStep r) []).length → ∃ ga, A = some ga) ∧ HU = [.box g5 32 [sl A (pre.foldl (usersStep r) []).length cap], .own A 38 2 (pre.foldl (usersStep r) []).length cap ((pre.foldl (usersStep r) []).flatMap encF), .box g3 24 (encR r)]) (fun _ => False) ?_ ⟨none, 0, by simp, rfl⟩ ?_ ?_ ?_
  · exact mS
  · rintro l pre ⟨at_, u⟩ post hus _ ⟨A, cap, hA, rfl⟩ F F'
    have hlu := congrArg List.length hus
    simp only [List.length_append, List.length_cons] at hlu
    have hol := usersFold_len r pre []
    have hfold : (pre ++ [(at_, u)]).foldl (usersStep r) [] = usersStep r (pre.foldl (usersStep r) []) (at_, u) := by rw [List.foldl_append]; rfl
    generalize pre.foldl (usersStep r) [] = out at hA hol hfold ⊢
    simp only [List.length_nil, Nat.zero_add] at hol
    change WR _ _ _ l _ _ ((20, Value.agg (encR u.rect).toArray) :: (19, Value.agg (encF at_).toArray) :: _) (.box g5 32 [sl A out.length cap] :: .own A 38 2 out.length cap (out.flatMap encF) :: .box g3 24 (encR r) :: F)
    repeat' (first | refine sT ?_ | refine sR ?_ | refine sM fun _ => ?_ | (refine sC ?_ ?_ <;> intro hb <;> try omega) | (refine sCR ?_ ?_ <;> intro hb <;> try omega) | fail)
    rename_i g6 g7
    refine assign_n ⟨[.box g7 24 (encR u.rect), .box g6 38 (encF at_), .box g5 32 [sl A out.length cap], .own A 38 2 out.length cap (out.flatMap encF), .box g3 24 (encR r)], MSub.refl _, ?_⟩
    change WR _ _ _ l _ _ _ (.box g7 24 (encR u.rect) :: .box g6 38 (encF at_) :: .box g5 32 [sl A out.length cap] :: .own A 38 2 out.length cap (out.flatMap encF) :: .box g3 24 (encR r) :: F')
    have hmeet := fun w => Meet_at u.rect r w
    have hto : touch r u = (meetR u.rect r).2 := rfl
    generalize meetR u.rect r = mt at hmeet hto
    obtain ⟨mr, mb⟩ := mt
    dsimp only at hto
    rw [usersStep_eq] at hfold
    simp only [hto] at hfold
    cases mb with
    | false =>
      simp only [Bool.false_and, Bool.false_eq_true, if_false] at hfold
      repeat' (first | ((with_reducible apply wl_callp); exact rfl; exact rfl; (intro w hm; exact hmeet w)) | ((with_reducible apply (wr_drawC (id := 8) [] [] _)); kernel_rfl; kernel_rfl; kernel_rfl; exact rfl; exact MSub.refl _) | refine sT ?_ | refine sS ?_ | refine sR ?_ | refine sW ?_ | refine sM fun _ => ?_ | (refine sC ?_ ?_ <;> intro hb <;> try omega) | (refine sCR ?_ ?_ <;> intro hb <;> try omega) | (refine sCW ?_ ?_ <;> intro hb <;> try omega) | fail)
      all_goals
        refine round_n [.box g5 32 [sl A out.length cap], .own A 38 2 out.length cap (out.flatMap encF), .box g3 24 (encR r)] ?_ ⟨A, cap, ?_⟩
        · change MSub (_ :: _ :: _ :: F') _
          exact mS
        · rw [hfold]; exact ⟨hA, rfl⟩
    | true =>
      simp only [Bool.true_and] at hfold
      have hsn : ∀ b : Rf, (out ++ [b]).flatMap encF = out.flatMap encF ++ encF b := fun b => by simp
      cases hlast : out.getLast? with
      | none =>
        have hnil : out = [] := List.getLast?_eq_none_iff.1 hlast
        subst hnil
        simp only [hlast, if_true] at hfold
        repeat' (first | ((with_reducible apply wl_callp); exact rfl; exact rfl; (intro w hm; exact hmeet w)) | ((with_reducible apply (wr_drawC (id := 8) [] [] _)); kernel_rfl; kernel_rfl; kernel_rfl; exact rfl; exact MSub.refl _) | ((with_reducible apply wl_append); (iterate 3 exact rfl); (repeat first | exact .hd | apply Sel.tl | apply In.tl); (intro w hm; exact hm.cells_own (by (repeat first | exact .hd | apply Sel.tl | apply In.tl))); exact rfl; (simp [Value.oneCell', sl]); omega; (simp only [maxLen]; omega); (intro A' cap' hA')) | refine sT ?_ | refine sS ?_ | refine sR ?_ | refine sW ?_ | refine sN ?_ | refine sWN ?_ | refine sM fun _ => ?_ | (refine sC ?_ ?_ <;> intro hb <;> try omega) | (refine sCR ?_ ?_ <;> intro hb <;> try omega) | (refine sCW ?_ ?_ <;> intro hb <;> try omega) | fail)
        refine round_n [.box g5 32 [sl A' (0 + 1) cap'], .own A' 38 2 (0 + 1) cap' ([] ++ encF at_), .box g3 24 (encR r)] ?_ ⟨A', cap', ?_⟩
        · change MSub (_ :: _ :: _ :: F') _
          exact mS
        · rw [hfold]; exact ⟨fun _ => hA' (by simp), rfl⟩
      | some b =>
        simp only [hlast] at hfold
        have hne : out ≠ [] := fun h => by rw [h] at hlast; cases hlast
        have hpos : 0 < out.length := List.length_pos_iff.2 hne
        obtain ⟨ga, rfl⟩ := hA hpos
        have hb1 : ((out.flatMap encF).drop ((out.length - 1) * 2)).take 2 = encF b := by
          rw [flat_elem encF_len out (out.length - 1) (by omega)]
          have := hlast
          rw [List.getLast?_eq_getElem?, List.getElem?_eq_getElem (by omega)] at this
          rw [Option.some.inj this]
        generalize hdec : decide (b ≠ at_) = c at hfold
        repeat' (first | ((with_reducible apply wl_callp); exact rfl; exact rfl; (intro w hm; exact hmeet w)) | ((with_reducible apply (wr_drawC (id := 8) [] [] _)); kernel_rfl; kernel_rfl; kernel_rfl; exact rfl; exact MSub.refl _) | ((with_reducible apply wc_v); (iterate 3 exact rfl); (with_reducible apply v_indexAddr (j := out.length - 1)); exact rfl; exact rfl; omega) | ((with_reducible apply wc_v); (iterate 3 exact rfl); (with_reducible apply v_loads_own (ys := encF b)); exact rfl; exact pK; (rw [Nat.zero_add]; exact hb1); exact rfl) | ((with_reducible apply wc_v); (iterate 3 exact rfl); (with_reducible apply v_neqF_to hdec); exact rfl; exact rfl) | ((with_reducible apply wl_append); (iterate 3 exact rfl); (repeat first | exact .hd | apply Sel.tl | apply In.tl); (intro w hm; exact hm.cells_own (by (repeat first | exact .hd | apply Sel.tl | apply In.tl))); exact rfl; (simp [Value.oneCell', sl]); omega; (simp only [maxLen]; omega); (intro A' cap' hA')) | refine sT ?_ | refine sS ?_ | refine sR ?_ | refine sW ?_ | refine sN ?_ | refine sWN ?_ | refine sM fun _ => ?_ | (refine sC ?_ ?_ <;> intro hb <;> try omega) | (refine sCR ?_ ?_ <;> intro hb <;> try omega) | (refine sCW ?_ ?_ <;> intro hb <;> try omega) | fail)
        · rw [hb] at hfold
          simp only [if_true] at hfold
          refine round_n [.box g5 32 [sl A' (out.length + 1) cap'], .own A' 38 2 (out.length + 1) cap' (out.flatMap encF ++ encF at_), .box g3 24 (encR r)] ?_ ⟨A', cap', ?_⟩
          · change MSub (_ :: _ :: _ :: F') _
            exact mS
          · rw [hfold, hsn, List.length_append]; exact ⟨fun _ => hA' (by simp), rfl⟩
        · rw [hb] at hfold
          simp only [Bool.false_eq_true, if_false] at hfold
          refine round_n [.box g5 32 [sl (some ga) out.length cap], .own (some ga) 38 2 out.length cap (out.flatMap encF), .box g3 24 (encR r)] ?_ ⟨some ga, cap, ?_⟩
          · change MSub (_ :: _ :: _ :: F') _
            exact mS
          · rw [hfold]; exact ⟨fun _ => ⟨ga, rfl⟩, rfl⟩
  · rintro D _ ⟨A, cap, _, rfl⟩
    change endB _ _ _ _ _ (dObj D :: .box g5 32 [sl A ((allE E).foldl (usersStep r) []).length cap] :: .own A 38 2 ((allE E).foldl (usersStep r) []).length cap (((allE E).foldl (usersStep r) []).flatMap encF) :: .box g3 24 (encR r) :: _)
    repeat' (first | refine sT ?_ | refine sR ?_ | refine sM fun _ => ?_ | (refine sC ?_ ?_ <;> intro hb <;> try omega) | (refine sCR ?_ ?_ <;> intro hb <;> try omega) | fail)
    refine end_mark .hd ?_
    exact ret1 eIO rfl rfl mS ⟨A, cap, rfl, rfl⟩
  · rintro D HU h
    exact h.elim
end Go.SL
namespace Go.SL
open Go Go.Proofs
attribute [local irreducible] W WL WQ WG WA WX WLI WR WT WC VOp RW thn blk cutP scp retP retPP endB FnAt FnIn FnP ceP
structure CopyI (R : List Blk) (E : List En) (vis : List (Rf × Value × Nat)) (E2 : List En) (clock2 : Nat) (G2 : Gr) (R2 : List Blk) : Prop where
 seen : Vis (E.map En.m) vis
 sub : MSub R R2
 ok : GOk R2 E2 clock2 G2
 mem : ∀ x, x ∈ G2 ↔ ∃ n ∈ E, n.m ∈ vis ∧ x = n.abs
theorem gok_nil (R : List Blk) : GOk R [] 0 [] := ⟨⟨List.nodup_nil, (fun _ h => by cases h), List.nodup_nil⟩, (fun _ h => by cases h), (fun _ => Iff.rfl), sortG_nil⟩
structure Et where
 at_ : Rf
 input : ByteArray
def encEt (e : Et) : List Value := [.int .i64 e.at_.col, .int .i64 e.at_.row, .string e.input]
theorem encEt_len (e : Et) : (encEt e).length = 3 := rfl
def faultOf (b : Option Rf) (e : Et) : Int := if e.at_.valid = false then 3 else if (match b with | some p => lessF p e.at_ | none => true) = false then 12 else if e.input = emptyB then 2 else (ofP e.input).2.2
def checkFrom : Nat → Option Rf → List Et → Int × Int
 | _, _, [] => (0, 0)
 | i, b, e :: r => if faultOf b e ≠ 0 then ((i : Int), faultOf b e) else checkFrom (i + 1) (some e.at_) r
def checkEt (L : List Et) : Int × Int := checkFrom 0 none L
def befEt (L : List Et) (i : Nat) : Option Rf := if i = 0 then none else (L[i - 1]?).map Et.at_
set_option maxHeartbeats 2000000 in
theorem entryCheck_at (L : List Et) (tv : Value) (w : World) (ht : Reads w tv L.length (L.flatMap encEt)) (hlen : L.length ≤ 1000000) (hW : Words w) :
    Pure Tryz.prog 86 [tv] w (.tuple #[.int .i64 (checkEt L).1, .int .i64 (checkEt L).2]) := by
  obtain ⟨Al, cl, rfl, hl1, hl2, hl3⟩ := ht
  refine fn_at Tryz.func86 rfl Tryz.ntmps86 rfl ?_
  repeat' (first | refine sT ?_ | refine sS ?_ | refine sM fun _ => ?_ | (refine sC ?_ ?_ <;> intro hb <;> try omega) | fail)
  refine w_loopK [0, 2, 3, 9, 10] rfl (fun i : Nat => [(11, .int .i64 (i : Int))]) (fun _ => []) (fun i => i ≤ L.length ∧ checkEt L = checkFrom i (befEt L i) (L.drop i)) (fun i => L.length - i) 0 ⟨by omega, rfl⟩ sB (.refl _) ?_
  rintro i ⟨hi, hck⟩
  by_cases hlt : i < L.length
  · obtain ⟨gl, ol, rfl, hrl⟩ := hl3 (by omega)
    have he := hrl.elem encEt_len i hlt
    have hprev : ∀ h : 0 < i, Ro w gl (ol + (i - 1) * 3) (encEt L[i - 1]) := fun h => hrl.elem encEt_len (i - 1) (by omega)
    have hbef : ∀ h : 0 < i, befEt L i = some L[i - 1].at_ := fun h => by unfold befEt; rw [if_neg (by omega), List.getElem?_eq_getElem (by omega)]; rfl
    have hbef0 : i = 0 → befEt L i = none := fun h => by unfold befEt; rw [if_pos h]
    have hnext : befEt L (i + 1) = some L[i].at_ := by unfold befEt; rw [if_neg (by omega), Nat.add_sub_cancel, List.getElem?_eq_getElem hlt]; rfl
    rw [List.drop_eq_getElem_cons hlt, checkFrom, ← hnext] at hck
    generalize L[i] = e at he hck
    have hV : ∀ w', Pure Tryz.prog 73 [.agg (encF e.at_).toArray] w' (.bool e.at_.valid) := fun w' => valid_at e.at_.col e.at_.row w'
    have hO := fun (w' : World) (H' : List Blk) (hm : Mem w w' H') => Of_at e.input w' (hW.next hm)
    by_cases h0 : 0 < i
    · have hp := hprev h0
      rw [hbef h0] at hck
      generalize L[i - 1] = b at hp hck
      have hL := fun w' => Less_at b.at_ e.at_ w'
      unfold faultOf at hck
      simp only at hck
      have hofV : ∀ (A : Option Nat) (cap : Nat), ofV A cap (ofP e.input) = .tuple #[.agg (encM (ofP e.input).1 (sl A (ofP e.input).1.tree.length cap)).toArray, .int .i64 (ofP e.input).2.1, .int .i64 (ofP e.input).2.2] := fun _ _ => rfl
      simp only [hofV] at hO
      generalize ofP e.input = o at hO hck
      obtain ⟨⟨f1, f2, f3⟩, oa, oe⟩ := o
      simp only [encM] at hO
      simp only at hck
      generalize e.at_.valid = vd at hV hck
      generalize lessF b.at_ e.at_ = ls at hL hck
      repeat' (first | ((with_reducible apply wl_v (d := 14)); exact rfl; (with_reducible apply v_indexAddr); exact rfl; exact rfl; exact hlt) | ((with_reducible apply wl_v (d := 15)); exact rfl; (with_reducible apply v_loadw_ro); exact rfl; exact he; exact rfl) | ((with_reducible apply wc_v (d := 29)); (iterate 3 exact rfl); (with_reducible apply v_loads_ro (o := ol + (i - 1) * 3) (off := 0) hp (ys := encF b.at_)); (iterate 3 exact rfl)) | ((with_reducible apply wl_callp); exact rfl; exact rfl; (intro w hm; exact hV w)) | ((with_reducible apply (w_drawC0 (id := 6) [11] [])); kernel_rfl; kernel_rfl; kernel_rfl) | ((with_reducible apply wc_v); (iterate 3 exact rfl); (with_reducible apply v_indexAddr (j := i - 1)); exact rfl; exact rfl; omega) | ((with_reducible apply wl_callp (f := 113)); exact rfl; exact rfl; (intro w' hm; exact hL w')) | ((with_reducible apply wl_call (f := 74)); exact rfl; exact rfl; (intro w' hm; exact hO w' _ hm); rintro _ _ ⟨A, cap, rfl, rfl⟩) | refine sT ?_ | refine sS ?_ | refine sW ?_ | refine sN ?_ | refine sWN ?_ | refine sM fun _ => ?_ | (refine sC ?_ ?_ <;> intro hb <;> try omega) | (refine sCW ?_ ?_ <;> intro hb <;> try omega) | fail)
      all_goals clear hofV
      all_goals first
        | (refine ret2 eIO rfl rfl rfl (.nil _) ?_; rw [hck]; simp_all [emptyB]; done)
        | (refine ⟨i + 1, ⟨hlt, ?_⟩, by omega, ?_, ?_, .nil _⟩
           · rw [hck]; simp_all [emptyB]
           · exact sB
           · exact sB)
    · have h00 : i = 0 := by omega
      rw [hbef0 h00] at hck
      unfold faultOf at hck
      simp only at hck
      have hofV : ∀ (A : Option Nat) (cap : Nat), ofV A cap (ofP e.input) = .tuple #[.agg (encM (ofP e.input).1 (sl A (ofP e.input).1.tree.length cap)).toArray, .int .i64 (ofP e.input).2.1, .int .i64 (ofP e.input).2.2] := fun _ _ => rfl
      simp only [hofV] at hO
      generalize ofP e.input = o at hO hck
      obtain ⟨⟨f1, f2, f3⟩, oa, oe⟩ := o
      simp only [encM] at hO
      simp only at hck
      generalize e.at_.valid = vd at hV hck
      repeat' (first | ((with_reducible apply wl_v (d := 14)); exact rfl; (with_reducible apply v_indexAddr); exact rfl; exact rfl; exact hlt) | ((with_reducible apply wl_v (d := 15)); exact rfl; (with_reducible apply v_loadw_ro); exact rfl; exact he; exact rfl) | ((with_reducible apply wl_callp); exact rfl; exact rfl; (intro w hm; exact hV w)) | ((with_reducible apply (w_drawC0 (id := 6) [11] [])); kernel_rfl; kernel_rfl; kernel_rfl) | ((with_reducible apply wl_call (f := 74)); exact rfl; exact rfl; (intro w' hm; exact hO w' _ hm); rintro _ _ ⟨A, cap, rfl, rfl⟩) | refine sT ?_ | refine sS ?_ | refine sW ?_ | refine sN ?_ | refine sWN ?_ | refine sM fun _ => ?_ | (refine sC ?_ ?_ <;> intro hb <;> try omega) | (refine sCW ?_ ?_ <;> intro hb <;> try omega) | fail)
      all_goals clear hofV
      all_goals first
        | (refine ret2 eIO rfl rfl rfl (.nil _) ?_; rw [hck]; simp_all [emptyB]; done)
        | (refine ⟨i + 1, ⟨hlt, ?_⟩, by omega, ?_, ?_, .nil _⟩
           · rw [hck]; simp_all [emptyB]
           · exact sB
           · exact sB)
  · have e2 : i = L.length := by omega
    subst e2
    rw [List.drop_length, checkFrom] at hck
    repeat' (first | refine sT ?_ | refine sS ?_ | refine sM fun _ => ?_ | (refine sC ?_ ?_ <;> intro hb <;> try omega) | fail)
    all_goals (refine ret2 eIO rfl rfl rfl (.nil _) ?_; rw [hck])
def newL : Gr → List Et → Option Gr × Int
 | G, [] => (some G, 0)
 | G, e :: r => if (setG G e.at_ e.input).2 ≠ 0 then (none, (setG G e.at_ e.input).2) else newL (setG G e.at_ e.input).1 r
def newG (L : List Et) : Option Gr × Int := if (checkEt L).2 ≠ 0 then (none, (checkEt L).2) else newL [] L
def NewR (r : Option Gr × Int) (v : Value) (H : List Blk) : Prop := match r with
 | (none, e) => v = .tuple #[.pointer none, .int .i64 e] ∧ H = []
 | (some G, _) => ∃ gg gm E clock R, v = .tuple #[.pointer (some ⟨gg, 0, none⟩), .int .i64 0] ∧ H = gB gg gm (E.map En.m) clock ++ R ∧ GOk R E clock G
set_option maxHeartbeats 2000000 in
theorem New_at (L : List Et) (tv : Value) (w : World) (ht : Reads w tv L.length (L.flatMap encEt)) (hlen : L.length ≤ 1000000) (hW : Words w) :
  FnAt Tryz.prog 38 [tv] w (NewR (newG L)) := by
 have hC := fun (w' : World) (H : List Blk) (hm : Mem w w' H) => entryCheck_at L tv w' (ht.of_w0 hm) hlen (hW.next hm)
 obtain ⟨Al, cl, rfl, hl1, hl2, hl3⟩ := ht
 refine fn_at Tryz.func38 rfl Tryz.ntmps38 rfl ?_
 unfold newG
 generalize checkEt L = c at hC
 obtain ⟨ci, ce⟩ := c
 dsimp only at hC ⊢
 by_cases hce : ce ≠ 0
 ·
  rw [if_pos hce]
  repeat' (first | ((with_reducible apply wl_callp (f := 86)); exact rfl; exact rfl; (intro w' hm; exact hC w' _ hm)) | refine sT ?_ | refine sS ?_ | refine sM fun _ => ?_ | (refine sC ?_ ?_ <;> intro hb <;> try omega) | fail)
  all_goals exact ret2 eIO rfl rfl rfl (.nil _) ⟨rfl, rfl⟩
 rw [if_neg hce]
 have hce0 : ce = 0 := by omega
 subst hce0
 repeat' (first | ((with_reducible apply wl_callp (f := 86)); exact rfl; exact rfl; (intro w' hm; exact hC w' _ hm)) | ((with_reducible apply wl_makeMap (enc := keyF)); exact rfl; intro gm) | refine sT ?_ | refine sS ?_ | refine sM fun _ => ?_ | (refine sC ?_ ?_ <;> intro hb <;> try omega) | fail)
 rename_i gg
 refine w_loopK [6, 21, 22] rfl (fun x : Nat × List En × Nat × Gr × List Blk => [(23, .int .i64 (x.1 : Int))]) (fun x => gB gg gm (x.2.1.map En.m) x.2.2.1 ++ x.2.2.2.2) (fun x => x.1 ≤ L.length ∧ GOk x.2.2.2.2 x.2.1 x.2.2.1 x.2.2.2.1 ∧ newL [] L = newL x.2.2.2.1 (L.drop x.1)) (fun x => L.length - x.1) (0, [], 0, [], []) ⟨by simp, gok_nil [], rfl⟩ sB (by unfold gB; exact mS) ?_
 rintro ⟨i, E, clock, G, R⟩ ⟨hi, hG, hnew⟩
 dsimp only at hi hG hnew ⊢
 by_cases hlt : i < L.length
 ·
  obtain ⟨gl, ol, rfl, hrl⟩ := hl3 (by omega)
  have he := hrl.elem encEt_len i hlt
  rw [List.drop_eq_getElem_cons hlt, newL] at hnew
  generalize L[i] = e at he hnew
  have hS := Set_in gg gm clock E G e.at_ e.input R w hG hW
  generalize setG G e.at_ e.input = sg at hS hnew
  obtain ⟨G', se⟩ := sg
  dsimp only at hS hnew
  repeat' (first | ((with_reducible apply wl_v (d := 25)); exact rfl; (with_reducible apply v_indexAddr); exact rfl; exact rfl; exact hlt) | ((with_reducible apply wl_v (d := 26)); exact rfl; (with_reducible apply v_loadw_ro); exact rfl; exact he; exact rfl) | ((with_reducible apply wl_callin (f := 27)); exact rfl; exact rfl; exact FnIn.msub hS (by unfold gB; exact mS); rintro _ _ ⟨rfl, E', clock', R', rfl, hsub, hG'⟩) | refine sT ?_ | refine sS ?_ | refine sN ?_ | refine sM fun _ => ?_ | (refine sC ?_ ?_ <;> intro hb <;> try omega) | fail)
  ·
   rw [hnew, if_pos (by assumption)]
   exact ret2 eIO rfl rfl rfl (.nil _) ⟨rfl, rfl⟩
  ·
   rw [if_neg (by assumption)] at hnew
   refine ⟨(i + 1, E', clock', G', R'), ⟨hlt, hG', hnew⟩, (by dsimp only; omega), sB, sB, ?_⟩
   unfold gB
   exact mS
 ·
  have e2 : i = L.length := by omega
  subst e2
  rw [List.drop_length, newL] at hnew
  rw [hnew]
  repeat' (first | refine sT ?_ | refine sS ?_ | refine sM fun _ => ?_ | (refine sC ?_ ?_ <;> intro hb <;> try omega) | fail)
  all_goals exact ret2 eIO rfl rfl rfl (MSub.refl _) ⟨gg, gm, E, clock, R, rfl, rfl, hG⟩
end Go.SL
namespace Go.SL
open Go Go.Proofs
theorem run_eqFF (w : World) (d : Nat) (a b : Rf × Rf) : (Op.equalIn (d + 5) 70 (.agg (encFF a).toArray) (.agg (encFF b).toArray)).run Tryz.prog w = .ok (eqF a.1 b.1 && eqF a.2 b.2) w := by
 obtain ⟨i, h1, h2⟩ := (inferInstance : Size Tryz.prog 38 2).out
 have hc : Tryz.prog.cellsOf 38 = 2 := by kernel_rfl
 rw [run_equalIn_array w (d + 4) (encFF a).toArray (encFF b).toArray Tryz.underlying70 h1, hc, show List.range 2 = [0, 1] from rfl]
 have hr : ∀ (a b : Rf) w, (Op.equalIn (d + 4) 38 (.agg #[.int .i64 a.col, .int .i64 a.row]) (.agg #[.int .i64 b.col, .int .i64 b.row])).run Tryz.prog w = .ok (eqF a b) w := fun a b w => run_eqF w (d + 1) a b
 have hpa : ∀ (c : Rf × Rf) w, (part 38 (encFF c).toArray 0).run Tryz.prog w = .ok (.agg #[.int .i64 c.1.col, .int .i64 c.1.row]) w := by
  intro c w
  simp [part, go_sem, encFF]
 have hpb : ∀ (c : Rf × Rf) w, (part 38 (encFF c).toArray 2).run Tryz.prog w = .ok (.agg #[.int .i64 c.2.col, .int .i64 c.2.row]) w := by
  intro c w
  simp [part, go_sem, encFF]
 by_cases h1 : eqF a.1 b.1 = true <;> by_cases h2 : eqF a.2 b.2 = true <;> simp [Op.eqItems, hpa, hpb, hr, h1, h2]
theorem eqFF_dec (a b : Rf × Rf) : (eqF a.1 b.1 && eqF a.2 b.2) = decide (a = b) := by
 rw [eqF_dec, eqF_dec, Bool.eq_iff_iff]
 obtain ⟨a1, a2⟩ := a
 obtain ⟨b1, b2⟩ := b
 simp
instance : DecidableEq Et := fun a b => decidable_of_iff (a.at_ = b.at_ ∧ a.input = b.input) (by
 obtain ⟨a1, a2⟩ := a
 obtain ⟨b1, b2⟩ := b
 simp)
theorem et_eq {a b : Et} : a = b ↔ a.at_ = b.at_ ∧ a.input = b.input := by
 obtain ⟨a1, a2⟩ := a
 obtain ⟨b1, b2⟩ := b
 simp
theorem run_eqEt (w : World) (d : Nat) (a b : Et) : (Op.equalIn (d + 5) 142 (.agg (encEt a).toArray) (.agg (encEt b).toArray)).run Tryz.prog w = .ok (decide (a = b)) w := by
 rw [run_equalIn_agg w (d + 4) 142 _ _ (by rw [Program.fieldsOf, Tryz.underlying142]) Tryz.stoodInHeld142]
 simp only [Program.fieldsOf, Tryz.underlying142]
 have hr : ∀ (a b : Rf) w, (Op.equalIn (d + 4) 38 (.agg #[.int .i64 a.col, .int .i64 a.row]) (.agg #[.int .i64 b.col, .int .i64 b.row])).run Tryz.prog w = .ok (eqF a b) w := fun a b w => run_eqF w (d + 1) a b
 simp [Op.eqFields, encEt, part, go_sem, beqL, beqI, hr]
 by_cases h1 : eqF a.at_ b.at_ = true <;> by_cases h2 : a.input = b.input <;> simp [h1, h2, et_eq] <;> (rw [eqF_iff] at h1; exact h1)
section
variable {w0 : World} {s : Slots} {H : List Blk} {ty t' : TypeId} {x y : Operand}
theorem v_neqFF {a b : Rf × Rf} (hx : ev s x = some (.agg (encFF a).toArray)) (hy : ev s y = some (.agg (encFF b).toArray)) : VOp Tryz.prog w0 s H (.binOp .neq 70 x y t') ty (.bool (!decide (a = b))) := fun ρ w _ _ _ _ hρ _ => by
 have h := run_eqFF w 9995 a b
 rw [eqFF_dec] at h
 simp only [Nat.reduceAdd] at h
 simp only [execOp, hρ x _ hx, hρ y _ hy, Sem.run_bind, run_eqGuard_agg w _ _ _ _ _ _ Tryz.eqGuardType70, Result.andThen_ok, run_neq_struct, h, Sem.run_pure]
theorem v_neqEt {a b : Et} (hx : ev s x = some (.agg (encEt a).toArray)) (hy : ev s y = some (.agg (encEt b).toArray)) : VOp Tryz.prog w0 s H (.binOp .neq 142 x y t') ty (.bool (!decide (a = b))) := fun ρ w _ _ _ _ hρ _ => by
 have h := run_eqEt w 9995 a b
 simp only [Nat.reduceAdd] at h
 simp only [execOp, hρ x _ hx, hρ y _ hy, Sem.run_bind, run_eqGuard_agg w _ _ _ _ _ _ Tryz.eqGuardType142, Result.andThen_ok, run_neq_struct, h, Sem.run_pure]
end
end Go.SL
namespace Go.SL
open Go Go.Proofs
attribute [local irreducible] W WL WQ WG WA WX WLI WR WT WC VOp RW thn blk cutP scp retP retPP endB FnAt FnIn FnP ceP
theorem EqualRefs_at (L M : List Rf) (lv mv : Value) (w : World) (hl : Reads w lv L.length (L.flatMap encF)) (hm : Reads w mv M.length (M.flatMap encF)) :
  Pure Tryz.prog 34 [lv, mv] w (.bool (decide (L = M))) := by
 obtain ⟨Al, cl, rfl, hl1, hl2, hl3⟩ := hl
 obtain ⟨Am, cm, rfl, hm1, hm2, hm3⟩ := hm
 refine fn_at Tryz.func34 rfl Tryz.ntmps34 rfl ?_
 by_cases hlen : L.length = M.length
 ·
  repeat' (first | refine sT ?_ | refine sS ?_ | refine sM fun _ => ?_ | (refine sC ?_ ?_ <;> intro hb <;> try omega) | fail)
  refine w_loop (fun i : Nat => [(0, .slice Al L.length cl), (1, .slice Am M.length cm), (5, .int .i64 (i : Int))]) (fun _ => []) (fun i => i ≤ L.length ∧ decide (L = M) = decide (L.drop i = M.drop i)) (fun i => L.length - i) 0 ⟨by omega, rfl⟩ ?_ ?_ ?_
  ·
   exact sB
  ·
   exact mS
  ·
   rintro i ⟨hi, hrec⟩
   by_cases hlt : i < L.length
   ·
    have hlt2 : i < M.length := by omega
    obtain ⟨gl, ol, rfl, hrl⟩ := hl3 (by omega)
    obtain ⟨gm, om, rfl, hrm⟩ := hm3 (by omega)
    have he1 := hrl.elem encF_len i hlt
    have he2 := hrm.elem encF_len i hlt2
    rw [eq_drop hlt hlt2, ← eqF_dec] at hrec
    repeat' (first | ((with_reducible apply wq_v); exact rfl; (with_reducible apply v_indexAddr); exact rfl; exact rfl; (first | exact hlt | exact hlt2)) | ((with_reducible apply wq_v); exact rfl; (with_reducible apply v_loadw_ro); exact rfl; (first | exact he1 | exact he2); exact rfl) | ((with_reducible apply wq_v); exact rfl; (with_reducible apply v_neqF); exact rfl; exact rfl) | ((with_reducible apply wl_v); exact rfl; (with_reducible apply v_succN); exact rfl; exact rfl; (simp only [maxLen] at *; omega)) | refine sT ?_ | refine sS ?_ | refine sQ ?_ | refine sD ?_ | refine sM fun _ => ?_ | (refine sC ?_ ?_ <;> intro hb <;> try omega) | (refine sCQ ?_ ?_ <;> intro hb <;> try omega) | fail)
    ·
     (refine rT1 ?_)
     rw [hrec]
     simp_all
    ·
     refine ⟨i + 1, ⟨by omega, ?_⟩, by omega, ?_, ?_⟩
     ·
      rw [hrec]
      simp_all
     ·
      exact sB
     ·
      exact mS
   ·
    have e : i = L.length := by omega
    subst e
    repeat' (first | refine sT ?_ | refine sS ?_ | refine sM fun _ => ?_ | (refine sC ?_ ?_ <;> intro hb <;> try omega) | fail)
    (refine rT1 ?_)
    rw [hrec, List.drop_length, hlen, List.drop_length]
    rfl
 ·
  repeat' (first | refine sT ?_ | refine sS ?_ | refine sM fun _ => ?_ | (refine sC ?_ ?_ <;> intro hb <;> try omega) | fail)
  (refine rT1 ?_)
  rw [decide_eq_false]
  intro e
  exact hlen (congrArg List.length e)
theorem EqualPairs_at (L M : List (Rf × Rf)) (lv mv : Value) (w : World) (hl : Reads w lv L.length (L.flatMap encFF)) (hm : Reads w mv M.length (M.flatMap encFF)) :
  Pure Tryz.prog 42 [lv, mv] w (.bool (decide (L = M))) := by
 obtain ⟨Al, cl, rfl, hl1, hl2, hl3⟩ := hl
 obtain ⟨Am, cm, rfl, hm1, hm2, hm3⟩ := hm
 refine fn_at Tryz.func42 rfl Tryz.ntmps42 rfl ?_
 by_cases hlen : L.length = M.length
 ·
  repeat' (first | refine sT ?_ | refine sS ?_ | refine sM fun _ => ?_ | (refine sC ?_ ?_ <;> intro hb <;> try omega) | fail)
  refine w_loop (fun i : Nat => [(0, .slice Al L.length cl), (1, .slice Am M.length cm), (5, .int .i64 (i : Int))]) (fun _ => []) (fun i => i ≤ L.length ∧ decide (L = M) = decide (L.drop i = M.drop i)) (fun i => L.length - i) 0 ⟨by omega, rfl⟩ ?_ ?_ ?_
  ·
   exact sB
  ·
   exact mS
  ·
   rintro i ⟨hi, hrec⟩
   by_cases hlt : i < L.length
   ·
    have hlt2 : i < M.length := by omega
    obtain ⟨gl, ol, rfl, hrl⟩ := hl3 (by omega)
    obtain ⟨gm, om, rfl, hrm⟩ := hm3 (by omega)
    have he1 := hrl.elem encFF_len i hlt
    have he2 := hrm.elem encFF_len i hlt2
    rw [eq_drop hlt hlt2] at hrec
    repeat' (first | ((with_reducible apply wq_v); exact rfl; (with_reducible apply v_indexAddr); exact rfl; exact rfl; (first | exact hlt | exact hlt2)) | ((with_reducible apply wq_v); exact rfl; (with_reducible apply v_loadw_ro); exact rfl; (first | exact he1 | exact he2); exact rfl) | ((with_reducible apply wq_v); exact rfl; (with_reducible apply v_neqFF); exact rfl; exact rfl) | ((with_reducible apply wl_v); exact rfl; (with_reducible apply v_succN); exact rfl; exact rfl; (simp only [maxLen] at *; omega)) | refine sT ?_ | refine sS ?_ | refine sQ ?_ | refine sD ?_ | refine sM fun _ => ?_ | (refine sC ?_ ?_ <;> intro hb <;> try omega) | (refine sCQ ?_ ?_ <;> intro hb <;> try omega) | fail)
    ·
     (refine rT1 ?_)
     rw [hrec]
     simp_all
    ·
     refine ⟨i + 1, ⟨by omega, ?_⟩, by omega, ?_, ?_⟩
     ·
      rw [hrec]
      simp_all
     ·
      exact sB
     ·
      exact mS
   ·
    have e : i = L.length := by omega
    subst e
    repeat' (first | refine sT ?_ | refine sS ?_ | refine sM fun _ => ?_ | (refine sC ?_ ?_ <;> intro hb <;> try omega) | fail)
    (refine rT1 ?_)
    rw [hrec, List.drop_length, hlen, List.drop_length]
    rfl
 ·
  repeat' (first | refine sT ?_ | refine sS ?_ | refine sM fun _ => ?_ | (refine sC ?_ ?_ <;> intro hb <;> try omega) | fail)
  (refine rT1 ?_)
  rw [decide_eq_false]
  intro e
  exact hlen (congrArg List.length e)
theorem EqualEntries_at (L M : List Et) (lv mv : Value) (w : World) (hl : Reads w lv L.length (L.flatMap encEt)) (hm : Reads w mv M.length (M.flatMap encEt)) :
  Pure Tryz.prog 40 [lv, mv] w (.bool (decide (L = M))) := by
 obtain ⟨Al, cl, rfl, hl1, hl2, hl3⟩ := hl
 obtain ⟨Am, cm, rfl, hm1, hm2, hm3⟩ := hm
 refine fn_at Tryz.func40 rfl Tryz.ntmps40 rfl ?_
 by_cases hlen : L.length = M.length
 ·
  repeat' (first | refine sT ?_ | refine sS ?_ | refine sM fun _ => ?_ | (refine sC ?_ ?_ <;> intro hb <;> try omega) | fail)
  refine w_loop (fun i : Nat => [(0, .slice Al L.length cl), (1, .slice Am M.length cm), (5, .int .i64 (i : Int))]) (fun _ => []) (fun i => i ≤ L.length ∧ decide (L = M) = decide (L.drop i = M.drop i)) (fun i => L.length - i) 0 ⟨by omega, rfl⟩ ?_ ?_ ?_
  ·
   exact sB
  ·
   exact mS
  ·
   rintro i ⟨hi, hrec⟩
   by_cases hlt : i < L.length
   ·
    have hlt2 : i < M.length := by omega
    obtain ⟨gl, ol, rfl, hrl⟩ := hl3 (by omega)
    obtain ⟨gm, om, rfl, hrm⟩ := hm3 (by omega)
    have he1 := hrl.elem encEt_len i hlt
    have he2 := hrm.elem encEt_len i hlt2
    rw [eq_drop hlt hlt2] at hrec
    repeat' (first | ((with_reducible apply wq_v); exact rfl; (with_reducible apply v_indexAddr); exact rfl; exact rfl; (first | exact hlt | exact hlt2)) | ((with_reducible apply wq_v); exact rfl; (with_reducible apply v_loadw_ro); exact rfl; (first | exact he1 | exact he2); exact rfl) | ((with_reducible apply wq_v); exact rfl; (with_reducible apply v_neqEt); exact rfl; exact rfl) | ((with_reducible apply wl_v); exact rfl; (with_reducible apply v_succN); exact rfl; exact rfl; (simp only [maxLen] at *; omega)) | refine sT ?_ | refine sS ?_ | refine sQ ?_ | refine sD ?_ | refine sM fun _ => ?_ | (refine sC ?_ ?_ <;> intro hb <;> try omega) | (refine sCQ ?_ ?_ <;> intro hb <;> try omega) | fail)
    ·
     (refine rT1 ?_)
     rw [hrec]
     simp_all
    ·
     refine ⟨i + 1, ⟨by omega, ?_⟩, by omega, ?_, ?_⟩
     ·
      rw [hrec]
      simp_all
     ·
      exact sB
     ·
      exact mS
   ·
    have e : i = L.length := by omega
    subst e
    repeat' (first | refine sT ?_ | refine sS ?_ | refine sM fun _ => ?_ | (refine sC ?_ ?_ <;> intro hb <;> try omega) | fail)
    (refine rT1 ?_)
    rw [hrec, List.drop_length, hlen, List.drop_length]
    rfl
 ·
  repeat' (first | refine sT ?_ | refine sS ?_ | refine sM fun _ => ?_ | (refine sC ?_ ?_ <;> intro hb <;> try omega) | fail)
  (refine rT1 ?_)
  rw [decide_eq_false]
  intro e
  exact hlen (congrArg List.length e)
end Go.SL
