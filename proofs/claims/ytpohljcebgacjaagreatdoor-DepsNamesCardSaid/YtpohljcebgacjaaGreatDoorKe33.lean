/-
  Lemmas and walks, put together: L2 Lo Fd Fc D13.
-/
import Derived.OpenShut
import Derived.ProofKit
import Derived.Carry
import Derived.Deep.Slices
import Derived.LaidMore
import Derived.Lay
import Derived.SevenTiedAt
import Derived.Stop.Joined
import Derived.Test.YtpohljcebgacjaaGreatDoorRows
import Derived.Test.YtpohljcebgacjaaGreatDoorTie
import Derived.Test.YtpohljcebgacjaaGreatDoorCards
import Derived.Test.YtpohljcebgacjaaGreatDoorKe32
set_option linter.unusedSimpArgs false
set_option linter.unusedVariables false
set_option maxRecDepth 20000
namespace Go.SL
open Go Go.Proofs
attribute [local irreducible] W WL WQ WG WA WX WLI WR WT WC VOp RW thn blk cutP scp retP retPP endB FnAt FnIn FnP ceP
def foldU (G : Gr) (l : List Pu) : Gr := l.foldl (fun G p => (setG G p.ref p.input).1) G
def startG (L : List Pu) : Gr := foldU [] (L.take 40)
theorem foldU_ok : ∀ (l : List Pu) {G : Gr}, GrOk G → GrOk (foldU G l)
 | [], _, h => h
 | p :: r, _, h => foldU_ok r (h.set p.ref p.input)
theorem foldU_len : ∀ (l : List Pu) (G : Gr), (foldU G l).length ≤ G.length + l.length
 | [], G => Nat.le_refl _
 | p :: r, G => by
  have h1 := foldU_len r (setG G p.ref p.input).1
  have h2 := setG_len G p.ref p.input
  simp only [List.length_cons]
  exact Nat.le_trans h1 (by omega)
theorem startG_len (L : List Pu) : (startG L).length ≤ 40 := by
 have := foldU_len (L.take 40) []
 rw [List.length_take, List.length_nil] at this
 unfold startG
 omega
theorem start_perm (a b R1 R2 : List Blk) (p q : Blk) : MSub ([p, q] ++ (a ++ (b ++ (R1 ++ R2)))) (p :: ((b ++ R2) ++ ((a ++ R1) ++ [q]))) := by
 refine MSub.of_perm (List.Perm.cons p ?_)
 refine (show ((b ++ R2) ++ ((a ++ R1) ++ [q])).Perm (q :: ((b ++ R2) ++ (a ++ R1))) from ?_).trans (List.Perm.cons q ?_)
 ·
  rw [← List.append_assoc]
  exact List.perm_append_comm
 ·
  refine List.perm_append_comm.trans ?_
  simp only [List.append_assoc]
  exact (List.perm_append_comm_assoc R1 b R2).append_left a
theorem newG_nil : newG [] = (some [], 0) := rfl
set_option maxHeartbeats 4000000 in
theorem Start_at (L : List Pu) (tv : Value) (w : World) (ht : Reads w tv L.length (L.flatMap encPu)) (hW : Words w) :
  FnAt Tryz.prog 14 [tv] w fun v H => ∃ x : Gs, v = .tuple #[.agg #[x.pa, x.pb], .bool true] ∧ H = x.H ∧ x.ok (startG L) := by
 have hN := fun (w' : World) (H : List Blk) (hm : Mem w w' H) => New_at [] (.slice none 0 0) w' ⟨none, 0, rfl, Nat.le_refl _, Nat.zero_le _, fun h => by cases h⟩ (by simp) (hW.next hm)
 have hM := fun (w' : World) => rNew_at [] (.slice none 0 0) w' ⟨none, 0, rfl, Nat.le_refl _, Nat.zero_le _, fun h => by cases h⟩ (by simp)
 rw [newG_nil] at hN hM
 obtain ⟨Al, cl, rfl, hl1, hl2, hl3⟩ := ht
 refine fn_at Tryz.func14 rfl Tryz.ntmps14 rfl ?_
 repeat' (first | ((with_reducible apply wl_call (f := 38)); exact rfl; exact rfl; (intro w' hm; exact hN w' _ hm); rintro _ _ ⟨gg, gm, E, clock, R1, rfl, rfl, hGA⟩) | ((with_reducible apply wl_call (f := 39)); exact rfl; exact rfl; (intro w' hm; exact hM w'); rintro _ _ ⟨gr, A, cap, Q, R2, rfl, rfl, hGB⟩) | refine sT ?_ | refine sS ?_ | refine sM fun _ => ?_ | (refine sC ?_ ?_ <;> intro hb <;> try omega) | fail)
 all_goals first | (exfalso; omega) | skip
 rename_i g2 g8
 refine w_loopK [0, 4, 6, 8, 2] rfl (fun y : Nat × Gs × Gr => [(9, .int .i64 (y.1 : Int))]) (fun y => [.box g8 28 [.pointer (some ⟨gg, 0, none⟩), .pointer (some ⟨gr, 0, none⟩)], .box g2 28 [.pointer none, .pointer none]] ++ y.2.1.H) (fun y => (y.2.1.gg = gg ∧ y.2.1.gr = gr) ∧ y.1 ≤ L.length ∧ y.1 ≤ 40 ∧ y.2.1.ok y.2.2 ∧ y.2.2.length ≤ y.1 ∧ startG L = foldU y.2.2 ((L.take 40).drop y.1)) (fun y => L.length - y.1) (0, ⟨gg, gm, E, clock, R1, gr, A, cap, Q, R2⟩, []) ⟨⟨rfl, rfl⟩, Nat.zero_le _, Nat.zero_le _, ⟨hGA, hGB, grOk_nil⟩, Nat.le_refl _, rfl⟩ sB (start_perm _ _ _ _ _ _) ?_
 rintro ⟨i, x, G⟩ ⟨⟨hgg, hgr⟩, hi, hi4, hx, hGl, hst⟩
 dsimp only at hgg hgr hi hi4 hx hGl hst ⊢
 subst hgg hgr
 by_cases hlt : i < L.length ∧ i < 40
 ·
  obtain ⟨hlt, hlt4⟩ := hlt
  obtain ⟨gl, ol, rfl, hrl⟩ := hl3 (by omega)
  have he := hrl.elem encPu_len i hlt
  have hlk : i < (L.take 40).length := by rw [List.length_take]; omega
  rw [List.drop_eq_getElem_cons hlk, show (L.take 40)[i] = L[i] by rw [List.getElem_take]] at hst
  generalize L[i] = p at he hst
  rw [show ∀ r, foldU G (p :: r) = foldU (setG G p.ref p.input).1 r from fun _ => rfl] at hst
  have hAt := fun w => puAt_at p w
  have hS := fun F => x.set G hx p.ref p.input F w hW
  have hT := fun (x' : Gs) (h : RGOk x'.R2 x'.Q G) F => x'.rset G h hx.g.sort (by omega) p.ref p.input F w
  have hg' := hx.g.set p.ref p.input
  have hgl := setG_len G p.ref p.input
  generalize p.ref = c at hAt hS hT hst hg' hgl
  generalize setG G c p.input = sg at hS hT hst hg' hgl
  obtain ⟨G', se⟩ := sg
  dsimp only at hS hT hst hg' hgl
  repeat' (first | refine sT ?_ | refine sS ?_ | refine sN ?_ | refine sM fun _ => ?_ | (refine sC ?_ ?_ <;> intro hb <;> try omega) | fail)
  all_goals first | (exfalso; omega) | skip
  refine w_drawC (id := 9) [5, 11, 17, 23] [] [] (by kernel_rfl) (by kernel_rfl) (by kernel_rfl) (MSub.nil _) ?_
  repeat' (first | ((with_reducible apply wc_v); (iterate 3 exact rfl); (with_reducible apply v_indexAddr (j := i)); exact rfl; exact rfl; exact hlt) | ((with_reducible apply wc_v); (iterate 3 exact rfl); (with_reducible apply v_loadw_ro); exact rfl; exact he; exact rfl) | ((with_reducible apply wc_v); (iterate 3 exact rfl); (with_reducible apply v_loadf_ro (off := 2)); exact rfl; exact he; exact rfl) | ((with_reducible apply wc_callp); (iterate 4 exact rfl); (intro w hm; exact hAt w)) | ((with_reducible apply wl_callin (f := 27)); exact rfl; exact rfl; exact FnIn.msub (hS [.box g8 28 [.pointer (some ⟨x.gg, 0, none⟩), .pointer (some ⟨x.gr, 0, none⟩)], .box g2 28 [.pointer none, .pointer none]]) (MSub.refl _); rintro _ _ ⟨rfl, E', clock', R1', rfl, hs1, hG1⟩) | ((with_reducible apply wl_callin (f := 28)); exact rfl; exact rfl; exact FnIn.msub (hT { x with E := E', clock := clock', R1 := R1' } hx.b [.box g8 28 [.pointer (some ⟨x.gg, 0, none⟩), .pointer (some ⟨x.gr, 0, none⟩)], .box g2 28 [.pointer none, .pointer none]]) (MSub.refl _); rintro _ _ ⟨rfl, A', cap', Q', R2', rfl, hs2, hG2⟩) | ((with_reducible apply wc_v); (iterate 3 exact rfl); (with_reducible apply v_neq_same); exact rfl; exact rfl) | refine sT ?_ | refine sS ?_ | refine sW ?_ | refine sN ?_ | refine sWN ?_ | refine sM fun _ => ?_ | (refine sC ?_ ?_ <;> intro hb <;> try omega) | (refine sCW ?_ ?_ <;> intro hb <;> try omega) | fail)
  all_goals first
   | (exfalso; omega)
   | (refine ⟨(i + 1, { x with E := E', clock := clock', R1 := R1', A := A', cap := cap', Q := Q', R2 := R2' }, G'), ⟨⟨rfl, rfl⟩, hlt, hlt4, ⟨hG1, hG2, hg'⟩, (by dsimp only; omega), hst⟩, (by dsimp only; omega), sB, sB, MSub.refl _⟩)
 ·
  have hdr : (L.take 40).drop i = [] := by
   rw [List.drop_eq_nil_iff, List.length_take]
   omega
  rw [hdr, show foldU G [] = G from rfl] at hst
  rw [← hst] at hx
  repeat' (first | refine sT ?_ | refine sS ?_ | refine sN ?_ | refine sM fun _ => ?_ | (refine sC ?_ ?_ <;> intro hb <;> try omega) | fail)
  all_goals first
   | (exfalso; omega)
   | exact retct eIO rfl rfl pK rfl rfl (H' := x.H) (MSub.drop .hd (MSub.drop .hd (MSub.refl _))) ⟨x, rfl, rfl, hx⟩
end Go.SL
namespace Go.SL
open Go
theorem lookG_ext {G G' : Gr} (h : SortG G) (h' : SortG G') (hl : ∀ a, lookG G a = lookG G' a) : G = G' :=
 gr_ext h h' fun e => by
  obtain ⟨a, x⟩ := e
  rw [← lookG_some h, ← lookG_some h', hl]
theorem lookG_del {G : Gr} (h : SortG G) (a c : Rf) : lookG (delG G c) a = if a = c then none else lookG G a := by
 split
 ·
  rename_i e
  subst e
  rw [lookG_none]
  intro x hx
  exact (mem_delG.1 hx).2
 ·
  rename_i hne
  cases hl : lookG G a with
  | none =>
   rw [lookG_none] at hl ⊢
   exact fun x hx => hl x (mem_delG.1 hx).1
  | some x =>
   rw [lookG_some h] at hl
   rw [lookG_some (sortG_del h c), mem_delG]
   exact ⟨hl, hne⟩
theorem lookG_ins {G : Gr} (h : SortG G) (a c : Rf) (y : List Nd × List Us) : lookG (insG G c y) a = if a = c then some y else lookG G a := by
 split
 ·
  rename_i e
  subst e
  rw [lookG_some (sortG_ins h a y), mem_insG]
  exact .inl rfl
 ·
  rename_i hne
  cases hl : lookG G a with
  | none =>
   rw [lookG_none] at hl ⊢
   intro x hx
   rcases mem_insG.1 hx with rfl | ⟨hx, _⟩
   ·
    exact fun e => hne e.symm
   ·
    exact hl x hx
  | some x =>
   rw [lookG_some h] at hl
   rw [lookG_some (sortG_ins h c y), mem_insG]
   exact .inr ⟨hl, hne⟩
def accP (p : Pu) : Bool := decide ((ofP p.input).2.2 = 0)
def valP (p : Pu) : Option (List Nd × List Us) := if (ofP p.input).1.formula = false then none else some ((ofP p.input).1.tree, usesF (ofP p.input).1.tree)
theorem setG_err (G : Gr) (p : Pu) : (setG G p.ref p.input).2 = (ofP p.input).2.2 := by
 unfold setG
 rw [if_neg (by rw [p.valid]; simp)]
 split
 ·
  rfl
 ·
  rename_i h
  have h0 : (ofP p.input).2.2 = 0 := by simpa using h
  split <;> simp [h0]
theorem setG_no {G : Gr} {p : Pu} (h : accP p = false) : (setG G p.ref p.input).1 = G := by
 unfold setG
 rw [if_neg (by rw [p.valid]; simp)]
 split
 ·
  rfl
 ·
  rename_i h'
  simp only [accP, decide_eq_false_iff_not] at h
  exact absurd h h'
theorem lookG_set {G : Gr} (hs : SortG G) {p : Pu} (h : accP p = true) (a : Rf) : lookG (setG G p.ref p.input).1 a = if a = p.ref then valP p else lookG G a := by
 simp only [accP, decide_eq_true_eq] at h
 unfold setG valP
 rw [if_neg (by rw [p.valid]; simp), if_neg (by simpa using h)]
 split
 ·
  exact lookG_del hs a p.ref
 ·
  exact lookG_ins hs a p.ref _
def lastA : List Pu → Rf → Option Pu
 | [], _ => none
 | p :: r, a => match lastA r a with
  | some q => some q
  | none => if accP p = true ∧ p.ref = a then some p else none
theorem look_fold : ∀ (l : List Pu) {G : Gr} (_ : GrOk G) (a : Rf), lookG (foldU G l) a = match lastA l a with
  | none => lookG G a
  | some p => valP p
 | [], _, _, _ => rfl
 | p :: r, G, h, a => by
  have ih := look_fold r (h.set p.ref p.input) a
  rw [show foldU G (p :: r) = foldU (setG G p.ref p.input).1 r from rfl, ih, lastA]
  cases lastA r a with
  | some q => rfl
  | none =>
   dsimp only
   cases hc : accP p with
   | false =>
    rw [setG_no hc, if_neg (by simp)]
   | true =>
    rw [lookG_set h.sort hc]
    by_cases e : a = p.ref
    ·
     rw [if_pos e, if_pos ⟨rfl, e.symm⟩]
    ·
     rw [if_neg e, if_neg (fun h => e h.2.symm)]
def laterP (p : Pu) (r : List Pu) : Bool := r.any fun q => decide (q.ref = p.ref) && accP q
theorem later_iff {p : Pu} : ∀ {r : List Pu}, laterP p r = (lastA r p.ref).isSome
 | [] => rfl
 | q :: r => by
  have ih := @later_iff p r
  unfold laterP at ih ⊢
  rw [List.any_cons, ih, lastA]
  cases lastA r p.ref with
  | some x => simp
  | none =>
   by_cases h1 : accP q = true <;> by_cases h2 : q.ref = p.ref <;> simp [h1, h2]
theorem fold_later {p : Pu} {r : List Pu} (h : laterP p r = true) : foldU [] (p :: r) = foldU [] r := by
 refine lookG_ext (foldU_ok _ grOk_nil).sort (foldU_ok _ grOk_nil).sort fun a => ?_
 rw [look_fold _ grOk_nil, look_fold _ grOk_nil, lastA]
 rw [later_iff] at h
 cases hl : lastA r a with
 | some q => rfl
 | none =>
  dsimp only
  rw [if_neg]
  rintro ⟨_, rfl⟩
  rw [hl] at h
  cases h
theorem fold_first {p : Pu} {r : List Pu} (h : laterP p r = false) : foldU [] (p :: r) = (setG (foldU [] r) p.ref p.input).1 := by
 have hok := foldU_ok r grOk_nil
 refine lookG_ext (foldU_ok _ grOk_nil).sort (hok.set _ _).sort fun a => ?_
 rw [later_iff] at h
 rw [look_fold _ grOk_nil, lastA]
 cases hc : accP p with
 | false =>
  rw [setG_no hc, look_fold _ grOk_nil, if_neg (by simp)]
  cases lastA r a <;> rfl
 | true =>
  rw [lookG_set hok.sort hc, look_fold _ grOk_nil]
  by_cases e : a = p.ref
  ·
   subst e
   rw [if_pos rfl]
   cases hl : lastA r p.ref with
   | some q => rw [hl] at h; cases h
   | none => simp
  ·
   rw [if_neg e, if_neg (fun h => e h.2.symm)]
   cases lastA r a <;> rfl
theorem is_later {p : Pu} {r : List Pu} (h : isG (foldU [] r) p.ref = true) : laterP p r = true := by
 rw [later_iff]
 unfold isG at h
 rw [look_fold _ grOk_nil] at h
 cases hl : lastA r p.ref with
 | some q => rfl
 | none => rw [hl] at h; cases h
theorem keys_del_none {G : Gr} {c : Rf} (h : isG G c = false) : delG G c = G := by
 refine List.filter_eq_self.2 fun e he => ?_
 have : lookG G c = none := by
  unfold isG at h
  cases hl : lookG G c with
  | none => rfl
  | some x => rw [hl] at h; cases h
 simpa using lookG_none.1 this e he
theorem ins_len {G : Gr} (hs : SortG G) {c : Rf} (h : isG G c = false) (y : List Nd × List Us) : (insG G c y).length = G.length + 1 := by
 have hno : lookG G c = none := by
  unfold isG at h
  cases hl : lookG G c with
  | none => rfl
  | some x => rw [hl] at h; cases h
 rw [lookG_none] at hno
 have : ∀ L : Gr, (∀ e ∈ L, e.1 ≠ c) → (L.filter fun e => lessF e.1 c).length + (L.filter fun e => lessF c e.1).length = L.length := by
  intro L
  induction L with
  | nil => intro _; rfl
  | cons e r ih =>
   intro hL
   have h1 := ih fun f hf => hL f (List.mem_cons_of_mem _ hf)
   rw [List.filter_cons, List.filter_cons, List.length_cons]
   rcases lessF_or (hL e List.mem_cons_self) with h2 | h2
   ·
    rw [h2, lessF_asymm h2]
    simp only [if_true, Bool.false_eq_true, if_false, List.length_cons]
    omega
   ·
    rw [h2, lessF_asymm h2]
    simp only [if_true, Bool.false_eq_true, if_false, List.length_cons]
    omega
 have h2 := this G hno
 simp only [insG, List.length_append, List.length_cons]
 omega
theorem set_is {G : Gr} (hs : SortG G) {p : Pu} (ha : accP p = true) (h : isG G p.ref = false) :
  (∀ a ∈ keysG G, a ∈ keysG (setG G p.ref p.input).1) ∧ (setG G p.ref p.input).1.length = G.length + (if isG (setG G p.ref p.input).1 p.ref then 1 else 0) := by
 have hl := lookG_set hs ha p.ref
 rw [if_pos rfl] at hl
 have ha' : (ofP p.input).2.2 = 0 := by simpa [accP] using ha
 have his : isG (setG G p.ref p.input).1 p.ref = (valP p).isSome := by rw [isG, hl]
 rw [his]
 unfold setG valP
 rw [if_neg (by rw [p.valid]; simp), if_neg (by simpa using ha')]
 split
 ·
  rw [keys_del_none h]
  exact ⟨fun a h => h, rfl⟩
 ·
  refine ⟨fun a hk => ?_, by rw [ins_len hs h]; rfl⟩
  obtain ⟨e, he, rfl⟩ := mem_keysG.1 hk
  by_cases hea : e.1 = p.ref
  ·
   rw [hea]
   exact mem_keysG.2 ⟨_, mem_insG.2 (.inl rfl), rfl⟩
  ·
   exact mem_keysG.2 ⟨e, mem_insG.2 (.inr ⟨he, hea⟩), rfl⟩
end Go.SL
namespace Go.SL
open Go Go.Proofs Go.ChangeShapes Go.WideShapes Go.ChangeAt Go.RowKit Go.Deep
section
variable {H : Type} {enc : TypeId × Value → H} {P : Program} {w : World} {base : Nat} {spare : Nat → Bool} {held : Bool}
theorem post_of_below {f : Func} {s : ChangeSpec} {apart fresh handsOn again : Bool} {W W' : World} {args : Array Value} {v : Value} {ds gs : List (DataW H)} {before pa pv : List MemPlace}
  (hW : DataW.Whole enc P f.params.toList s.vars apart W args.toList ds gs before)
  (hres : ∀ (b : Nat) (sp : Nat → Bool) (hd : Bool), DataW.TrodAll enc P W' b sp hd f.resultTypes.toList (v.resultList f.resultTypes.size) (s.fn H (ds ++ gs)).results [])
  (hargs : ∀ sp : Nat → Bool, (∀ p ∈ before, sp p.block = true) → DataW.TrodAll enc P W' 0 sp true f.params.toList args.toList (s.fn H (ds ++ gs)).args pa)
  (hvars : ∀ sp : Nat → Bool, (∀ p ∈ before, sp p.block = true) → DataW.TrodVars enc P W' sp s.vars (s.fn H (ds ++ gs)).vars pv)
  (hps : before = pa ++ pv) (hb : Below W.heap.size W W')
  (hok : ∀ (j : Nat) (t : TypeId) (r : Value), f.resultTypes[j]? = some t → (v.resultList f.resultTypes.size)[j]? = some r → Value.okWide P W' .any 0 t r) :
  s.post enc P f apart fresh handsOn again W args v W' := by
 have hold : ∀ p ∈ before, (fun b => decide (b < W.heap.size)) p.block = true := fun p hp => by simpa using hW.lt p hp
 refine ⟨ds, gs, before, [], pa, pv, hW, hres _ _ _, hargs _ hold, hvars _ hold, hb.frame _, fun _ => ?_⟩
 have hlt := hW.lt
 obtain ⟨_, _, _, _, _, hz, hn⟩ := hW
 refine ⟨hok, _, _, ([] ++ pa) ++ pv, ⟨[] ++ pa, pv, trodAll_append (hargs _ (fun _ _ => rfl)) (hres _ _ _), hvars _ (fun _ _ => rfl), rfl, ?_, ?_⟩, ?_⟩
 ·
  intro b off hp
  have hp' : MemPlace.cell b off ∈ before := by rw [hps]; simpa using hp
  have h1 := hz b off hp'
  have h2 := hlt _ hp'
  rw [← h1]
  exact hb.frozen h2
 ·
  intro ha
  have := hn ha
  rw [hps] at this
  simpa using this
 ·
  intro p hp _
  rw [hps]
  simpa using hp
theorem trod_stays_of {t : TypeId} (hl : laidOutB P = true) (hr : P.readableRec t = true) (hrow : t < P.types.size) {W W' : World} {v : Value} {d : DataW H} {ps : List MemPlace} {sp : Nat → Bool}
  (h : DataW.Trod enc P W 0 (fun _ => true) true t v d ps) (hb : Below W.heap.size W W') (hlt : ∀ x ∈ ps, x.block < W.heap.size) (hs : ∀ x ∈ ps, sp x.block = true) : DataW.Trod enc P W' 0 sp true t v d ps :=
 WideElems.Trod_stays hl hr hrow h (fun x hx => hb.same (hlt x hx)) hs
end
theorem Try_own : ownKnob Tryz.prog.godebug = none := by kernel_rfl
theorem Try_laidOut : laidOutB Tryz.prog = true := by kernel_rfl
section
variable {H : Type} {enc : TypeId × Value → H} {w : World} {base : Nat} {spare : Nat → Bool} {held : Bool}
theorem cells_flat {α : Type} {enc : α → List Value} {m : Nat} (hm : ∀ a, (enc a).length = m) (w : World) (g o : Nat) : ∀ (L : List α), (∀ (i : Nat) (a : α), L[i]? = some a → Cells w g (o + i * m) (enc a)) → Cells w g o (L.flatMap enc) := by
 intro L h j v hv
 by_cases hm0 : m = 0
 ·
  have : (L.flatMap enc).length = 0 := by rw [flat_length' hm, hm0, Nat.mul_zero]
  rw [List.getElem?_eq_none (by omega)] at hv
  cases hv
 have hlen : (L.flatMap enc).length = L.length * m := flat_length' hm L
 have hj : j < (L.flatMap enc).length := (List.getElem?_eq_some_iff.1 hv).1
 have hi : j / m < L.length := by rw [Nat.div_lt_iff_lt_mul (by omega)]; omega
 have hk : j % m < m := Nat.mod_lt _ (by omega)
 have he : j / m * m + j % m = j := by rw [Nat.mul_comm]; exact Nat.div_add_mod j m
 have h1 := flat_cell hm L (j / m) (j % m) hi hk
 rw [he, hv] at h1
 have h2 := h (j / m) L[j / m] (List.getElem?_eq_getElem hi) (j % m) v h1.symm
 rw [show o + j / m * m + j % m = o + j by omega] at h2
 exact h2
theorem open_rows {α : Type} [Inhabited α] {encA : α → List Value} {ok : α → Prop} {P : Program} {t e m fuel : Nat} {cs : List Value} {x : DataW H × List MemPlace} (ht : P.underlying t = some (.slice e)) (hm : P.cellsOf e = m) (hm0 : 0 < m) (hlenA : ∀ a, (encA a).length = m)
  (helem : ∀ (n : Nat) (cs : List Value) (y : DataW H × List MemPlace), DataW.trod enc P w 0 spare held n e cs = some y → ∃ a, cs = encA a ∧ ok a) (h : DataW.trod enc P w 0 spare held fuel t cs = some x) :
  ∃ (v : Value) (L : List α), cs = [v] ∧ Reads w v L.length (L.flatMap encA) ∧ ∀ a ∈ L, ok a := by
 rcases open_slice ht h with ⟨h0, _⟩ | ⟨a, len, cap, mm, n, D, Pl, h0, hb, hl, hmx, hmm, _, hx⟩
 ·
  exact ⟨_, [], h0, ⟨none, 0, rfl, Nat.le_refl _, Nat.zero_le _, fun h => by cases h⟩, fun _ h => by cases h⟩
 ·
  have hlm : len ≤ mm := by rw [hmm]; split <;> omega
  obtain ⟨F, hF⟩ := choose_lt (α := α) (n := len) (p := fun i nd => w.cells? 0 (a.add (i * m)) m = some (encA nd) ∧ ok nd) (fun i hi => by
   obtain ⟨cs', h1, h2⟩ := hx i (by omega)
   rw [hm] at h1
   obtain ⟨nd, rfl, hw⟩ := helem _ _ _ h2
   exact ⟨nd, h1, hw⟩)
  have hlen : ((List.range len).map F).length = len := by simp
  refine ⟨_, (List.range len).map F, h0, ⟨some a, cap, by rw [hlen], by omega, hmx, fun hpos => ?_⟩, fun n hn => ?_⟩
  rotate_left
  ·
   obtain ⟨i, hi, rfl⟩ := List.mem_map.1 hn
   exact (hF i (List.mem_range.1 hi)).2
  rw [hlen] at hpos
  obtain ⟨g, o, spot⟩ := a
  have hspot : spot = none := by
   obtain ⟨_, _, h3⟩ := World.cells?_some (hF 0 (by omega)).1
   have h4' := h3 0 hm0
   rw [List.getElem?_eq_getElem (by rw [hlenA]; exact hm0)] at h4'
   have h4 := World.cell?_spot h4'
   simpa [Addr.add] using h4
  subst hspot
  have hcell : ∀ (i : Nat) (nd : α), ((List.range len).map F)[i]? = some nd → Cells w g (o + i * m) (encA nd) := by
   intro i nd hnd k v hv
   have hil : i < len := by have := (List.getElem?_eq_some_iff.1 hnd).1; omega
   have hnd' : F i = nd := by simpa [hil] using hnd
   subst hnd'
   have hk : k < m := by have := (List.getElem?_eq_some_iff.1 hv).1; rwa [hlenA] at this
   obtain ⟨_, _, h3⟩ := World.cells?_some (hF i hil).1
   have := h3 k hk
   rw [hv, addr_add, addr_add] at this
   exact this
  refine ⟨g, o, rfl, ?_, cells_flat hlenA w g o _ hcell⟩
  obtain ⟨u, hu⟩ : ∃ u, (encA (F 0))[0]? = some u := ⟨_, List.getElem?_eq_getElem (by rw [hlenA]; exact hm0)⟩
  have h5 := hcell 0 (F 0) (by simp [hpos]) 0 u hu
  simp only [World.cell?] at h5
  split at h5
  ·
   rename_i h6
   exact (Array.getElem?_eq_some_iff.1 h6).1
  ·
   cases h5
theorem trod_i {n : Nat} {c : Value} {x : DataW H × List MemPlace} (h : DataW.trod enc Tryz.prog w base spare held n 3 [c] = some x) : ∃ a, c = .int .i64 a ∧ I64 a := by
 obtain ⟨a0, q0, _, w0⟩ := DataW.trod_int Tryz.underlying3 h
 simp only [List.cons.injEq, and_true] at q0
 exact ⟨a0, q0, bounds_i64 w0⟩
theorem trod_s {n : Nat} {c : Value} {x : DataW H × List MemPlace} (h : DataW.trod enc Tryz.prog w base spare held n 9 [c] = some x) : ∃ a, c = .string a := by
 obtain ⟨a0, q0, _⟩ := DataW.trod_string Tryz.underlying9 h
 simp only [List.cons.injEq, and_true] at q0
 exact ⟨a0, q0⟩
def okF (a : Rf) : Prop := I64 a.col ∧ I64 a.row
def okR (r : Rct) : Prop := I64 r.c1 ∧ I64 r.r1 ∧ I64 r.c2 ∧ I64 r.r2
def okPu (p : Pu) : Prop := I64 p.col ∧ I64 p.row
set_option maxRecDepth 100000 in
theorem trod_ref {fuel : Nat} {cs : List Value} {x : DataW H × List MemPlace} (h : DataW.trod enc Tryz.prog w base spare held fuel 38 cs = some x) : ∃ v : Rf, cs = encF v ∧ okF v := by
 obtain ⟨xs, n, _, _, hlen, hxl, hf⟩ := DataW.trod_struct Tryz.underlying38 h
 have eS : Tryz.prog.cellsOf 38 = 2 := by kernel_rfl
 have eI : Tryz.prog.cellsOf 3 = 1 := by kernel_rfl
 rw [eS] at hlen
 match cs, hlen, xs, hxl with
 | [c0, c1], _, [x0, x1], _ =>
  have h0 : DataW.trod enc Tryz.prog w base spare held n 3 ((([c0, c1] : List Value).drop 0).take (Tryz.prog.cellsOf 3)) = some x0 := hf 0 _ rfl
  rw [eI] at h0
  obtain ⟨a0, rfl, w0⟩ := trod_i (c := c0) h0
  have h1 : DataW.trod enc Tryz.prog w base spare held n 3 ((([Value.int .i64 a0, c1] : List Value).drop 1).take (Tryz.prog.cellsOf 3)) = some x1 := hf 1 _ rfl
  rw [eI] at h1
  obtain ⟨a1, rfl, w1⟩ := trod_i (c := c1) h1
  exact ⟨⟨a0, a1⟩, rfl, w0, w1⟩
set_option maxRecDepth 100000 in
theorem trod_rect {fuel : Nat} {cs : List Value} {x : DataW H × List MemPlace} (h : DataW.trod enc Tryz.prog w base spare held fuel 24 cs = some x) : ∃ v : Rct, cs = encR v ∧ okR v := by
 obtain ⟨xs, n, _, _, hlen, hxl, hf⟩ := DataW.trod_struct Tryz.underlying24 h
 have eS : Tryz.prog.cellsOf 24 = 4 := by kernel_rfl
 have eI : Tryz.prog.cellsOf 3 = 1 := by kernel_rfl
 rw [eS] at hlen
 match cs, hlen, xs, hxl with
 | [c0, c1, c2, c3], _, [x0, x1, x2, x3], _ =>
  have h0 : DataW.trod enc Tryz.prog w base spare held n 3 ((([c0, c1, c2, c3] : List Value).drop 0).take (Tryz.prog.cellsOf 3)) = some x0 := hf 0 _ rfl
  rw [eI] at h0
  obtain ⟨a0, rfl, w0⟩ := trod_i (c := c0) h0
  have h1 : DataW.trod enc Tryz.prog w base spare held n 3 ((([Value.int .i64 a0, c1, c2, c3] : List Value).drop 1).take (Tryz.prog.cellsOf 3)) = some x1 := hf 1 _ rfl
  rw [eI] at h1
  obtain ⟨a1, rfl, w1⟩ := trod_i (c := c1) h1
  have h2 : DataW.trod enc Tryz.prog w base spare held n 3 ((([Value.int .i64 a0, .int .i64 a1, c2, c3] : List Value).drop 2).take (Tryz.prog.cellsOf 3)) = some x2 := hf 2 _ rfl
  rw [eI] at h2
  obtain ⟨a2, rfl, w2⟩ := trod_i (c := c2) h2
  have h3 : DataW.trod enc Tryz.prog w base spare held n 3 ((([Value.int .i64 a0, .int .i64 a1, .int .i64 a2, c3] : List Value).drop 3).take (Tryz.prog.cellsOf 3)) = some x3 := hf 3 _ rfl
  rw [eI] at h3
  obtain ⟨a3, rfl, w3⟩ := trod_i (c := c3) h3
  exact ⟨⟨a0, a1, a2, a3⟩, rfl, w0, w1, w2, w3⟩
set_option maxRecDepth 100000 in
theorem trod_put {fuel : Nat} {cs : List Value} {x : DataW H × List MemPlace} (h : DataW.trod enc Tryz.prog w base spare held fuel 73 cs = some x) : ∃ v : Pu, cs = encPu v ∧ okPu v := by
 obtain ⟨xs, n, _, _, hlen, hxl, hf⟩ := DataW.trod_struct Tryz.underlying73 h
 have eS : Tryz.prog.cellsOf 73 = 3 := by kernel_rfl
 have eI : Tryz.prog.cellsOf 3 = 1 := by kernel_rfl
 have eT : Tryz.prog.cellsOf 9 = 1 := by kernel_rfl
 rw [eS] at hlen
 match cs, hlen, xs, hxl with
 | [c0, c1, c2], _, [x0, x1, x2], _ =>
  have h0 : DataW.trod enc Tryz.prog w base spare held n 3 ((([c0, c1, c2] : List Value).drop 0).take (Tryz.prog.cellsOf 3)) = some x0 := hf 0 _ rfl
  rw [eI] at h0
  obtain ⟨a0, rfl, w0⟩ := trod_i (c := c0) h0
  have h1 : DataW.trod enc Tryz.prog w base spare held n 3 ((([Value.int .i64 a0, c1, c2] : List Value).drop 1).take (Tryz.prog.cellsOf 3)) = some x1 := hf 1 _ rfl
  rw [eI] at h1
  obtain ⟨a1, rfl, w1⟩ := trod_i (c := c1) h1
  have h2 : DataW.trod enc Tryz.prog w base spare held n 9 ((([Value.int .i64 a0, .int .i64 a1, c2] : List Value).drop 2).take (Tryz.prog.cellsOf 9)) = some x2 := hf 2 _ rfl
  rw [eT] at h2
  obtain ⟨a2, rfl⟩ := trod_s (c := c2) h2
  exact ⟨⟨a0, a1, a2⟩, rfl, w0, w1⟩
set_option maxRecDepth 100000 in
theorem trod_entry {fuel : Nat} {cs : List Value} {x : DataW H × List MemPlace} (h : DataW.trod enc Tryz.prog w base spare held fuel 142 cs = some x) : ∃ v : Et, cs = encEt v ∧ okF v.at_ := by
 obtain ⟨xs, n, _, _, hlen, hxl, hf⟩ := DataW.trod_struct Tryz.underlying142 h
 have eS : Tryz.prog.cellsOf 142 = 3 := by kernel_rfl
 have eI : Tryz.prog.cellsOf 38 = 2 := by kernel_rfl
 have eT : Tryz.prog.cellsOf 9 = 1 := by kernel_rfl
 rw [eS] at hlen
 match cs, hlen, xs, hxl with
 | [c0, c1, c2], _, [x0, x1], _ =>
  have h0 : DataW.trod enc Tryz.prog w base spare held n 38 ((([c0, c1, c2] : List Value).drop 0).take (Tryz.prog.cellsOf 38)) = some x0 := hf 0 _ rfl
  rw [eI] at h0
  obtain ⟨a, q, wa⟩ := trod_ref (cs := [c0, c1]) h0
  simp only [encF, List.cons.injEq, and_true] at q
  obtain ⟨rfl, rfl⟩ := q
  have h2 : DataW.trod enc Tryz.prog w base spare held n 9 ((([Value.int .i64 a.col, .int .i64 a.row, c2] : List Value).drop 2).take (Tryz.prog.cellsOf 9)) = some x1 := hf 1 _ rfl
  rw [eT] at h2
  obtain ⟨a2, rfl⟩ := trod_s (c := c2) h2
  exact ⟨⟨a, a2⟩, rfl, wa⟩
instance : Inhabited Pu := ⟨⟨0, 0, emptyB⟩⟩
instance : Inhabited Et := ⟨⟨⟨0, 0⟩, emptyB⟩⟩
set_option maxRecDepth 100000 in
theorem open_list {α : Type} [Inhabited α] {encA : α → List Value} {ok : α → Prop} {t e m : Nat} {v : Value} {d : DataW H} {p : List MemPlace} (ht : Tryz.prog.underlying t = some (.slice e)) (hm : Tryz.prog.cellsOf e = m) (hm0 : 0 < m) (hlenA : ∀ a, (encA a).length = m)
  (helem : ∀ (n : Nat) (cs : List Value) (y : DataW H × List MemPlace), DataW.trod enc Tryz.prog w 0 spare held n e cs = some y → ∃ a, cs = encA a ∧ ok a)
  (hv : Value.okWide Tryz.prog w .any base t v) (h : DataW.Trod enc Tryz.prog w 0 spare held t v d p) : ∃ L : List α, Reads w v L.length (L.flatMap encA) ∧ ∀ a ∈ L, ok a := by
 obtain ⟨fuel, hf⟩ := h
 have hc : v.cells.toList = [v] := by
  obtain ⟨a, n, c, rfl⟩ := okWide_slice ht hv
  rfl
 rw [hc] at hf
 obtain ⟨v', L, q, h1, h2⟩ := open_rows ht hm hm0 hlenA helem hf
 simp only [List.cons.injEq, and_true] at q
 subst q
 exact ⟨L, h1, h2⟩
set_option maxRecDepth 100000 in
theorem open_puts {v : Value} {d : DataW H} {p : List MemPlace} (hv : Value.okWide Tryz.prog w .any base 22 v) (h : DataW.Trod enc Tryz.prog w 0 spare held 22 v d p) : ∃ L : List Pu, Reads w v L.length (L.flatMap encPu) ∧ ∀ a ∈ L, okPu a :=
 open_list Tryz.underlying22 (by kernel_rfl) (by decide) encPu_len (fun _ _ _ h => trod_put h) hv h
set_option maxRecDepth 100000 in
theorem open_entries {v : Value} {d : DataW H} {p : List MemPlace} (hv : Value.okWide Tryz.prog w .any base 60 v) (h : DataW.Trod enc Tryz.prog w 0 spare held 60 v d p) : ∃ L : List Et, Reads w v L.length (L.flatMap encEt) ∧ ∀ a ∈ L, okF a.at_ :=
 open_list Tryz.underlying60 (by kernel_rfl) (by decide) encEt_len (fun _ _ _ h => trod_entry h) hv h
set_option maxRecDepth 100000 in
theorem open_rect {v : Value} {d : DataW H} {p : List MemPlace} (hv : Value.okWide Tryz.prog w .any base 24 v) (h : DataW.Trod enc Tryz.prog w 0 spare held 24 v d p) : ∃ r : Rct, v = .agg (encR r).toArray ∧ okR r := by
 obtain ⟨fuel, hf⟩ := h
 obtain ⟨cs, rfl, _⟩ := okWide_struct Tryz.underlying24 hv
 obtain ⟨r, e, hr⟩ := trod_rect hf
 exact ⟨r, by rw [← e]; simp [Value.cells], hr⟩
set_option maxRecDepth 100000 in
theorem open_ref {v : Value} {d : DataW H} {p : List MemPlace} (hv : Value.okWide Tryz.prog w .any base 38 v) (h : DataW.Trod enc Tryz.prog w 0 spare held 38 v d p) : ∃ r : Rf, v = .agg (encF r).toArray ∧ okF r := by
 obtain ⟨fuel, hf⟩ := h
 obtain ⟨cs, rfl, _⟩ := okWide_struct Tryz.underlying38 hv
 obtain ⟨r, e, hr⟩ := trod_ref hf
 exact ⟨r, by rw [← e]; simp [Value.cells], hr⟩
end
end Go.SL
namespace Go.SL
open Go Go.Proofs Go.Proofs.YtpohljcebgacjaaGreatDoor Go.ChangeShapes Go.WideShapes Go.ChangeAt Go.RowKit Go.Deep
def wordsU : List (List UInt8) := [[], [35, 68, 73, 86, 47, 48, 33], [35, 86, 65, 76, 85, 69, 33], [35, 78, 85, 77, 33], [35, 78, 47, 65], [35, 82, 69, 70, 33], [35, 67, 89, 67, 76, 69, 33], [35, 68, 69, 78, 73, 69, 68]]
def laidWs : List (String × DataW Unit) := [("louvre/val.words", Rows.laid_louvre_val_words)]
theorem wordsU_laid : (Rows.laid_louvre_val_words : DataW Unit) = .agg (wordsU.map fun l => .lit (.string l)) := rfl
theorem wordsU_B : wordsB = wordsU.map fun l => ⟨l.toArray⟩ := rfl
set_option maxRecDepth 100000 in
theorem words_of_laid {W : World} (h : laidMetH Tryz.prog laidWs W) : Words W := by
 rw [MakeChecks.laidMetH_plain _ _ _ (by kernel_rfl)] at h
 obtain ⟨ps, ⟨g, t, cs, fuel, p, q, hg, ht, hv, hd, _, _⟩, _⟩ := h
 obtain rfl := Option.some.inj ((show Tryz.prog.globalNamed "louvre/val.words" = some 0 by kernel_rfl).symm.trans hg)
 obtain rfl := Option.some.inj ((show (Tryz.prog.globals[0]?).map (·.type) = some 252 by kernel_rfl).symm.trans ht)
 rw [wordsU_laid] at hd
 obtain ⟨xs, m, _, ex, _, hl, hel⟩ := DataW.trod_array Tryz.underlying252 hd
 have cS : Tryz.prog.cellsOf 9 = 1 := by kernel_rfl
 have hcell : ∀ (j : Nat) (v : Value), (wordsB.map Value.string)[j]? = some v → W.cell? ⟨0, 0 + j, none⟩ = some v := by
  intro j v hjv
  have hj : j < 8 := by
   have := (List.getElem?_eq_some_iff.1 hjv).1
   simpa [wordsB] using this
  have hE := hel j hj
  rw [cS, Nat.mul_one, List.getElem?_eq_getElem (by omega)] at hE
  obtain ⟨s, e1, e2, _⟩ := DataW.trod_string Tryz.underlying9 hE
  have e3 : (xs.map (·.1)) = wordsU.map fun l => .lit (.string l) := (DataW.agg.inj (Prod.mk.inj ex).1).symm
  have hwl : wordsU.length = 8 := rfl
  have e4 : (xs.map (·.1))[j]? = (wordsU.map fun l => (DataW.lit (.string l) : DataW Unit))[j]? := by rw [e3]
  obtain ⟨u, hu⟩ : ∃ u, wordsU[j]? = some u := ⟨_, List.getElem?_eq_getElem (by rw [hwl]; exact hj)⟩
  rw [List.getElem?_map, List.getElem?_map, List.getElem?_eq_getElem (by omega : j < xs.length), hu, e2] at e4
  simp only [Option.map_some, Option.some.injEq, DataW.lit.injEq, Lit.string.injEq] at e4
  have hs : s = ⟨u.toArray⟩ := by
   obtain ⟨d⟩ := s
   subst e4
   rfl
  have hvv : v = .string s := by
   rw [wordsU_B, List.map_map, List.getElem?_map, hu] at hjv
   simp only [Option.map_some, Option.some.injEq, Function.comp] at hjv
   rw [← hjv, hs]
  rw [hvv, Nat.zero_add, World.var?_cell hg hv j]
  have : cs.toList[j]? = some (.string s) := by
   have h0 : ((cs.toList.drop j).take 1)[0]? = some (.string s) := by rw [e1]; rfl
   simpa using h0
  simpa using this
 refine ⟨?_, hcell⟩
 have h5 := hcell 0 _ rfl
 simp only [World.cell?] at h5
 split at h5
 ·
  rename_i h6
  exact (Array.getElem?_eq_some_iff.1 h6).1
 ·
  cases h5
end Go.SL
namespace Go.SL
open Go Go.Proofs
attribute [local irreducible] W WL WQ WG WA WX WLI WR WT WC VOp RW thn blk cutP scp retP retPP endB FnAt FnIn FnP ceP
set_option maxHeartbeats 2000000 in
theorem Copy_inF (gg gm clock : Nat) (E : List En) (G : Gr) (R F : List Blk) (w0 : World) (hG : GOk R E clock G) :
  FnIn Tryz.prog 41 [.pointer (some ⟨gg, 0, none⟩)] w0 (gB gg gm (E.map En.m) clock ++ (R ++ F)) fun v H => ∃ gc gm2 E2 clock2 R2, v = .pointer (some ⟨gc, 0, none⟩) ∧ H = gB gc gm2 (E2.map En.m) clock2 ++ (gB gg gm (E.map En.m) clock ++ (R2 ++ F)) ∧ MSub R R2 ∧ GOk R2 E2 clock2 G := by
 refine fn_in Tryz.func41 rfl Tryz.ntmps41 rfl ?_
 have hok := hG.ok
 unfold gB
 repeat' (first | ((with_reducible apply wl_makeMap (enc := keyF)); exact rfl; intro gm2) | ((with_reducible apply wl_v); exact rfl; (with_reducible apply v_nilCheck); exact rfl) | ((with_reducible apply wl_range_map (enc := keyF)); exact rfl; exact rfl; exact pK; intro gi) | refine sT ?_ | refine sS ?_ | refine sM fun _ => ?_ | (refine sC ?_ ?_ <;> intro hb <;> try omega) | fail)
 rename_i gc
 refine w_loopK [3, 15] rfl (fun x : List (Rf × Value × Nat) × List En × Nat × Gr × List Blk => []) (fun x => .obj gi (mIter gm clock (x.1.map fun e => e.2.2)) :: .box gc 109 [.map (some gm2)] :: .obj gm2 (mobj keyF (x.2.1.map En.m) x.2.2.1) :: ([.box gg 109 [.map (some gm)], .obj gm (mobj keyF (E.map En.m) clock)] ++ (x.2.2.2.2 ++ F))) (fun x => CopyI R E x.1 x.2.1 x.2.2.1 x.2.2.2.1 x.2.2.2.2) (fun x => (E.map En.m).length - x.1.length) ([], [], 0, [], R) ⟨Vis.nil _, MSub.refl _, gok_nil R, fun x => by simp⟩ sB mS ?_
 rintro ⟨vis, E2, clock2, G2, R2⟩ ⟨hv, hsub, hok2, hmem⟩
 dsimp only at hv hsub hok2 hmem ⊢
 have hG2 := hG.sub hsub
 repeat' (first | ((with_reducible apply wl_next_map (enc := keyF)); exact rfl; exact rfl; exact pK; exact pK; exact hok; intro e0 he hne) | (intro hall) | refine sT ?_ | refine sS ?_ | refine sM fun _ => ?_ | (refine sC ?_ ?_ <;> intro hb <;> try omega) | fail)
 ·
  obtain ⟨e, heE, rfl⟩ := List.mem_map.1 he
  have hoke := hG2.en e heE
  repeat' (first | ((with_reducible apply wl_v); exact rfl; (with_reducible apply v_entry (enc := keyF)); exact rfl; exact pK; exact pK; exact he; exact hok) | refine sT ?_ | refine sS ?_ | refine sM fun _ => ?_ | (refine sC ?_ ?_ <;> intro hb <;> try omega) | fail)
  rename_i g4 g5
  have hT := fun (w' : World) (H' : List Blk) (hs : MSub R2 H') (hm : Mem w0 w' H') => Clone_at e.tree e.tv w' (hoke.tree _ w' (hs.use hm)) hoke.tl
  have hU := fun (w' : World) (H' : List Blk) (hs : MSub R2 H') (hm : Mem w0 w' H') => CloneU_at e.uses e.uv w' (hoke.uses _ w' (hs.use hm)) hoke.ul
  refine w_drawC (id := 7) [7, 10, 12] [] [.box gc 109 [.map (some gm2)], .box g4 38 (encF e.at_), .box g5 114 [e.tv, e.uv]] (by kernel_rfl) (by kernel_rfl) (by kernel_rfl) mS ?_
  repeat' (first | ((with_reducible apply wc_v); (iterate 3 exact rfl); (with_reducible apply v_nilCheck); exact rfl) | ((with_reducible apply wl_call (f := 80)); exact rfl; exact rfl; (intro w' hm; exact hT w' _ (MSub.trans (MSub.appL R2 F) mS) hm); rintro _ _ ⟨A, cap, rfl, rfl⟩) | ((with_reducible apply wl_call (f := 69)); exact rfl; exact rfl; (intro w' hm; exact hU w' _ (MSub.trans (MSub.appL R2 F) mS) hm); rintro _ _ ⟨A2, cap2, rfl, rfl⟩) | refine sT ?_ | refine sS ?_ | refine sW ?_ | refine sM fun _ => ?_ | (refine sC ?_ ?_ <;> intro hb <;> try omega) | (refine sCW ?_ ?_ <;> intro hb <;> try omega) | fail)
  have hGR := hok2.sub (R' := .own A2 45 6 e.uses.length cap2 (e.uses.flatMap encU) :: .own A 136 11 e.tree.length cap (e.tree.flatMap encN) :: R2) mS
  obtain ⟨E3, hE3, hG3⟩ := hGR.put ⟨e.at_, A.map fun g => ⟨g, 0, none⟩, cap, A2.map fun g => ⟨g, 0, none⟩, cap2, e.tree, e.uses, 0⟩ ⟨rdIn.own (A := A) pK, rdIn.own (A := A2) pK, hoke.tl, hoke.ul⟩
  generalize hck2 : (kput e.at_ (.agg #[sl A e.tree.length cap, sl A2 e.uses.length cap2]) clock2 (E2.map En.m)) = kp
  have hE3' : E3.map En.m = kp.1 := hck2 ▸ hE3
  have hG3' : GOk _ E3 kp.2 (insG G2 e.at_ (e.tree, e.uses)) := hck2 ▸ hG3
  repeat' (first | ((with_reducible apply wl_mapPut (enc := keyF)); (iterate 3 exact rfl); exact pK; rw [hck2, ← hE3']) | refine sT ?_ | refine sS ?_ | refine sW ?_ | refine sM fun _ => ?_ | (refine sC ?_ ?_ <;> intro hb <;> try omega) | (refine sCW ?_ ?_ <;> intro hb <;> try omega) | fail)
  have hnew : e.m ∉ vis := fun h => hne (List.mem_map.2 ⟨e.m, h, rfl⟩)
  refine ⟨(vis ++ [e.m], E3, kp.2, insG G2 e.at_ (e.tree, e.uses), _), ⟨hv.step he hne, ?_, hG3', fun x => ?_⟩, ?_, sB, sB, ?_⟩
  ·
   exact MSub.trans hsub mS
  ·
   rw [mem_insG, hmem]
   constructor
   ·
    rintro (rfl | ⟨⟨n, h1, h2, rfl⟩, _⟩)
    ·
     exact ⟨e, heE, by simp, rfl⟩
    ·
     exact ⟨n, h1, by simp [h2], rfl⟩
   ·
    rintro ⟨n, h1, h2, rfl⟩
    by_cases hna : n.at_ = e.at_
    ·
     have : n = e := inj_of_map En.at_ hG.nodup h1 heE hna
     subst this
     left; rfl
    ·
     right
     refine ⟨⟨n, h1, ?_, rfl⟩, hna⟩
     rcases List.mem_append.1 h2 with h2 | h2
     ·
      exact h2
     ·
      have := List.mem_singleton.1 h2
      exact absurd (congrArg Prod.fst this) hna
  ·
   have := hv.lt he hne
   simp only [List.length_append, List.length_singleton]
   omega
  ·
   simp only [List.map_append, List.map_cons, List.map_nil]
   exact mS
 ·
  have hperm := hv.perm hok hall
  have hGG : G2 = G := gr_ext hok2.sort hG.sort fun x => by
   rw [hmem, ← hG.rel]
   constructor
   ·
    rintro ⟨n, h1, _, rfl⟩
    exact List.mem_map.2 ⟨n, h1, rfl⟩
   ·
    intro h
    obtain ⟨n, h1, rfl⟩ := List.mem_map.1 h
    exact ⟨n, h1, hperm.mem_iff.2 (List.mem_map.2 ⟨n, h1, rfl⟩), rfl⟩
  subst hGG
  exact ret1 eIO rfl rfl (H' := gB gc gm2 (E2.map En.m) clock2 ++ (gB gg gm (E.map En.m) clock ++ (R2 ++ F))) (by unfold gB; exact mS) ⟨gc, gm2, E2, clock2, R2, rfl, rfl, hsub, hok2⟩
end Go.SL
