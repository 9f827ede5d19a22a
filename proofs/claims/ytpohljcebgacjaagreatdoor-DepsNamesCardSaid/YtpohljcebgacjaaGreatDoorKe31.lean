/-
  Lemmas and walks, put together: Q10 Q11 Q12 Q13.
-/
import Derived.Test.YtpohljcebgacjaaGreatDoorKe30
set_option linter.unusedSimpArgs false
set_option linter.unusedVariables false
set_option maxRecDepth 20000
namespace Go.SL
open Go Go.Proofs
attribute [local irreducible] W WL WQ WG WA WX WLI WR WT WC VOp RW thn blk cutP scp retP retPP endB FnAt FnIn FnP ceP
def encQ (e : En) : List Value := [.int .i64 e.at_.col, .int .i64 e.at_.row, e.tv, e.uv]
theorem encQ_len (e : En) : (encQ e).length = 4 := rfl
theorem encQ_one (L : List En) : ∀ v ∈ L.flatMap encQ, v.oneCell' = true := by
 intro v hv
 obtain ⟨e, _, hv⟩ := List.mem_flatMap.1 hv
 simp only [encQ, List.mem_cons, List.not_mem_nil, or_false] at hv
 rcases hv with rfl | rfl | rfl | rfl <;> rfl
def rgB (g : Nat) (A : Option Nat) (cap : Nat) (L : List En) : List Blk := [.box g 129 [sl A L.length cap], .own A 132 4 L.length cap (L.flatMap encQ)]
structure RGOk (R : List Blk) (L : List En) (G : Gr) : Prop where
 en : ∀ e ∈ L, EnOk R e
 rel : L.map En.abs = G
theorem RGOk.sub {R R' : List Blk} {L : List En} {G : Gr} (h : RGOk R L G) (hs : MSub R R') : RGOk R' L G := ⟨fun e he => (h.en e he).sub hs, h.rel⟩
theorem RGOk.len {R : List Blk} {L : List En} {G : Gr} (h : RGOk R L G) : L.length = G.length := by rw [← h.rel, List.length_map]
def idxQ (L : List En) (a : Rf) : Int := match L.findIdx? (fun e => decide (e.at_ = a)) with | some i => (i : Int) | none => -1
theorem idxQ_at {L : List En} {a : Rf} {i : Nat} (h : i < L.length) (ha : L[i].at_ = a) (hno : ∀ j (h : j < L.length), j < i → L[j].at_ ≠ a) : idxQ L a = (i : Int) := by
 unfold idxQ
 rw [List.findIdx?_eq_some_iff_getElem.2 ⟨h, by simpa using ha, fun j hj => by simpa using hno j (by omega) hj⟩]
theorem idxQ_no {L : List En} {a : Rf} (hno : ∀ j (h : j < L.length), L[j].at_ ≠ a) : idxQ L a = -1 := by
 unfold idxQ
 rw [List.findIdx?_eq_none_iff.2]
 intro e he
 obtain ⟨j, hj, rfl⟩ := List.getElem_of_mem he
 simpa using hno j hj
structure RGm (w : World) (g : Nat) (Al : Option Addr) (cl : Nat) (L : List En) : Prop where
 box : Ro w g 0 [.slice Al L.length cl]
 row : 0 < L.length → ∃ gl ol, Al = some ⟨gl, ol, none⟩ ∧ Ro w gl ol (L.flatMap encQ)
theorem RGm.of {g : Nat} {A : Option Nat} {cap : Nat} {L : List En} {H : List Blk} {w0 w : World} (hH : MSub (rgB g A cap L) H) (hm : Mem w0 w H) : RGm w g (A.map fun g => ⟨g, 0, none⟩) cap L := by
 have hm' := hH.use hm
 refine ⟨Ro.of_box hm' .hd, fun hpos => ?_⟩
 obtain ⟨Al, cl, hv, _, _, hl3⟩ := Reads.of_own hm' (.tl .hd)
 unfold sl at hv
 injection hv with hv1 hv2 hv3
 rw [hv1]
 exact hl3 hpos
set_option maxHeartbeats 1000000 in
theorem rIndex_at (g : Nat) (Al : Option Addr) (cl : Nat) (L : List En) (a : Rf) (w : World) (hr : RGm w g Al cl L) (hlen : L.length ≤ 1000000) :
    Pure Tryz.prog 81 [.pointer (some ⟨g, 0, none⟩), keyF a] w (.int .i64 (idxQ L a)) := by
  obtain ⟨hr, hl3⟩ := hr
  refine fn_at Tryz.func81 rfl Tryz.ntmps81 rfl ?_
  repeat' (first | refine sT ?_ | refine sS ?_ | refine sM fun _ => ?_ | (refine sC ?_ ?_ <;> intro hb <;> try omega) | fail)
  rename_i g3
  refine w_loopK [0, 3] rfl (fun i : Nat => [(5, .int .i64 (i : Int))]) (fun _ => [.box g3 38 (encF a)]) (fun i => i ≤ L.length ∧ ∀ j (h : j < L.length), j < i → L[j].at_ ≠ a) (fun i => L.length - i) 0 ⟨by omega, fun j _ h => by omega⟩ sB mS ?_
  rintro i ⟨hi, hno⟩
  by_cases hlt : i < L.length
  · obtain ⟨gl, ol, rfl, hrl⟩ := hl3 (by omega)
    have he := hrl.elem encQ_len i hlt
    have hno1 := fun (h : L[i].at_ ≠ a) (j : Nat) (hj : j < L.length) (hji : j < i + 1) => (show L[j].at_ ≠ a from by
      rcases (by omega : j < i ∨ j = i) with h1 | rfl
      · exact hno j hj h1
      · exact h)
    have hat := fun h => idxQ_at hlt h hno
    generalize L[i] = e at he hno1 hat
    obtain ⟨c, hc⟩ : ∃ c, decide (e.at_ = a) = c := ⟨_, rfl⟩
    repeat' (first | ((with_reducible apply wl_v (d := 10)); exact rfl; (with_reducible apply v_load_ro (o := 0) (off := 0)); exact hr; exact rfl; exact rfl) | ((with_reducible apply wq_v (d := 18)); exact rfl; (with_reducible apply v_load_ro (o := 0) (off := 0)); exact hr; exact rfl; exact rfl) | ((with_reducible apply wq_v (d := 20)); exact rfl; (with_reducible apply v_indexAddr (j := i)); exact rfl; exact rfl; exact hlt) | ((with_reducible apply wq_v (d := 22)); exact rfl; (with_reducible apply v_loads_ro (off := 0) (ys := encF e.at_) he); (iterate 3 exact rfl)) | ((with_reducible apply wq_v (d := 24)); exact rfl; (with_reducible apply v_eqlF_to); exact hc; exact rfl; exact rfl) | refine sT ?_ | refine sS ?_ | refine sQ ?_ | refine sN ?_ | refine sNQ ?_ | refine sD ?_ | refine sM fun _ => ?_ | (refine sC ?_ ?_ <;> intro hb <;> try omega) | (refine sCQ ?_ ?_ <;> intro hb <;> try omega) | fail)
    all_goals first | (exfalso; omega) | skip
    · refine ret1 eIO rfl rfl (.nil _) ?_
      rw [hat (by simp_all)]
    · refine ⟨i + 1, ?_, (by first | omega | (dsimp only; omega)), sB, sB, mS⟩
      exact ⟨hlt, hno1 (by simp_all)⟩
  · have e2 : i = L.length := by omega
    subst e2
    repeat' (first | ((with_reducible apply wl_v (d := 10)); exact rfl; (with_reducible apply v_load_ro (o := 0) (off := 0)); exact hr; exact rfl; exact rfl) | refine sT ?_ | refine sS ?_ | refine sN ?_ | refine sM fun _ => ?_ | (refine sC ?_ ?_ <;> intro hb <;> try omega) | fail)
    all_goals first
      | (exfalso; omega)
      | (refine ret1 eIO rfl rfl (.nil _) ?_
         rw [idxQ_no fun j hj => hno j hj hj])
set_option maxHeartbeats 1000000 in
theorem rTouches_at (e : En) (r : Rct) (w : World) (ht : Reads w e.uv e.uses.length (e.uses.flatMap encU)) (hlen : e.uses.length ≤ 1000000) :
  Pure Tryz.prog 83 [.agg (encQ e).toArray, .agg (encR r).toArray] w (.bool (touchesU e.uses r)) := by
 obtain ⟨Al, cl, hv, hl1, hl2, hl3⟩ := ht
 refine fn_at Tryz.func83 rfl Tryz.ntmps83 rfl ?_
 have he : encQ e = [.int .i64 e.at_.col, .int .i64 e.at_.row, e.tv, .slice Al e.uses.length cl] := by rw [← hv]; rfl
 rw [he]
 generalize e.tv = tv
 generalize e.uses = L at hl1 hl3 hlen
 repeat' (first | refine sT ?_ | refine sS ?_ | refine sM fun _ => ?_ | (refine sC ?_ ?_ <;> intro hb <;> try omega) | fail)
 rename_i g2 g3
 refine w_loopK [2, 3] rfl (fun i : Nat => [(5, .int .i64 (i : Int))]) (fun _ => [.box g3 24 (encR r), .box g2 132 [.int .i64 e.at_.col, .int .i64 e.at_.row, tv, .slice Al L.length cl]]) (fun i => i ≤ L.length ∧ touchesU L r = touchesU (L.drop i) r) (fun i => L.length - i) 0 ⟨by omega, rfl⟩ sB mS ?_
 rintro i ⟨hi, hrec⟩
 by_cases hlt : i < L.length
 ·
  obtain ⟨gl, ol, rfl, hrl⟩ := hl3 (by omega)
  have hu := hrl.elem encU_len i hlt
  rw [List.drop_eq_getElem_cons hlt] at hrec
  unfold touchesU at hrec
  rw [List.any_cons] at hrec
  unfold touchesU
  generalize L[i] = u at hu hrec
  have hM := fun w => refMeet_at u.rect r w
  unfold touch at hrec
  generalize meetR u.rect r = mr at hM hrec
  obtain ⟨m1, m2⟩ := mr
  dsimp only at hM
  repeat' (first | refine sT ?_ | refine sS ?_ | refine sN ?_ | refine sM fun _ => ?_ | (refine sC ?_ ?_ <;> intro hb <;> try omega) | fail)
  all_goals first | (exfalso; omega) | skip
  refine w_nilrow 0 0 ?_
  refine w_drawXg (id := 4) (fun | 11 => some fun g => .pointer (some ⟨g.2, 0, none⟩) | _ => none)
   (fun (D : Done) (q : Nat → Gh) => (bif D 11 then Blk.box (q 11).2 24 (bif D 12 then encR m1 else [.int .i64 0, .int .i64 0, .int .i64 0, .int .i64 0]) else nilB) :: .box g3 24 (encR r) :: .box g2 132 [.int .i64 e.at_.col, .int .i64 e.at_.row, tv, .slice (some ⟨gl, ol, none⟩) L.length cl] :: []) ?_ ?_ ?_ ?_
  ·
   kernel_rfl
  ·
   kernel_rfl
  ·
   intro γ
   exact mS
  intro γ
  repeat' (first | ((with_reducible apply wx_v (d := 19)); (iterate 3 exact rfl); (intro D ht; (with_reducible apply v_indexAddr (j := i)); exact rfl; exact rfl; exact hlt); exact fun _ => rfl) | ((with_reducible apply wx_v (d := 21)); (iterate 3 exact rfl); (intro D ht; (with_reducible apply v_loads_ro (off := 0) (ys := encR u.rect) hu); (iterate 3 exact rfl)); exact fun _ => rfl) | ((with_reducible apply wx_callp (f := 127)); (iterate 3 exact rfl); (decide +kernel); exact rfl; (intro D ht w hm; exact hM w); exact fun _ => rfl) | refine sT ?_ | refine sS ?_ | refine sX ?_ | refine sM fun _ => ?_ | (refine sC ?_ ?_ <;> intro hb <;> try omega) | (refine sCX ?_ ?_ <;> intro hb <;> try omega) | fail)
  refine wx_non rfl rfl rfl (fun D ht => ?_) ?_
  ·
   have n10 : D 11 = false := ht.not
   have n11 : D 12 = false := ht.late (j := 12) (f := 60) (by decide +kernel)
   (simp only [gat, put, upd, Nat.reduceEqDiff, Nat.reduceAdd, reduceIte, n10, n11, cond_true, cond_false, List.nil_append, List.cons_append, Bool.and_true, Bool.and_false, Bool.true_and, Bool.false_and])
   (with_reducible apply wl_alloc); exact rfl; intro g
   refine wl_nil ⟨rfl, (none, g), rfl, ?_⟩
   (simp only [gat, put, upd, Nat.reduceEqDiff, Nat.reduceAdd, reduceIte, n10, n11, cond_true, cond_false, List.nil_append, List.cons_append, Bool.and_true, Bool.and_false, Bool.true_and, Bool.false_and])
   exact mS
  refine wx_put (T := 24) (vs := encR m1) rfl rfl rfl rfl rfl rfl rfl (fun D ht => ?_) ?_
  ·
   have n11 : D 12 = false := ht.not
   have n10 : D 11 = true := ht.early (i := 11) (f := 60) (by decide +kernel)
   (simp only [gat, put, upd, Nat.reduceEqDiff, Nat.reduceAdd, reduceIte, n10, n11, cond_true, cond_false, List.nil_append, List.cons_append, Bool.and_true, Bool.and_false, Bool.true_and, Bool.false_and])
   refine ⟨_, _, .hd, ?_, ?_⟩
   ·
    exact Nat.le_of_ble_eq_true rfl
   ·
    exact mS
  repeat' (first | refine sT ?_ | refine sS ?_ | refine sX ?_ | refine sM fun _ => ?_ | (refine sC ?_ ?_ <;> intro hb <;> try omega) | (refine sCX ?_ ?_ <;> intro hb <;> try omega) | fail)
  intro D hD
  have n10 := hD 11 (by decide)
  have n11 := hD 12 (by decide)
  (simp only [gat, put, upd, Nat.reduceEqDiff, Nat.reduceAdd, reduceIte, n10, n11, cond_true, cond_false, List.nil_append, List.cons_append, Bool.and_true, Bool.and_false, Bool.true_and, Bool.false_and])
  cases m2
  ·
   repeat' (first | refine sT ?_ | refine sS ?_ | refine sN ?_ | refine sM fun _ => ?_ | (refine sC ?_ ?_ <;> intro hb <;> try omega) | fail)
   refine ⟨i + 1, ⟨hlt, hrec⟩, by omega, ?_, ?_, ?_⟩
   ·
    exact sB
   ·
    exact sB
   ·
    exact mS
  ·
   repeat' (first | refine sT ?_ | refine sS ?_ | refine sN ?_ | refine sM fun _ => ?_ | (refine sC ?_ ?_ <;> intro hb <;> try omega) | fail)
   refine ret1 eIO rfl rfl (.nil _) ?_
   rw [show L.any (touch r) = true from hrec]
 ·
  have e2 : i = L.length := by omega
  subst e2
  rw [List.drop_length] at hrec
  rw [hrec]
  repeat' (first | refine sT ?_ | refine sS ?_ | refine sN ?_ | refine sM fun _ => ?_ | (refine sC ?_ ?_ <;> intro hb <;> try omega) | fail)
  all_goals first
   | (exfalso; omega)
   | exact ret1 eIO rfl rfl (.nil _) rfl
def stepQ (a : Rf) (x : En) (st : List En × Bool) (e : En) : List En × Bool :=
 let st1 := if st.2 = false ∧ lessF a e.at_ = true then (st.1 ++ [x], true) else st
 (if e.at_ ≠ a then st1.1 ++ [e] else st1.1, st1.2)
def endQ (x : En) (st : List En × Bool) : List En := if st.2 then st.1 else st.1 ++ [x]
def setQ (a : Rf) (x : En) (d : Bool) (L : List En) : List En := endQ x (L.foldl (stepQ a x) ([], d))
theorem fold_del (a : Rf) (x : En) : ∀ (L : List En) (O : List En), L.foldl (stepQ a x) (O, true) = (O ++ L.filter (fun e => decide (e.at_ ≠ a)), true)
 | [], O => by simp
 | e :: r, O => by
  rw [List.foldl_cons]
  have : stepQ a x (O, true) e = (if e.at_ ≠ a then O ++ [e] else O, true) := by simp [stepQ]
  rw [this, fold_del a x r, List.filter_cons]
  by_cases h : e.at_ ≠ a
  ·
   simp [h]
  ·
   simp [h]
theorem setQ_del (a : Rf) (x : En) (L : List En) : (setQ a x true L).map En.abs = delG (L.map En.abs) a := by
 unfold setQ
 rw [fold_del]
 simp only [endQ, if_true, List.nil_append, delG, List.filter_map]
 rfl
theorem fold_ins {a : Rf} {x : En} : ∀ (L : List En) (O : List En), SortG (L.map En.abs) →
  endQ x (L.foldl (stepQ a x) (O, false)) = O ++ (L.filter (fun e => lessF e.at_ a) ++ x :: L.filter fun e => lessF a e.at_)
 | [], O, _ => by simp [endQ]
 | e :: r, O, hs => by
  rw [List.map_cons] at hs
  obtain ⟨h1, h2⟩ := List.pairwise_cons.1 hs
  rw [List.foldl_cons, List.filter_cons, List.filter_cons]
  cases hl : lessF a e.at_ with
  | true =>
   have hne : e.at_ ≠ a := (lessF_ne hl).symm
   have hge : lessF e.at_ a = false := lessF_asymm hl
   have hst : stepQ a x (O, false) e = (O ++ [x] ++ [e], true) := by simp [stepQ, hl, hne]
   have hall : ∀ f ∈ r, lessF a f.at_ = true := fun f hf => lessF_trans hl (h1 f.abs (List.mem_map.2 ⟨f, hf, rfl⟩))
   have e1 : r.filter (fun f => decide (f.at_ ≠ a)) = r := List.filter_eq_self.2 fun f hf => by simpa using (lessF_ne (hall f hf)).symm
   have e2 : r.filter (fun f => lessF f.at_ a) = [] := List.filter_eq_nil_iff.2 fun f hf => by rw [lessF_asymm (hall f hf)]; simp
   have e3 : r.filter (fun f => lessF a f.at_) = r := List.filter_eq_self.2 hall
   rw [hst, fold_del, hge, e1, e2, e3]
   simp [endQ]
  | false =>
   by_cases hne : e.at_ = a
   ·
    have hst : stepQ a x (O, false) e = (O, false) := by simp [stepQ, hne, lessF_irr]
    have hle : lessF e.at_ a = false := by rw [hne]; exact lessF_irr a
    rw [hst, fold_ins r O h2, hle]
    simp
   ·
    have hst : stepQ a x (O, false) e = (O ++ [e], false) := by simp [stepQ, hl, hne]
    have hle : lessF e.at_ a = true := by
     rcases lessF_or hne with h | h
     ·
      exact h
     ·
      rw [hl] at h; cases h
    rw [hst, fold_ins r _ h2, hle]
    simp
theorem setQ_ins {a : Rf} {x : En} (hx : x.at_ = a) {L : List En} (hs : SortG (L.map En.abs)) : (setQ a x false L).map En.abs = insG (L.map En.abs) a (x.tree, x.uses) := by
 unfold setQ
 rw [fold_ins L [] hs, List.nil_append, List.map_append, List.map_cons, insG, List.filter_map, List.filter_map]
 subst hx
 rfl
theorem stepQ_mem {a : Rf} {x : En} {st : List En × Bool} {e f : En} (h : f ∈ (stepQ a x st e).1) : f ∈ st.1 ∨ f = x ∨ f = e := by
 have h1 : ∀ q : List En, f ∈ (if e.at_ ≠ a then q ++ [e] else q) → f ∈ q ∨ f = e := by
  intro q hq
  split at hq
  ·
   rcases List.mem_append.1 hq with hq | hq
   ·
    exact .inl hq
   ·
    exact .inr (List.mem_singleton.1 hq)
  ·
   exact .inl hq
 unfold stepQ at h
 dsimp only at h
 rcases h1 _ h with h | h
 ·
  split at h
  ·
   rcases List.mem_append.1 h with h | h
   ·
    exact .inl h
   ·
    exact .inr (.inl (List.mem_singleton.1 h))
  ·
   exact .inl h
 ·
  exact .inr (.inr h)
theorem fold_mem {a : Rf} {x : En} : ∀ (L : List En) (st : List En × Bool) {f : En}, f ∈ (L.foldl (stepQ a x) st).1 → f ∈ st.1 ∨ f = x ∨ f ∈ L
 | [], _, _, h => .inl h
 | e :: r, st, f, h => by
  rw [List.foldl_cons] at h
  rcases fold_mem r _ h with h | h | h
  ·
   rcases stepQ_mem h with h | h | h
   ·
    exact .inl h
   ·
    exact .inr (.inl h)
   ·
    exact .inr (.inr (h ▸ List.mem_cons_self))
  ·
   exact .inr (.inl h)
  ·
   exact .inr (.inr (List.mem_cons_of_mem _ h))
theorem setQ_mem {a : Rf} {x : En} {d : Bool} {L : List En} {f : En} (h : f ∈ setQ a x d L) : f = x ∨ f ∈ L := by
 unfold setQ endQ at h
 split at h
 ·
  rcases fold_mem L _ h with h | h | h
  ·
   cases h
  ·
   exact .inl h
  ·
   exact .inr h
 ·
  rcases List.mem_append.1 h with h | h
  ·
   rcases fold_mem L _ h with h | h | h
   ·
    cases h
   ·
    exact .inl h
   ·
    exact .inr h
  ·
   exact .inl (List.mem_singleton.1 h)
theorem formulaV_wf {l : List Int} {fin : Int} : ∀ n ∈ (formulaV (tokensV tokenR l) fin).1, wfN n := by
 have hnum := tokensV_num l
 generalize tokensV tokenR l = x at hnum
 unfold formulaV
 split
 ·
  exact fun _ h => by cases h
 ·
  split
  ·
   exact fun _ h => by cases h
  ·
   exact fun _ h => by cases h
  ·
   rename_i n p hp
   have hwf := runP_wf _ _ _ _ _ _ hp (⟨hnum, fun _ h => by cases h⟩ : Wf ⟨x.1, []⟩)
   split
   ·
    exact fun _ h => by cases h
   ·
    split
    ·
     exact fun _ h => by cases h
    ·
     exact hwf.2
theorem ofP_wf (b : ByteArray) : ∀ n ∈ (ofP b).1.tree, wfN n := by
 rw [ofP_eq]
 unfold ofR
 split
 ·
  exact fun _ h => by cases h
 ·
  split
  ·
   exact fun _ h => by cases h
  ·
   split
   ·
    exact fun _ h => by cases h
   ·
    have h := formulaV_wf (l := ints (sub b 1 b.size)) (fin := ((sub b 1 b.size).size : Int))
    generalize formulaV (tokensV tokenR (ints (sub b 1 b.size))) ((sub b 1 b.size).size : Int) = r at h
    obtain ⟨t, a, e⟩ := r
    dsimp only at h ⊢
    split
    ·
     exact fun _ h => by cases h
    ·
     exact h
theorem encQ_cell {L : List En} {i : Nat} (h : i < L.length) : ((L.flatMap encQ).drop (0 + i * 4 + 0)).take 2 = encF L[i].at_ := by
 have he := congrArg (List.take 2) (flat_elem encQ_len L i h)
 rw [List.take_take] at he
 rw [Nat.zero_add]
 exact he
theorem encQ_all {L : List En} {i : Nat} (h : i < L.length) : ((L.flatMap encQ).drop (0 + i * 4)).take 4 = encQ L[i] := by
 rw [Nat.zero_add]; exact flat_elem encQ_len L i h
theorem usesE_len' (L : List Nd) : (usesE L).1.length ≤ L.length := by
 unfold usesE
 split
 ·
  exact Nat.zero_le _
 ·
  exact usesFrom_len L 0
set_option maxHeartbeats 4000000 in
theorem rSet_inF (g : Nat) (A : Option Nat) (cap : Nat) (L : List En) (G : Gr) (a : Rf) (b : ByteArray) (R F : List Blk) (w0 : World) (hR : RGOk R L G) (hs : SortG G) (hlen : L.length ≤ 1000) :
    FnIn Tryz.prog 28 [.pointer (some ⟨g, 0, none⟩), keyF a, .string b] w0 (rgB g A cap L ++ (R ++ F)) fun v H => v = .int .i64 (setG G a b).2 ∧ ∃ A' cap' L' R', H = rgB g A' cap' L' ++ (R' ++ F) ∧ MSub R R' ∧ RGOk R' L' (setG G a b).1 := by
  refine fn_in Tryz.func28 rfl Tryz.ntmps28 rfl ?_
  have hV := fun (w' : World) => (refValid_at a.col a.row w' : Pure Tryz.prog 76 [keyF a] w' (.bool (valid a.col a.row)))
  have hO := fun (w' : World) => refOf_at b w'
  unfold setG
  by_cases hv : a.valid = false
  · rw [if_pos hv]
    have hv' : valid a.col a.row = false := hv
    rw [hv'] at hV
    repeat' (first | ((with_reducible apply wl_callp); exact rfl; exact rfl; (intro w hm; exact hV w)) | refine sT ?_ | refine sS ?_ | refine sM fun _ => ?_ | (refine sC ?_ ?_ <;> intro hb <;> try omega) | fail)
    all_goals exact ret1 eIO rfl rfl (by unfold rgB; exact mS) ⟨rfl, A, cap, L, R, rfl, MSub.refl _, hR⟩
  rw [if_neg hv]
  have hv' : valid a.col a.row = true := by
    have : a.valid = valid a.col a.row := rfl
    rw [this] at hv
    simpa using hv
  rw [hv'] at hV
  have hlen2 := ofP_len b
  have htree := ofP_tree (b := b)
  have hwf := ofP_wf b
  generalize ofP b = r at hO hlen2 htree hwf
  obtain ⟨⟨fm, v, t⟩, at_, e⟩ := r
  simp only [ofV, encM] at hO
  dsimp only at hlen2 htree hwf ⊢
  by_cases he : e ≠ 0
  · rw [if_pos he]
    repeat' (first | ((with_reducible apply wl_callp); exact rfl; exact rfl; (intro w hm; exact hV w)) | ((with_reducible apply wl_call (f := 77)); exact rfl; exact rfl; (intro w' hm; exact hO w'); rintro _ _ ⟨A0, cap0, rfl, rfl⟩) | refine sT ?_ | refine sS ?_ | refine sM fun _ => ?_ | (refine sC ?_ ?_ <;> intro hb <;> try omega) | fail)
    all_goals exact ret1 eIO rfl rfl (by unfold rgB; exact mS) ⟨rfl, A, cap, L, R, rfl, MSub.refl _, hR⟩
  rw [if_neg he]
  have he0 : e = 0 := by omega
  subst he0
  have hU := fun (w' : World) (A : Option Nat) (cap : Nat) (H' : List Blk) (hi : In (.own A 136 11 t.length cap (t.flatMap encN)) H') (hm : Mem w0 w' H') => refUses_at t hwf (sl A t.length cap) w' (Reads.of_own hm hi)
  have hul : (usesE t).1.length ≤ 256 := Nat.le_trans (usesE_len' t) hlen2
  have hus : fm = true → usesF t = (usesE t).1 := fun h => by unfold usesE; rw [htree rfl h]; rfl
  obtain ⟨⟨us, ue⟩, hue⟩ : ∃ x, usesE t = x := ⟨_, rfl⟩
  rw [hue] at hU hul hus
  dsimp only at hU hul hus
  refine w_nilrow 132 4 ?_
  repeat' (first | ((with_reducible apply wl_callp); exact rfl; exact rfl; (intro w hm; exact hV w)) | ((with_reducible apply wl_call (f := 77)); exact rfl; exact rfl; (intro w' hm; exact hO w'); rintro _ _ ⟨A0, cap0, rfl, rfl⟩) | ((with_reducible apply wl_call (f := 78)); exact rfl; exact rfl; (intro w' hm; exact hU w' _ _ _ pK hm); rintro _ _ ⟨A2, cap2, rfl, rfl⟩) | refine sT ?_ | refine sS ?_ | refine sM fun _ => ?_ | (refine sC ?_ ?_ <;> intro hb <;> try omega) | fail)
  all_goals first | (exfalso; omega) | skip
  rename_i g4 g7
  obtain ⟨x, hxd⟩ : ∃ x : En, x = ⟨a, A0.map fun g => ⟨g, 0, none⟩, cap0, A2.map fun g => ⟨g, 0, none⟩, cap2, t, us, 0⟩ := ⟨_, rfl⟩
  have hxe : encQ x = [.int .i64 a.col, .int .i64 a.row, sl A0 t.length cap0, sl A2 us.length cap2] := by rw [hxd]; rfl
  obtain ⟨d0, hd0⟩ : ∃ d0, (!fm) = d0 := ⟨_, rfl⟩
  have hfin : (setQ a x d0 L).map En.abs = (if fm = false then (delG G a, (0 : Int)) else (insG G a (t, usesF t), 0)).1 := by
    rw [← hd0]
    cases fm with
    | false => rw [if_pos rfl, ← hR.rel]; exact setQ_del a x L
    | true =>
      rw [if_neg (by simp), hus rfl, ← hR.rel]
      have := setQ_ins (x := x) (a := a) (by rw [hxd]) (L := L) (by rw [hR.rel]; exact hs)
      rw [hxd] at this ⊢
      exact this
  have hfin2 : (if fm = false then (delG G a, (0 : Int)) else (insG G a (t, usesF t), 0)).2 = 0 := by cases fm <;> rfl
  have hRx : RGOk (.own A0 136 11 t.length cap0 (t.flatMap encN) :: .own A2 45 6 us.length cap2 (us.flatMap encU) :: R) (setQ a x d0 L) (if fm = false then (delG G a, (0 : Int)) else (insG G a (t, usesF t), 0)).1 := by
    refine ⟨fun f hf => ?_, hfin⟩
    rcases setQ_mem hf with rfl | hf
    · rw [hxd]
      exact ⟨rdIn.own (A := A0) pK, rdIn.own (A := A2) pK, by dsimp only; omega, by dsimp only; omega⟩
    · exact (hR.en f hf).sub mS
  refine w_loopK [0, 4, 7, 10] rfl (fun y : Nat × List En × Bool × Option Nat × Nat => [(12, sl y.2.2.2.1 y.2.1.length y.2.2.2.2), (13, .bool y.2.2.1), (14, .int .i64 (y.1 : Int))]) (fun y => .own y.2.2.2.1 132 4 y.2.1.length y.2.2.2.2 (y.2.1.flatMap encQ) :: .own A2 45 6 us.length cap2 (us.flatMap encU) :: .box g7 122 [.bool fm, .int .u8 v.kind, .int .i64 v.num, .string v.text, sl A0 t.length cap0] :: .own A0 136 11 t.length cap0 (t.flatMap encN) :: .box g4 38 (encF a) :: .box g 129 [sl A L.length cap] :: .own A 132 4 L.length cap (L.flatMap encQ) :: (R ++ F)) (fun y => y.1 ≤ L.length ∧ (L.take y.1).foldl (stepQ a x) ([], d0) = (y.2.1, y.2.2.1) ∧ y.2.1.length ≤ 2 * y.1) (fun y => L.length - y.1) (0, [], d0, none, 0) ⟨Nat.zero_le _, rfl, Nat.le_refl _⟩ (by subst hd0; exact sB) (by unfold rgB; simp only [List.append_eq, List.cons_append, List.nil_append]; exact mS) ?_
  clear hU hO
  rintro ⟨i, O, d, A3, c3⟩ ⟨hi, hf, hOl⟩
  dsimp only at hi hf hOl ⊢
  by_cases hlt : i < L.length
  · refine w_some (A := A) pK (by omega) fun gl hA => ?_
    subst hA
    have hnx : (L.take (i + 1)).foldl (stepQ a x) ([], d0) = stepQ a x (O, d) L[i] := by
      rw [List.take_succ_eq_append_getElem hlt, List.foldl_append, hf]; rfl
    have hc := encQ_cell hlt
    have ha := encQ_all hlt
    have hL := fun w' => refLess_at a L[i].at_ w'
    generalize L[i] = e at hc ha hL hnx
    obtain ⟨c1, hc1⟩ : ∃ c1, lessF a e.at_ = c1 := ⟨_, rfl⟩
    obtain ⟨c2, hc2⟩ : ∃ c2, decide (e.at_ ≠ a) = c2 := ⟨_, rfl⟩
    rw [hc1] at hL
    have hc2' : c2 = true ↔ e.at_ ≠ a := by rw [← hc2]; simp
    cases d with
    | false =>
      cases c1 with
      | true =>
        have hne : e.at_ ≠ a := (lessF_ne hc1).symm
        obtain rfl : c2 = true := hc2'.2 hne
        have hst : stepQ a x (O, false) e = (O ++ [x] ++ [e], true) := by simp [stepQ, hc1, hne]
        repeat' (first | ((with_reducible apply wq_v); exact rfl; (with_reducible apply v_indexAddr (j := i)); exact rfl; exact rfl; exact hlt) | ((with_reducible apply wl_v); exact rfl; (with_reducible apply v_indexAddr (j := i)); exact rfl; exact rfl; exact hlt) | ((with_reducible apply wq_v); exact rfl; (with_reducible apply v_loads_own (ys := encF e.at_)); exact rfl; exact pK; exact hc; exact rfl) | ((with_reducible apply wl_v); exact rfl; (with_reducible apply v_loads_own (ys := encQ e)); exact rfl; exact pK; exact ha; exact rfl) | ((with_reducible apply wq_v); exact rfl; (with_reducible apply v_neqF_to); exact hc2; exact rfl; exact rfl) | ((with_reducible apply wq_callp); exact rfl; exact rfl; (intro w hm; exact hL w)) | ((with_reducible apply wl_append1); (iterate 3 exact rfl); exact pK; exact pK; exact rfl; (simp [encQ, En.tv, En.uv, sl, Value.oneCell']); omega; (simp only [maxLen]; omega); intro g8 c8) | refine sT ?_ | refine sS ?_ | refine sQ ?_ | refine sN ?_ | refine sNQ ?_ | refine sD ?_ | refine sM fun _ => ?_ | (refine sC ?_ ?_ <;> intro hb <;> try omega) | (refine sCQ ?_ ?_ <;> intro hb <;> try omega) | fail)
        all_goals first
          | (exfalso; omega)
          | (refine ⟨(i + 1, O ++ [x] ++ [e], true, some g8, c8), ⟨hlt, (hnx.trans hst), (by (try simp only [List.length_append, List.length_singleton]); omega)⟩, (by dsimp only; omega), (by (try simp only [List.length_append, List.length_singleton]); exact sB), sB, ?_⟩
             simp only [List.length_append, List.length_singleton, List.flatMap_append, List.flatMap_cons, List.flatMap_nil, List.append_nil, List.append_eq, List.cons_append, List.nil_append, hxe]
             exact mS)
      | false =>
        by_cases hne : e.at_ ≠ a
        · obtain rfl : c2 = true := hc2'.2 hne
          have hst : stepQ a x (O, false) e = (O ++ [e], false) := by simp [stepQ, hc1, hne]
          repeat' (first | ((with_reducible apply wq_v); exact rfl; (with_reducible apply v_indexAddr (j := i)); exact rfl; exact rfl; exact hlt) | ((with_reducible apply wl_v); exact rfl; (with_reducible apply v_indexAddr (j := i)); exact rfl; exact rfl; exact hlt) | ((with_reducible apply wq_v); exact rfl; (with_reducible apply v_loads_own (ys := encF e.at_)); exact rfl; exact pK; exact hc; exact rfl) | ((with_reducible apply wl_v); exact rfl; (with_reducible apply v_loads_own (ys := encQ e)); exact rfl; exact pK; exact ha; exact rfl) | ((with_reducible apply wq_v); exact rfl; (with_reducible apply v_neqF_to); exact hc2; exact rfl; exact rfl) | ((with_reducible apply wq_callp); exact rfl; exact rfl; (intro w hm; exact hL w)) | ((with_reducible apply wl_append1); (iterate 3 exact rfl); exact pK; exact pK; exact rfl; (simp [encQ, En.tv, En.uv, sl, Value.oneCell']); omega; (simp only [maxLen]; omega); intro g8 c8) | refine sT ?_ | refine sS ?_ | refine sQ ?_ | refine sN ?_ | refine sNQ ?_ | refine sD ?_ | refine sM fun _ => ?_ | (refine sC ?_ ?_ <;> intro hb <;> try omega) | (refine sCQ ?_ ?_ <;> intro hb <;> try omega) | fail)
          all_goals first
            | (exfalso; omega)
            | (refine ⟨(i + 1, O ++ [e], false, some g8, c8), ⟨hlt, (hnx.trans hst), (by (try simp only [List.length_append, List.length_singleton]); omega)⟩, (by dsimp only; omega), (by (try simp only [List.length_append, List.length_singleton]); exact sB), sB, ?_⟩
               simp only [List.length_append, List.length_singleton, List.flatMap_append, List.flatMap_cons, List.flatMap_nil, List.append_nil, List.append_eq, List.cons_append, List.nil_append, hxe]
               exact mS)
        · obtain rfl : c2 = false := by cases c2 with | false => rfl | true => exact absurd (hc2'.1 rfl) hne
          have hst : stepQ a x (O, false) e = (O, false) := by
            have := Classical.not_not.1 hne
            simp [stepQ, this, lessF_irr]
          repeat' (first | ((with_reducible apply wq_v); exact rfl; (with_reducible apply v_indexAddr (j := i)); exact rfl; exact rfl; exact hlt) | ((with_reducible apply wl_v); exact rfl; (with_reducible apply v_indexAddr (j := i)); exact rfl; exact rfl; exact hlt) | ((with_reducible apply wq_v); exact rfl; (with_reducible apply v_loads_own (ys := encF e.at_)); exact rfl; exact pK; exact hc; exact rfl) | ((with_reducible apply wl_v); exact rfl; (with_reducible apply v_loads_own (ys := encQ e)); exact rfl; exact pK; exact ha; exact rfl) | ((with_reducible apply wq_v); exact rfl; (with_reducible apply v_neqF_to); exact hc2; exact rfl; exact rfl) | ((with_reducible apply wq_callp); exact rfl; exact rfl; (intro w hm; exact hL w)) | ((with_reducible apply wl_append1); (iterate 3 exact rfl); exact pK; exact pK; exact rfl; (simp [encQ, En.tv, En.uv, sl, Value.oneCell']); omega; (simp only [maxLen]; omega); intro g8 c8) | refine sT ?_ | refine sS ?_ | refine sQ ?_ | refine sN ?_ | refine sNQ ?_ | refine sD ?_ | refine sM fun _ => ?_ | (refine sC ?_ ?_ <;> intro hb <;> try omega) | (refine sCQ ?_ ?_ <;> intro hb <;> try omega) | fail)
          all_goals first
            | (exfalso; omega)
            | (refine ⟨(i + 1, O, false, A3, c3), ⟨hlt, (hnx.trans hst), (by (try simp only [List.length_append, List.length_singleton]); omega)⟩, (by dsimp only; omega), (by (try simp only [List.length_append, List.length_singleton]); exact sB), sB, ?_⟩
               simp only [List.length_append, List.length_singleton, List.flatMap_append, List.flatMap_cons, List.flatMap_nil, List.append_nil, List.append_eq, List.cons_append, List.nil_append, hxe]
               exact mS)
    | true =>
      by_cases hne : e.at_ ≠ a
      · obtain rfl : c2 = true := hc2'.2 hne
        have hst : stepQ a x (O, true) e = (O ++ [e], true) := by simp [stepQ, hne]
        repeat' (first | ((with_reducible apply wq_v); exact rfl; (with_reducible apply v_indexAddr (j := i)); exact rfl; exact rfl; exact hlt) | ((with_reducible apply wl_v); exact rfl; (with_reducible apply v_indexAddr (j := i)); exact rfl; exact rfl; exact hlt) | ((with_reducible apply wq_v); exact rfl; (with_reducible apply v_loads_own (ys := encF e.at_)); exact rfl; exact pK; exact hc; exact rfl) | ((with_reducible apply wl_v); exact rfl; (with_reducible apply v_loads_own (ys := encQ e)); exact rfl; exact pK; exact ha; exact rfl) | ((with_reducible apply wq_v); exact rfl; (with_reducible apply v_neqF_to); exact hc2; exact rfl; exact rfl) | ((with_reducible apply wq_callp); exact rfl; exact rfl; (intro w hm; exact hL w)) | ((with_reducible apply wl_append1); (iterate 3 exact rfl); exact pK; exact pK; exact rfl; (simp [encQ, En.tv, En.uv, sl, Value.oneCell']); omega; (simp only [maxLen]; omega); intro g8 c8) | refine sT ?_ | refine sS ?_ | refine sQ ?_ | refine sN ?_ | refine sNQ ?_ | refine sD ?_ | refine sM fun _ => ?_ | (refine sC ?_ ?_ <;> intro hb <;> try omega) | (refine sCQ ?_ ?_ <;> intro hb <;> try omega) | fail)
        all_goals first
          | (exfalso; omega)
          | (refine ⟨(i + 1, O ++ [e], true, some g8, c8), ⟨hlt, (hnx.trans hst), (by (try simp only [List.length_append, List.length_singleton]); omega)⟩, (by dsimp only; omega), (by (try simp only [List.length_append, List.length_singleton]); exact sB), sB, ?_⟩
             simp only [List.length_append, List.length_singleton, List.flatMap_append, List.flatMap_cons, List.flatMap_nil, List.append_nil, List.append_eq, List.cons_append, List.nil_append, hxe]
             exact mS)
      · obtain rfl : c2 = false := by cases c2 with | false => rfl | true => exact absurd (hc2'.1 rfl) hne
        have hst : stepQ a x (O, true) e = (O, true) := by
          have := Classical.not_not.1 hne
          simp [stepQ, this]
        repeat' (first | ((with_reducible apply wq_v); exact rfl; (with_reducible apply v_indexAddr (j := i)); exact rfl; exact rfl; exact hlt) | ((with_reducible apply wl_v); exact rfl; (with_reducible apply v_indexAddr (j := i)); exact rfl; exact rfl; exact hlt) | ((with_reducible apply wq_v); exact rfl; (with_reducible apply v_loads_own (ys := encF e.at_)); exact rfl; exact pK; exact hc; exact rfl) | ((with_reducible apply wl_v); exact rfl; (with_reducible apply v_loads_own (ys := encQ e)); exact rfl; exact pK; exact ha; exact rfl) | ((with_reducible apply wq_v); exact rfl; (with_reducible apply v_neqF_to); exact hc2; exact rfl; exact rfl) | ((with_reducible apply wq_callp); exact rfl; exact rfl; (intro w hm; exact hL w)) | ((with_reducible apply wl_append1); (iterate 3 exact rfl); exact pK; exact pK; exact rfl; (simp [encQ, En.tv, En.uv, sl, Value.oneCell']); omega; (simp only [maxLen]; omega); intro g8 c8) | refine sT ?_ | refine sS ?_ | refine sQ ?_ | refine sN ?_ | refine sNQ ?_ | refine sD ?_ | refine sM fun _ => ?_ | (refine sC ?_ ?_ <;> intro hb <;> try omega) | (refine sCQ ?_ ?_ <;> intro hb <;> try omega) | fail)
        all_goals first
          | (exfalso; omega)
          | (refine ⟨(i + 1, O, true, A3, c3), ⟨hlt, (hnx.trans hst), (by (try simp only [List.length_append, List.length_singleton]); omega)⟩, (by dsimp only; omega), (by (try simp only [List.length_append, List.length_singleton]); exact sB), sB, ?_⟩
             simp only [List.length_append, List.length_singleton, List.flatMap_append, List.flatMap_cons, List.flatMap_nil, List.append_nil, List.append_eq, List.cons_append, List.nil_append, hxe]
             exact mS)
  · have e2 : i = L.length := by omega
    subst e2
    rw [List.take_length] at hf
    have hset : setQ a x d0 L = endQ x (O, d) := by unfold setQ; rw [hf]
    rw [hset] at hRx
    cases d
    · repeat' (first | ((with_reducible apply wl_append1); (iterate 3 exact rfl); exact pK; exact pK; exact rfl; (simp [encQ, En.tv, En.uv, sl, Value.oneCell']); omega; (simp only [maxLen]; omega); intro g8 c8) | refine sT ?_ | refine sS ?_ | refine sN ?_ | refine sM fun _ => ?_ | (refine sC ?_ ?_ <;> intro hb <;> try omega) | fail)
      all_goals first
        | (exfalso; omega)
        | (refine ret1 eIO rfl rfl (H' := rgB g (some g8) c8 (O ++ [x]) ++ ((.own A0 136 11 t.length cap0 (t.flatMap encN) :: .own A2 45 6 us.length cap2 (us.flatMap encU) :: R) ++ F)) ?_ ⟨by rw [hfin2], some g8, c8, O ++ [x], _, rfl, mS, hRx⟩
           simp only [rgB, List.length_append, List.length_singleton, List.flatMap_append, List.flatMap_cons, List.flatMap_nil, List.append_nil, List.append_eq, List.cons_append, List.nil_append, hxe]
           exact mS)
    · repeat' (first | refine sT ?_ | refine sS ?_ | refine sN ?_ | refine sM fun _ => ?_ | (refine sC ?_ ?_ <;> intro hb <;> try omega) | fail)
      all_goals first
        | (exfalso; omega)
        | (refine ret1 eIO rfl rfl (H' := rgB g A3 c3 O ++ ((.own A0 136 11 t.length cap0 (t.flatMap encN) :: .own A2 45 6 us.length cap2 (us.flatMap encU) :: R) ++ F)) ?_ ⟨by rw [hfin2], A3, c3, O, _, rfl, mS, hRx⟩
           simp only [rgB, List.append_eq, List.cons_append, List.nil_append]
           exact mS)
theorem rSet_in (g : Nat) (A : Option Nat) (cap : Nat) (L : List En) (G : Gr) (a : Rf) (b : ByteArray) (R : List Blk) (w0 : World) (hR : RGOk R L G) (hs : SortG G) (hlen : L.length ≤ 1000) :
  FnIn Tryz.prog 28 [.pointer (some ⟨g, 0, none⟩), keyF a, .string b] w0 (rgB g A cap L ++ R) fun v H => v = .int .i64 (setG G a b).2 ∧ ∃ A' cap' L' R', H = rgB g A' cap' L' ++ R' ∧ MSub R R' ∧ RGOk R' L' (setG G a b).1 := by
 have h := rSet_inF g A cap L G a b R [] w0 hR hs hlen
 simp only [List.append_nil] at h
 exact h
theorem found_cases (L : List En) (a : Rf) : (idxQ L a = -1 ∧ findE L a = none) ∨ ∃ (i : Nat) (h : i < L.length), idxQ L a = (i : Int) ∧ findE L a = some L[i] := by
 unfold idxQ findE
 cases hf : L.findIdx? (fun e => decide (e.at_ = a)) with
 | none =>
  left
  refine ⟨rfl, ?_⟩
  rw [List.findIdx?_eq_none_iff] at hf
  rw [List.find?_eq_none]
  exact fun e he => by simpa using hf e he
 | some i =>
  right
  obtain ⟨h, h1, h2⟩ := List.findIdx?_eq_some_iff_getElem.1 hf
  exact ⟨i, h, rfl, List.find?_eq_some_iff_getElem.2 ⟨h1, i, h, rfl, fun j hj => by simpa using h2 j hj⟩⟩
theorem encQ_uses {L : List En} {i : Nat} {e : En} (h : ((L.flatMap encQ).drop (0 + i * 4)).take 4 = encQ e) : (L.flatMap encQ)[0 + i * 4 + 3]? = some e.uv := by
 have := congrArg (fun l => l[3]?) h
 rw [List.getElem?_take_of_lt (by decide), List.getElem?_drop] at this
 exact this
theorem encQ_tree {L : List En} {i : Nat} {e : En} (h : ((L.flatMap encQ).drop (0 + i * 4)).take 4 = encQ e) : (L.flatMap encQ)[0 + i * 4 + 2]? = some e.tv := by
 have := congrArg (fun l => l[2]?) h
 rw [List.getElem?_take_of_lt (by decide), List.getElem?_drop] at this
 exact this
set_option maxHeartbeats 2000000 in
theorem rUses_in (g : Nat) (A : Option Nat) (cap : Nat) (L : List En) (a : Rf) (R : List Blk) (w0 : World) (hE : ∀ e ∈ L, EnOk R e) (hlen : L.length ≤ 1000) :
  FnIn Tryz.prog 33 [.pointer (some ⟨g, 0, none⟩), keyF a] w0 (rgB g A cap L ++ R) fun v H => ∃ A' cap', v = sl A' (foundE L a).uses.length cap' ∧ H = .own A' 45 6 (foundE L a).uses.length cap' ((foundE L a).uses.flatMap encU) :: (rgB g A cap L ++ R) := by
 refine fn_in Tryz.func33 rfl Tryz.ntmps33 rfl ?_
 have hI := fun (H' : List Blk) (hs : MSub (rgB g A cap L) H') (w' : World) (hm : Mem w0 w' H') => rIndex_at g _ cap L a w' (RGm.of hs hm) (by omega)
 refine w_nilrow 45 6 ?_
 rcases found_cases L a with ⟨hidx, hf⟩ | ⟨i, hlt, hidx, hf⟩
 ·
  rw [hidx] at hI
  have hfd : (foundE L a).uses = [] := by rw [foundE, hf]; rfl
  rw [hfd]
  unfold rgB
  repeat' (first | ((with_reducible apply wl_callp (f := 81)); exact rfl; exact rfl; exact fun w' hm => hI _ (by unfold rgB; exact mS) w' hm) | refine sT ?_ | refine sS ?_ | refine sM fun _ => ?_ | (refine sC ?_ ?_ <;> intro hb <;> try omega) | fail)
  all_goals first
   | (exfalso; omega)
   | exact ret1 eIO rfl rfl (H' := .own none 45 6 0 0 [] :: (rgB g A cap L ++ R)) (by unfold rgB; simp only [List.append_eq, List.cons_append, List.nil_append]; exact mS) ⟨none, 0, rfl, rfl⟩
 ·
  have hfd : foundE L a = L[i] := by rw [foundE, hf]; rfl
  rw [hidx] at hI
  rw [hfd]
  have hoke := hE L[i] (List.getElem_mem hlt)
  have ha := encQ_all hlt
  generalize L[i] = e at hoke ha
  refine w_some (A := A) (by unfold rgB; exact pK) (by omega) fun gl hA => ?_
  subst hA
  unfold rgB
  repeat' (first | ((with_reducible apply wl_callp (f := 81)); exact rfl; exact rfl; exact fun w' hm => hI _ (by unfold rgB; exact mS) w' hm) | refine sT ?_ | refine sS ?_ | refine sM fun _ => ?_ | (refine sC ?_ ?_ <;> intro hb <;> try omega) | fail)
  all_goals first | (exfalso; omega) | skip
  rename_i g3
  refine w_nilrow 0 0 ?_
  refine w_nilrow 0 0 ?_
  refine w_drawXg (id := 3) (fun | 0 => some fun g => .slice (some ⟨g.2, 0, none⟩) 0 0 | 11 => some fun g => sl g.1 e.uses.length g.2 | _ => none)
   (fun (D : Done) (q : Nat → Gh) => (bif D 11 then Blk.own (q 11).1 45 6 e.uses.length (q 11).2 (e.uses.flatMap encU) else bif D 0 then .own (some (q 0).2) 45 6 0 0 [] else nilB) :: .box g3 38 (encF a) :: .box g 129 [sl (some gl) L.length cap] :: .own (some gl) 132 4 L.length cap (L.flatMap encQ) :: R) ?_ ?_ ?_ ?_
  ·
   kernel_rfl
  ·
   kernel_rfl
  ·
   intro γ
   exact mS
  intro γ
  refine wx_non rfl rfl rfl (fun D ht => ?_) ?_
  ·
   have n10 : D 0 = false := ht.not
   have n11 : D 11 = false := ht.late (j := 11) (f := 60) (by decide +kernel)
   (simp only [gat, put, upd, Nat.reduceEqDiff, Nat.reduceAdd, reduceIte, n10, n11, cond_true, cond_false, List.nil_append, List.cons_append, Bool.and_true, Bool.and_false, Bool.true_and, Bool.false_and])
   (with_reducible apply wl_buildSlice0); exact rfl; intro gs
   refine wl_nil ⟨rfl, (none, gs), rfl, ?_⟩
   (simp only [gat, put, upd, Nat.reduceEqDiff, Nat.reduceAdd, reduceIte, n10, n11, cond_true, cond_false, List.nil_append, List.cons_append, Bool.and_true, Bool.and_false, Bool.true_and, Bool.false_and])
   exact mS
  repeat' (first | ((with_reducible apply wx_callp (f := 81)); (iterate 3 exact rfl); (decide +kernel); exact rfl; (intro D ht w hm; exact hI _ (by unfold rgB; exact MSub.drop .hd (MSub.drop .hd mS)) w hm); exact fun _ => rfl) | ((with_reducible apply wx_v (d := 21)); (iterate 3 exact rfl); (intro D ht; (with_reducible apply v_indexAddr (j := i)); exact rfl; exact rfl; exact hlt); exact fun _ => rfl) | ((with_reducible apply wx_v (d := 23)); (iterate 3 exact rfl); (intro D ht; (with_reducible apply v_load_own); exact rfl; exact pK; exact encQ_uses ha); exact fun _ => rfl) | refine sT ?_ | refine sS ?_ | refine sX ?_ | refine sM fun _ => ?_ | (refine sC ?_ ?_ <;> intro hb <;> try omega) | (refine sCX ?_ ?_ <;> intro hb <;> try omega) | fail)
  refine wx_non rfl rfl rfl (fun D ht => ?_) ?_
  ·
   have n11 : D 11 = false := ht.not
   have n10 : D 0 = true := ht.early (i := 0) (f := 60) (by decide +kernel)
   (simp only [gat, put, upd, Nat.reduceEqDiff, Nat.reduceAdd, reduceIte, n10, n11, cond_true, cond_false, List.nil_append, List.cons_append, Bool.and_true, Bool.and_false, Bool.true_and, Bool.false_and])
   (with_reducible apply wl_appendR (n' := 0) (c := 0) (A := some (γ 0).2) (m := e.uses.length)); (iterate 3 exact rfl); exact pK; (intro w hm; exact hoke.uses _ w (MSub.use mS hm)); exact flat_length' encU_len _; exact encUs_one _; (have := hoke.ul; omega); (have := hoke.ul; simp only [maxLen]; omega); (intro A6 c6 h6)
   rw [Nat.zero_add, List.nil_append]
   refine wl_nil ⟨rfl, (A6, c6), rfl, ?_⟩
   (simp only [gat, put, upd, Nat.reduceEqDiff, Nat.reduceAdd, reduceIte, n10, n11, cond_true, cond_false, List.nil_append, List.cons_append, Bool.and_true, Bool.and_false, Bool.true_and, Bool.false_and])
   exact mS
  repeat' (first | refine sT ?_ | refine sS ?_ | refine sX ?_ | refine sM fun _ => ?_ | (refine sC ?_ ?_ <;> intro hb <;> try omega) | (refine sCX ?_ ?_ <;> intro hb <;> try omega) | fail)
  intro D hD
  have n10 := hD 0 (by decide)
  have n11 := hD 11 (by decide)
  (simp only [gat, put, upd, Nat.reduceEqDiff, Nat.reduceAdd, reduceIte, n10, n11, cond_true, cond_false, List.nil_append, List.cons_append, Bool.and_true, Bool.and_false, Bool.true_and, Bool.false_and])
  repeat' (first | refine sT ?_ | refine sS ?_ | refine sM fun _ => ?_ | (refine sC ?_ ?_ <;> intro hb <;> try omega) | fail)
  all_goals exact ret1 eIO rfl rfl (H' := .own (γ 11).1 45 6 e.uses.length (γ 11).2 (e.uses.flatMap encU) :: (rgB g (some gl) cap L ++ R)) (by unfold rgB; simp only [List.append_eq, List.cons_append, List.nil_append]; exact mS) ⟨(γ 11).1, (γ 11).2, rfl, rfl⟩
set_option maxHeartbeats 2000000 in
theorem rTree_in (g : Nat) (A : Option Nat) (cap : Nat) (L : List En) (a : Rf) (R : List Blk) (w0 : World) (hE : ∀ e ∈ L, EnOk R e) (hlen : L.length ≤ 1000) :
  FnIn Tryz.prog 30 [.pointer (some ⟨g, 0, none⟩), keyF a] w0 (rgB g A cap L ++ R) fun v H => ∃ A' cap', v = .tuple #[sl A' (foundE L a).tree.length cap', .bool (findE L a).isSome] ∧ H = .own A' 136 11 (foundE L a).tree.length cap' ((foundE L a).tree.flatMap encN) :: (rgB g A cap L ++ R) := by
 refine fn_in Tryz.func30 rfl Tryz.ntmps30 rfl ?_
 have hI := fun (H' : List Blk) (hs : MSub (rgB g A cap L) H') (w' : World) (hm : Mem w0 w' H') => rIndex_at g _ cap L a w' (RGm.of hs hm) (by omega)
 refine w_nilrow 136 11 ?_
 rcases found_cases L a with ⟨hidx, hf⟩ | ⟨i, hlt, hidx, hf⟩
 ·
  rw [hidx] at hI
  have hfd : (foundE L a).tree = [] := by rw [foundE, hf]; rfl
  rw [hfd, hf]
  unfold rgB
  repeat' (first | ((with_reducible apply wl_callp (f := 81)); exact rfl; exact rfl; exact fun w' hm => hI _ (by unfold rgB; exact mS) w' hm) | refine sT ?_ | refine sS ?_ | refine sM fun _ => ?_ | (refine sC ?_ ?_ <;> intro hb <;> try omega) | fail)
  all_goals first
   | (exfalso; omega)
   | exact ret2 eIO rfl rfl rfl (H' := .own none 136 11 0 0 [] :: (rgB g A cap L ++ R)) (by unfold rgB; simp only [List.append_eq, List.cons_append, List.nil_append]; exact mS) ⟨none, 0, rfl, rfl⟩
 ·
  have hfd : foundE L a = L[i] := by rw [foundE, hf]; rfl
  rw [hidx] at hI
  rw [hfd, hf]
  have hoke := hE L[i] (List.getElem_mem hlt)
  have ha := encQ_all hlt
  generalize L[i] = e at hoke ha
  refine w_some (A := A) (by unfold rgB; exact pK) (by omega) fun gl hA => ?_
  subst hA
  unfold rgB
  repeat' (first | ((with_reducible apply wl_callp (f := 81)); exact rfl; exact rfl; exact fun w' hm => hI _ (by unfold rgB; exact mS) w' hm) | refine sT ?_ | refine sS ?_ | refine sM fun _ => ?_ | (refine sC ?_ ?_ <;> intro hb <;> try omega) | fail)
  all_goals first | (exfalso; omega) | skip
  rename_i g3
  refine w_nilrow 0 0 ?_
  refine w_nilrow 0 0 ?_
  refine w_drawXg (id := 3) (fun | 0 => some fun g => .slice (some ⟨g.2, 0, none⟩) 0 0 | 11 => some fun g => sl g.1 e.tree.length g.2 | _ => none)
   (fun (D : Done) (q : Nat → Gh) => (bif D 11 then Blk.own (q 11).1 136 11 e.tree.length (q 11).2 (e.tree.flatMap encN) else bif D 0 then .own (some (q 0).2) 136 11 0 0 [] else nilB) :: .box g3 38 (encF a) :: .box g 129 [sl (some gl) L.length cap] :: .own (some gl) 132 4 L.length cap (L.flatMap encQ) :: R) ?_ ?_ ?_ ?_
  ·
   kernel_rfl
  ·
   kernel_rfl
  ·
   intro γ
   exact mS
  intro γ
  refine wx_non rfl rfl rfl (fun D ht => ?_) ?_
  ·
   have n10 : D 0 = false := ht.not
   have n11 : D 11 = false := ht.late (j := 11) (f := 60) (by decide +kernel)
   (simp only [gat, put, upd, Nat.reduceEqDiff, Nat.reduceAdd, reduceIte, n10, n11, cond_true, cond_false, List.nil_append, List.cons_append, Bool.and_true, Bool.and_false, Bool.true_and, Bool.false_and])
   (with_reducible apply wl_buildSlice0); exact rfl; intro gs
   refine wl_nil ⟨rfl, (none, gs), rfl, ?_⟩
   (simp only [gat, put, upd, Nat.reduceEqDiff, Nat.reduceAdd, reduceIte, n10, n11, cond_true, cond_false, List.nil_append, List.cons_append, Bool.and_true, Bool.and_false, Bool.true_and, Bool.false_and])
   exact mS
  repeat' (first | ((with_reducible apply wx_callp (f := 81)); (iterate 3 exact rfl); (decide +kernel); exact rfl; (intro D ht w hm; exact hI _ (by unfold rgB; exact MSub.drop .hd (MSub.drop .hd mS)) w hm); exact fun _ => rfl) | ((with_reducible apply wx_v (d := 22)); (iterate 3 exact rfl); (intro D ht; (with_reducible apply v_indexAddr (j := i)); exact rfl; exact rfl; exact hlt); exact fun _ => rfl) | ((with_reducible apply wx_v (d := 24)); (iterate 3 exact rfl); (intro D ht; (with_reducible apply v_load_own); exact rfl; exact pK; exact encQ_tree ha); exact fun _ => rfl) | refine sT ?_ | refine sS ?_ | refine sX ?_ | refine sM fun _ => ?_ | (refine sC ?_ ?_ <;> intro hb <;> try omega) | (refine sCX ?_ ?_ <;> intro hb <;> try omega) | fail)
  refine wx_non rfl rfl rfl (fun D ht => ?_) ?_
  ·
   have n11 : D 11 = false := ht.not
   have n10 : D 0 = true := ht.early (i := 0) (f := 60) (by decide +kernel)
   (simp only [gat, put, upd, Nat.reduceEqDiff, Nat.reduceAdd, reduceIte, n10, n11, cond_true, cond_false, List.nil_append, List.cons_append, Bool.and_true, Bool.and_false, Bool.true_and, Bool.false_and])
   (with_reducible apply wl_appendR (n' := 0) (c := 0) (A := some (γ 0).2) (m := e.tree.length)); (iterate 3 exact rfl); exact pK; (intro w hm; exact hoke.tree _ w (MSub.use mS hm)); exact flat_length' encN_len _; exact encNs_one _; (have := hoke.tl; omega); (have := hoke.tl; simp only [maxLen]; omega); (intro A6 c6 h6)
   rw [Nat.zero_add, List.nil_append]
   refine wl_nil ⟨rfl, (A6, c6), rfl, ?_⟩
   (simp only [gat, put, upd, Nat.reduceEqDiff, Nat.reduceAdd, reduceIte, n10, n11, cond_true, cond_false, List.nil_append, List.cons_append, Bool.and_true, Bool.and_false, Bool.true_and, Bool.false_and])
   exact mS
  repeat' (first | refine sT ?_ | refine sS ?_ | refine sX ?_ | refine sM fun _ => ?_ | (refine sC ?_ ?_ <;> intro hb <;> try omega) | (refine sCX ?_ ?_ <;> intro hb <;> try omega) | fail)
  intro D hD
  have n10 := hD 0 (by decide)
  have n11 := hD 11 (by decide)
  (simp only [gat, put, upd, Nat.reduceEqDiff, Nat.reduceAdd, reduceIte, n10, n11, cond_true, cond_false, List.nil_append, List.cons_append, Bool.and_true, Bool.and_false, Bool.true_and, Bool.false_and])
  repeat' (first | refine sT ?_ | refine sS ?_ | refine sM fun _ => ?_ | (refine sC ?_ ?_ <;> intro hb <;> try omega) | fail)
  all_goals exact ret2 eIO rfl rfl rfl (H' := .own (γ 11).1 136 11 e.tree.length (γ 11).2 (e.tree.flatMap encN) :: (rgB g (some gl) cap L ++ R)) (by unfold rgB; simp only [List.append_eq, List.cons_append, List.nil_append]; exact mS) ⟨(γ 11).1, (γ 11).2, rfl, rfl⟩
end Go.SL
