/-
  Lemmas and walks, put together: D5 D6 D7 Gq D8.
-/
import Derived.Test.YtpohljcebgacjaaGreatDoorKe19
set_option linter.unusedSimpArgs false
set_option linter.unusedVariables false
set_option maxRecDepth 20000
namespace Go.SL
open Go Go.Proofs
attribute [local irreducible] W WL WQ WG WA WX WLI WR WT WC VOp RW thn blk cutP scp retP retPP endB FnAt FnIn FnP ceP
theorem w_drawC0 {P : Program} {n : Fr} {w0 : World} {Q : Post} {s : Slots} {H : List Blk} {l : List Oper} {id : Nat} (es ps : List Nat) (hm : P.follows .mixedOrders = true) (hB : Region.lexB .any l.toArray = true) (hch : chainB l es ps = true)
  (h : WC P n w0 l H es ps Q l 0 s H) : W P n w0 (.region id l.toArray true) Q s H := w_drawC es ps H hm hB hch (MSub.refl H) h
theorem encUs_one (L : List Us) : ∀ u ∈ L.flatMap encU, u.oneCell' = true := by
 intro u hu
 obtain ⟨n, _, h⟩ := List.mem_flatMap.1 hu
 simp only [encU, List.mem_cons, List.not_mem_nil, or_false] at h
 rcases h with rfl | rfl | rfl | rfl | rfl | rfl <;> rfl
theorem CloneU_at (L : List Us) (tv : Value) (w : World) (ht : Reads w tv L.length (L.flatMap encU)) (hlen : L.length ≤ 1000000) :
  FnAt Tryz.prog 69 [tv] w fun v H => ∃ A cap, v = sl A L.length cap ∧ H = [.own A 45 6 L.length cap (L.flatMap encU)] := by
 have ht' := ht
 obtain ⟨At, ct, rfl, ht1, ht2, ht3⟩ := ht
 refine fn_at Tryz.func69 rfl Tryz.ntmps69 rfl ?_
 have hl : (L.flatMap encU).length = L.length * 6 := flat_length' encU_len L
 refine w_nilrow 45 6 ?_
 repeat' (first | ((with_reducible apply wl_v); exact rfl; (with_reducible apply v_eqlnil); exact rfl) | ((with_reducible apply wl_buildSlice0); exact rfl; intro gb) | ((with_reducible apply wl_appendR (n' := 0) (c := 0) (A := some _) (m := L.length)); (iterate 3 exact rfl); exact pK; (intro w hm; exact ht'.of_w0 hm); exact hl; exact encUs_one L; omega; (simp only [maxLen]; omega); intro A' cap' hA) | refine sT ?_ | refine sM fun _ => ?_ | (refine sC ?_ ?_ <;> intro hb <;> try omega) | fail)
 ·
  have e : L.length = 0 := by
   rcases Nat.eq_zero_or_pos L.length with h | h
   ·
    exact h
   ·
    obtain ⟨g, o, rfl, _⟩ := ht3 h
    cases hb
  have e' : L = [] := List.eq_nil_of_length_eq_zero e
  subst e'
  exact ret1 (.inl rfl) Tryz.results69 rfl (.refl _) ⟨none, 0, rfl, rfl⟩
 ·
  exact ret1 (.inl rfl) Tryz.results69 rfl (H' := [.own A' 45 6 (0 + L.length) cap' ([] ++ L.flatMap encU)]) mS ⟨A', cap', by rw [Nat.zero_add], by rw [Nat.zero_add]; rfl⟩
structure En where
 at_ : Rf
 ta : Option Addr
 tc : Nat
 ua : Option Addr
 uc : Nat
 tree : List Nd
 uses : List Us
 born : Nat
def En.tv (e : En) : Value := .slice e.ta e.tree.length e.tc
def En.uv (e : En) : Value := .slice e.ua e.uses.length e.uc
def En.m (e : En) : Rf × Value × Nat := (e.at_, .agg #[e.tv, e.uv], e.born)
abbrev zeroFm : Value := .agg [Value.slice none 0 0, .slice none 0 0].toArray
def rdIn (R : List Blk) (v : Value) (m : Nat) (xs : List Value) : Prop := ∀ w0 w, Mem w0 w R → Reads w v m xs
theorem rdIn.sub {R R' : List Blk} {v : Value} {m : Nat} {xs : List Value} (h : rdIn R v m xs) (hs : MSub R R') : rdIn R' v m xs := fun w0 w hm => h w0 w (hs.use hm)
theorem rdIn.nil (R : List Blk) : rdIn R (.slice none 0 0) 0 [] := fun _ _ _ => ⟨none, 0, rfl, Nat.le_refl _, Nat.zero_le _, fun h => by cases h⟩
theorem rdIn.own {R : List Blk} {A : Option Nat} {t sz m c : Nat} {xs : List Value} (hi : In (.own A t sz m c xs) R) : rdIn R (sl A m c) m xs := fun _ _ hm => Reads.of_own hm hi
structure EnOk (R : List Blk) (e : En) : Prop where
 tree : rdIn R e.tv e.tree.length (e.tree.flatMap encN)
 uses : rdIn R e.uv e.uses.length (e.uses.flatMap encU)
 tl : e.tree.length ≤ 1000000
 ul : e.uses.length ≤ 1000000
theorem EnOk.sub {R R' : List Blk} {e : En} (h : EnOk R e) (hs : MSub R R') : EnOk R' e := ⟨h.tree.sub hs, h.uses.sub hs, h.tl, h.ul⟩
def zeroEn (a : Rf) : En := ⟨a, none, 0, none, 0, [], [], 0⟩
theorem zeroEn_ok (R : List Blk) (a : Rf) : EnOk R (zeroEn a) := ⟨rdIn.nil _, rdIn.nil _, by simp [zeroEn], by simp [zeroEn]⟩
def findE (E : List En) (a : Rf) : Option En := E.find? fun e => decide (e.at_ = a)
def foundE (E : List En) (a : Rf) : En := (findE E a).getD (zeroEn a)
theorem findE_mem {E : List En} {a : Rf} {e : En} (h : findE E a = some e) : e ∈ E := List.mem_of_find?_eq_some h
theorem foundE_ok {R : List Blk} {E : List En} (h : ∀ e ∈ E, EnOk R e) (a : Rf) : EnOk R (foundE E a) := by
 unfold foundE
 cases hf : findE E a with
 | none => exact zeroEn_ok _ _
 | some e => exact h e (findE_mem hf)
theorem kfind_E (E : List En) (a : Rf) : ∀ i : Nat, (kfind a (E.map En.m) i).map (fun x => x.2) = (findE E a).map fun e => e.m.2.1 := by
 induction E with
 | nil => intro i; rfl
 | cons e r ih =>
  intro i
  simp only [List.map_cons, kfind, findE, List.find?_cons]
  by_cases h : a = e.at_
  ·
   simp [En.m, h]
  ·
   have h' : ¬ e.at_ = a := fun x => h x.symm
   simp only [En.m, h, if_false, h', decide_false]
   exact ih (i + 1)
theorem look_E (E : List En) (a : Rf) : (match kfind a (E.map En.m) 0 with | some (_, v) => v | none => zeroFm) = .agg #[(foundE E a).tv, (foundE E a).uv] := by
 have h := kfind_E E a 0
 unfold foundE
 cases hk : kfind a (E.map En.m) 0 with
 | none => rw [hk] at h; cases hf : findE E a with
  | none => rfl
  | some e => rw [hf] at h; cases h
 | some x => rw [hk] at h; cases hf : findE E a with
  | none => rw [hf] at h; cases h
  | some e => rw [hf] at h; exact Option.some.inj h
theorem lookOk_E (E : List En) (a : Rf) : (match kfind a (E.map En.m) 0 with | some (_, v) => Value.tuple #[v, .bool true] | none => .tuple #[zeroFm, .bool false]) = .tuple #[.agg #[(foundE E a).tv, (foundE E a).uv], .bool (findE E a).isSome] := by
 have h := kfind_E E a 0
 unfold foundE
 cases hk : kfind a (E.map En.m) 0 with
 | none => rw [hk] at h; cases hf : findE E a with
  | none => rfl
  | some e => rw [hf] at h; cases h
 | some x => rw [hk] at h; cases hf : findE E a with
  | none => rw [hf] at h; cases h
  | some e =>
   rw [hf] at h
   have h1 : x.2 = e.m.2.1 := Option.some.inj h
   simp only [Option.map_some, Option.isSome_some, Option.getD_some]
   rw [h1]; rfl
instance klaw_key : KLaw Tryz.prog 38 keyF := klaw_F
instance : FldT Tryz.prog 114 1 40 1 := ⟨_, _, Tryz.underlying114, rfl, rfl, rfl⟩
set_option maxHeartbeats 1000000 in
theorem Uses_in (gg gm clock : Nat) (E : List En) (a : Rf) (R : List Blk) (w0 : World) (hE : ∀ e ∈ E, EnOk R e) :
  FnIn Tryz.prog 21 [.pointer (some ⟨gg, 0, none⟩), keyF a] w0 (gB gg gm (E.map En.m) clock ++ R) fun v H => ∃ A cap, v = sl A (foundE E a).uses.length cap ∧ H = .own A 45 6 (foundE E a).uses.length cap ((foundE E a).uses.flatMap encU) :: (gB gg gm (E.map En.m) clock ++ R) := by
 refine fn_in Tryz.func21 rfl Tryz.ntmps21 rfl ?_
 have hl := look_E E a
 have hok := foundE_ok hE a
 generalize foundE E a = e at hl hok
 have hcl := fun (w' : World) (H' : List Blk) (hs : MSub R H') (hm : Mem w0 w' H') => CloneU_at e.uses e.uv w' (hok.uses _ w' (hs.use hm)) hok.ul
 unfold gB
 repeat' (first | ((with_reducible apply wl_v); exact rfl; (with_reducible apply v_nilCheck); exact rfl) | ((with_reducible apply w_drawC0 (id := 3) [7] []); kernel_rfl; kernel_rfl; kernel_rfl) | ((with_reducible apply wc_v); (iterate 3 exact rfl); (with_reducible apply v_lookup (enc := keyF) (z := zeroFm)); exact rfl; exact rfl; exact pK; exact hl) | ((with_reducible apply wc_v); (iterate 3 exact rfl); (with_reducible apply v_field); exact rfl; exact rfl) | ((with_reducible apply wl_call (f := 69)); exact rfl; exact rfl; (intro w' hm; exact hcl w' _ mS hm); rintro _ _ ⟨A, cap, rfl, rfl⟩) | refine sT ?_ | refine sS ?_ | refine sW ?_ | refine sM fun _ => ?_ | (refine sC ?_ ?_ <;> intro hb <;> try omega) | (refine sCW ?_ ?_ <;> intro hb <;> try omega) | fail)
 all_goals exact ret1 eIO rfl rfl mS ⟨A, cap, rfl, rfl⟩
set_option maxHeartbeats 1000000 in
theorem Tree_in (gg gm clock : Nat) (E : List En) (a : Rf) (R : List Blk) (w0 : World) (hE : ∀ e ∈ E, EnOk R e) :
  FnIn Tryz.prog 29 [.pointer (some ⟨gg, 0, none⟩), keyF a] w0 (gB gg gm (E.map En.m) clock ++ R) fun v H => ∃ A cap, v = .tuple #[sl A (foundE E a).tree.length cap, .bool (findE E a).isSome] ∧ H = .own A 136 11 (foundE E a).tree.length cap ((foundE E a).tree.flatMap encN) :: (gB gg gm (E.map En.m) clock ++ R) := by
 refine fn_in Tryz.func29 rfl Tryz.ntmps29 rfl ?_
 have hl := lookOk_E E a
 have hok := foundE_ok hE a
 generalize foundE E a = e at hl hok
 have hcl := fun (w' : World) (H' : List Blk) (hs : MSub R H') (hm : Mem w0 w' H') => Clone_at e.tree e.tv w' (hok.tree _ w' (hs.use hm)) hok.tl
 unfold gB
 repeat' (first | ((with_reducible apply wl_v); exact rfl; (with_reducible apply v_nilCheck); exact rfl) | ((with_reducible apply w_drawC0 (id := 3) [9, 10] []); kernel_rfl; kernel_rfl; kernel_rfl) | ((with_reducible apply wc_v); (iterate 3 exact rfl); (with_reducible apply v_lookupOk (enc := keyF) (z := zeroFm)); exact rfl; exact rfl; exact pK; exact hl) | ((with_reducible apply wl_call (f := 80)); exact rfl; exact rfl; (intro w' hm; exact hcl w' _ mS hm); rintro _ _ ⟨A, cap, rfl, rfl⟩) | refine sT ?_ | refine sS ?_ | refine sW ?_ | refine sM fun _ => ?_ | (refine sC ?_ ?_ <;> intro hb <;> try omega) | (refine sCW ?_ ?_ <;> intro hb <;> try omega) | fail)
 all_goals exact ret2 eIO rfl rfl rfl mS ⟨A, cap, rfl, rfl⟩
theorem edge1_at (u : Us) (b : Rf) (g : Nat) (w : World) (hr : Ro w g 0 (encF b)) : Pure Tryz.prog 72 [.agg (encU u).toArray, .pointer (some ⟨g, 0, none⟩)] w (.bool (hasR u.rect b)) := by
 refine fn_at Tryz.func72 rfl Tryz.ntmps72 rfl ?_
 have hh := fun w => Has_at u.rect b w
 repeat' (first | ((with_reducible apply wl_v); exact rfl; (with_reducible apply v_loadw_ro (o := 0)); exact rfl; exact hr; exact rfl) | ((with_reducible apply wl_callp); exact rfl; exact rfl; (intro w hm; exact hh w)) | refine sT ?_ | refine sM fun _ => ?_ | (refine sC ?_ ?_ <;> intro hb <;> try omega) | fail)
 all_goals exact ret1 eIO rfl rfl (.nil _) rfl
def idxU (q : Us → Bool) (L : List Us) : Int := match L.findIdx? q with | some i => (i : Int) | none => -1
set_option maxHeartbeats 1000000 in
theorem IndexU_at (f : FuncId) [Callable Tryz.prog f] (caps : List Value) (q : Us → Bool) (L : List Us) (hlen : L.length ≤ 1000000) (tv : Value) (w : World) (ht : Reads w tv L.length (L.flatMap encU))
  (hf : ∀ u w' H, Mem w w' H → Pure Tryz.prog f ([.agg (encU u).toArray] ++ caps) w' (.bool (q u))) :
  Pure Tryz.prog 114 [tv, .func (.func f) #[] caps.toArray] w (.int .i64 (idxU q L)) := by
 obtain ⟨Al, cl, rfl, hl1, hl2, hl3⟩ := ht
 refine fn_at Tryz.func114 rfl Tryz.ntmps114 rfl ?_
 repeat' (first | refine sT ?_ | refine sM fun _ => ?_ | (refine sC ?_ ?_ <;> intro hb <;> try omega) | fail)
 refine w_loop (fun i : Nat => [(0, .slice Al L.length cl), (1, .func (.func f) #[] caps.toArray), (7, .int .i64 (L.length : Int)), (8, .int .i64 (i : Int))]) (fun _ => []) (fun i => i ≤ L.length ∧ ∀ j (h : j < L.length), j < i → q L[j] = false) (fun i => L.length - i) 0 ⟨by omega, fun j _ h => by omega⟩ sB (.refl _) ?_
 rintro i ⟨hi, hno⟩
 by_cases hlt : i < L.length
 ·
  obtain ⟨gl, ol, rfl, hrl⟩ := hl3 (by omega)
  have he := hrl.elem encU_len i hlt
  have hq := fun w' H => hf L[i] w' H
  have hnext : q L[i] = false → ∀ j (h : j < L.length), j < i + 1 → q L[j] = false := fun h0 j h hj => by
   by_cases e : j = i
   ·
    subst e; exact h0
   ·
    exact hno j h (by omega)
  have hres : q L[i] = true → idxU q L = (i : Int) := fun h0 => by
   unfold idxU
   rw [List.findIdx?_eq_some_iff_getElem.2 ⟨hlt, h0, fun j hj => by rw [hno j (by omega) hj]; simp⟩]
  generalize L[i] = u at he hq hnext hres
  generalize q u = b at hq hnext hres
  repeat' (first | ((with_reducible apply wl_callvp); exact rfl; exact rfl; infer_instance; exact rfl; (intro w' hm; exact hq w' _ hm)) | refine sT ?_ | refine sN ?_ | refine sO ?_ | refine sM fun _ => ?_ | (refine sC ?_ ?_ <;> intro hb <;> try omega) | fail)
  all_goals first
   | (refine ret1 eIO rfl rfl (.nil _) ?_; rw [hres (by assumption)]; done)
   | (refine ⟨i + 1, ⟨hlt, hnext (by assumption)⟩, by omega, ?_, .nil _⟩; exact sB; done)
 ·
  have e : i = L.length := by omega
  subst e
  have hres : idxU q L = -1 := by
   unfold idxU
   rw [List.findIdx?_eq_none_iff.2 fun x hx => by
    obtain ⟨j, hj, rfl⟩ := List.getElem_of_mem hx
    exact hno j hj hj]
  repeat' (first | refine sT ?_ | refine sM fun _ => ?_ | (refine sC ?_ ?_ <;> intro hb <;> try omega) | fail)
  all_goals (refine ret1 eIO rfl rfl (.nil _) ?_; rw [hres])
theorem ContainsU_at (f : FuncId) [Callable Tryz.prog f] (caps : List Value) (q : Us → Bool) (L : List Us) (hlen : L.length ≤ 1000000) (tv : Value) (w : World) (ht : Reads w tv L.length (L.flatMap encU))
  (hf : ∀ u w' H, Mem w w' H → Pure Tryz.prog f ([.agg (encU u).toArray] ++ caps) w' (.bool (q u))) :
  Pure Tryz.prog 71 [tv, .func (.func f) #[] caps.toArray] w (.bool (L.any q)) := by
 refine fn_at Tryz.func71 rfl Tryz.ntmps71 rfl ?_
 have hI := fun (w' : World) (H : List Blk) (hm : Mem w w' H) => IndexU_at f caps q L hlen tv w' (ht.of_w0 hm) (fun u w2 H2 hm2 => hf u w2 _ (hm.call hm2))
 have hres : decide (0 ≤ idxU q L) = L.any q := by
  unfold idxU
  cases h : L.findIdx? q with
  | none =>
   rw [List.findIdx?_eq_none_iff] at h
   have : L.any q = false := by rw [List.any_eq_false]; exact fun x hx => by rw [h x hx]; simp
   rw [this]; rfl
  | some i =>
   obtain ⟨h1, h2, _⟩ := List.findIdx?_eq_some_iff_getElem.1 h
   have : L.any q = true := List.any_eq_true.2 ⟨_, List.getElem_mem h1, h2⟩
   rw [this]; simp
 repeat' (first | ((with_reducible apply wl_callp (f := 114)); exact rfl; exact rfl; (intro w' hm; exact hI w' _ hm)) | refine sT ?_ | refine sM fun _ => ?_ | (refine sC ?_ ?_ <;> intro hb <;> try omega) | fail)
 all_goals (refine ret1 eIO rfl rfl (.nil _) ?_; rw [hres])
def encFF (p : Rf × Rf) : List Value := [.int .i64 p.1.col, .int .i64 p.1.row, .int .i64 p.2.col, .int .i64 p.2.row]
theorem encFF_len (p : Rf × Rf) : (encFF p).length = 4 := rfl
def rowP (q : Rf → Rf → Bool) (F : List Rf) (a : Rf) : List (Rf × Rf) := (F.filter (q a)).map fun b => (a, b)
def edgesP (q : Rf → Rf → Bool) (F G : List Rf) : List (Rf × Rf) := G.flatMap (rowP q F)
theorem rowP_take {q : Rf → Rf → Bool} {F : List Rf} {a : Rf} {k : Nat} (h : k < F.length) : rowP q (F.take (k + 1)) a = if q a F[k] then rowP q (F.take k) a ++ [(a, F[k])] else rowP q (F.take k) a := by
 rw [List.take_succ_eq_append_getElem h]
 simp only [rowP, List.filter_append, List.map_append, List.filter_cons, List.filter_nil]
 split <;> simp
theorem edgesP_take {q : Rf → Rf → Bool} {F G : List Rf} {i : Nat} (h : i < G.length) : edgesP q F (G.take (i + 1)) = edgesP q F (G.take i) ++ rowP q F G[i] := by
 rw [List.take_succ_eq_append_getElem h]
 simp only [edgesP, List.flatMap_append, List.flatMap_cons, List.flatMap_nil, List.append_nil]
theorem rowP_len (q : Rf → Rf → Bool) (F : List Rf) (a : Rf) : (rowP q F a).length ≤ F.length := by
 simp only [rowP, List.length_map]
 exact List.length_filter_le _ _
theorem edgesP_len (q : Rf → Rf → Bool) (F : List Rf) : ∀ G : List Rf, (edgesP q F G).length ≤ G.length * F.length
 | [] => Nat.zero_le _
 | a :: r => by
  have h1 := rowP_len q F a
  have h2 := edgesP_len q F r
  have : edgesP q F (a :: r) = rowP q F a ++ edgesP q F r := rfl
  rw [this, List.length_append, List.length_cons, Nat.add_mul, Nat.one_mul]
  omega
def edgesE (E : List En) : List (Rf × Rf) := edgesP (fun a b => hasU (foundE E a).uses b) (formsF (E.map En.m)) (formsF (E.map En.m))
theorem formsF_len (es : List (Rf × Value × Nat)) : (formsF es).length = es.length := by
 have := (List.mergeSort_perm (es.map fun e => e.1) (fun x y => !(lessF y x))).length_eq
 simp [formsF, sortRf]
set_option maxHeartbeats 2000000 in
theorem Edges_in (gg gm clock : Nat) (E : List En) (hok : MapOk (E.map En.m) clock) (hlen : E.length ≤ 1000) (R : List Blk) (w0 : World) (hE : ∀ e ∈ E, EnOk R e) :
  FnIn Tryz.prog 23 [.pointer (some ⟨gg, 0, none⟩)] w0 (gB gg gm (E.map En.m) clock ++ R) fun v H => ∃ A cap, v = sl A (edgesE E).length cap ∧ H = .own A 70 4 (edgesE E).length cap ((edgesE E).flatMap encFF) :: (gB gg gm (E.map En.m) clock ++ R) := by
 refine fn_in Tryz.func23 rfl Tryz.ntmps23 rfl ?_
 have hF := fun R => Formulas_in gg gm clock (E.map En.m) hok (by simp; omega) R w0
 have hfl : (formsF (E.map En.m)).length ≤ 1000 := by rw [formsF_len]; simpa using hlen
 have hl2 : (E.map En.m).length = (formsF (E.map En.m)).length := (formsF_len _).symm
 unfold edgesE
 rw [hl2] at hF
 generalize formsF (E.map En.m) = F at hF hfl
 refine w_nilrow 70 4 ?_
 repeat' (first | ((with_reducible apply wl_callin (f := 17)); exact rfl; exact rfl; exact FnIn.msub (hF (.own none 70 4 0 0 [] :: R)) (by unfold gB; exact mS); rintro _ _ ⟨A0, c0, rfl, rfl⟩) | refine sT ?_ | refine sS ?_ | refine sM fun _ => ?_ | (refine sC ?_ ?_ <;> intro hb <;> try omega) | fail)
 unfold gB
 refine w_loopK [0, 4, 14, 15] rfl (fun x : Nat × Option Nat × Nat => [(3, sl x.2.1 (edgesP (fun a b => hasU (foundE E a).uses b) F (F.take x.1)).length x.2.2), (16, .int .i64 (x.1 : Int))])
  (fun x => .own x.2.1 70 4 (edgesP (fun a b => hasU (foundE E a).uses b) F (F.take x.1)).length x.2.2 ((edgesP (fun a b => hasU (foundE E a).uses b) F (F.take x.1)).flatMap encFF) :: .own A0 38 2 F.length c0 (F.flatMap encF) :: .box gg 109 [.map (some gm)] :: .obj gm (mobj keyF (E.map En.m) clock) :: R)
  (fun x => x.1 ≤ F.length) (fun x => F.length - x.1) (0, none, 0) (Nat.zero_le _) ?_ ?_ ?_
 ·
  exact sB
 ·
  simp only [edgesP, List.take_zero, List.flatMap_nil, List.length_nil]
  exact mS
 rintro ⟨i, A, cap⟩ hi
 dsimp only at hi ⊢
 by_cases hlt : i < F.length
 ·
  have htake := edgesP_take (q := fun a b => hasU (foundE E a).uses b) (F := F) hlt
  have hel : (edgesP (fun a b => hasU (foundE E a).uses b) F (F.take i)).length ≤ 1000 * 1000 := by
   have h1 := edgesP_len (fun a b => hasU (foundE E a).uses b) F (F.take i)
   rw [List.length_take] at h1
   exact Nat.le_trans h1 (Nat.mul_le_mul (by omega) hfl)
  have hv0 : ((F.flatMap encF).drop (i * 2)).take 2 = encF F[i] := flat_elem encF_len F i hlt
  have hl := look_E E F[i]
  have hoke := foundE_ok hE F[i]
  have hq : rowP (fun a b => hasU (foundE E a).uses b) F F[i] = rowP (fun _ b => hasU (foundE E F[i]).uses b) F F[i] := rfl
  rw [hq] at htake
  generalize F[i] = a at hv0 hl hoke htake
  generalize foundE E a = e at hl hoke htake
  generalize edgesP (fun a b => hasU (foundE E a).uses b) F (F.take i) = X at htake hel
  refine w_some (A := A0) pK (by omega) fun g0 hA0 => ?_
  subst hA0
  repeat' (first | ((with_reducible apply wl_v); exact rfl; (with_reducible apply v_indexAddr); exact rfl; exact rfl; exact hlt) | ((with_reducible apply wl_v); exact rfl; (with_reducible apply v_loads_own (ys := encF a)); exact rfl; exact pK; (rw [Nat.zero_add]; exact hv0); exact rfl) | ((with_reducible apply wc_v); (iterate 3 exact rfl); (with_reducible apply v_nilCheck); exact rfl) | ((with_reducible apply w_drawC0 (id := 8) [] []); kernel_rfl; kernel_rfl; kernel_rfl) | ((with_reducible apply wc_v); (iterate 3 exact rfl); (with_reducible apply v_lookup (enc := keyF) (z := zeroFm)); exact rfl; exact rfl; exact pK; exact hl) | ((with_reducible apply wc_v); (iterate 3 exact rfl); (with_reducible apply v_field); exact rfl; exact rfl) | refine sT ?_ | refine sS ?_ | refine sW ?_ | refine sN ?_ | refine sWN ?_ | refine sM fun _ => ?_ | (refine sC ?_ ?_ <;> intro hb <;> try omega) | (refine sCW ?_ ?_ <;> intro hb <;> try omega) | fail)
  rename_i g6
  refine w_loopK [0, 4, 6, 7, 14, 15, 16, 27, 28] rfl (fun x : Nat × Option Nat × Nat => [(3, sl x.2.1 (X ++ rowP (fun _ b => hasU e.uses b) (F.take x.1) a).length x.2.2), (29, .int .i64 (x.1 : Int))])
   (fun x => .box g6 38 (encF a) :: .own x.2.1 70 4 (X ++ rowP (fun _ b => hasU e.uses b) (F.take x.1) a).length x.2.2 ((X ++ rowP (fun _ b => hasU e.uses b) (F.take x.1) a).flatMap encFF) :: .own (some g0) 38 2 F.length c0 (F.flatMap encF) :: .box gg 109 [.map (some gm)] :: .obj gm (mobj keyF (E.map En.m) clock) :: R)
   (fun x => x.1 ≤ F.length) (fun x => F.length - x.1) (0, A, cap) (Nat.zero_le _) ?_ ?_ ?_
  ·
   simp only [rowP, List.take_zero, List.filter_nil, List.map_nil, List.append_nil]
   exact sB
  ·
   simp only [rowP, List.take_zero, List.filter_nil, List.map_nil, List.append_nil]
   exact mS
  rintro ⟨k, A2, cap2⟩ hk
  dsimp only at hk ⊢
  by_cases hkt : k < F.length
  ·
   have hrow := rowP_take (q := fun _ b => hasU e.uses b) (a := a) hkt
   have hrl : (rowP (fun _ b => hasU e.uses b) (F.take k) a).length ≤ 1000 := by
    have := rowP_len (fun _ b => hasU e.uses b) (F.take k) a
    rw [List.length_take] at this
    omega
   have hv1 : ((F.flatMap encF).drop (k * 2)).take 2 = encF F[k] := flat_elem encF_len F k hkt
   generalize F[k] = b at hv1 hrow
   have hcf := fun (g9 : Nat) (w' : World) (H' : List Blk) (hs : MSub R H') (hi : In (.box g9 38 (encF b)) H') (hm : Mem w0 w' H') => ContainsU_at 72 [.pointer (some ⟨g9, 0, none⟩)] (fun u => hasR u.rect b) e.uses hoke.ul e.uv w' (hoke.uses _ w' (hs.use hm)) (fun u w2 H2 hm2 => edge1_at u b g9 w2 (Ro.next (Ro.of_box hm hi) hm2))
   have hU : (e.uses.any fun u => hasR u.rect b) = hasU e.uses b := rfl
   rw [hU] at hcf
   generalize hasU e.uses b = yes at hcf hrow
   generalize rowP (fun _ b => hasU e.uses b) (F.take k) a = Y at hrow hrl
   have hXY : (X ++ Y).length ≤ 1002000 := by rw [List.length_append]; omega
   have hXYs : (X ++ Y).length + 1 = (X ++ (Y ++ [(a, b)])).length := by simp [Nat.add_assoc]
   have hXYf : (X ++ Y).flatMap encFF ++ encFF (a, b) = (X ++ (Y ++ [(a, b)])).flatMap encFF := by simp
   repeat' (first | ((with_reducible apply wl_v); exact rfl; (with_reducible apply v_indexAddr); exact rfl; exact rfl; exact hkt) | ((with_reducible apply wl_v); exact rfl; (with_reducible apply v_loads_own (ys := encF b)); exact rfl; exact pK; (rw [Nat.zero_add]; exact hv1); exact rfl) | ((with_reducible apply wl_callp (f := 71)); exact rfl; exact rfl; (intro w' hm; exact hcf _ w' _ mS pK hm)) | ((with_reducible apply wl_buildAr); (iterate 6 exact rfl)) | ((with_reducible apply wl_append1 (news := encFF (a, b))); (iterate 3 exact rfl); exact pK; exact pK; exact rfl; (simp [encFF, Value.oneCell']); omega; (simp only [maxLen]; omega); (intro g3 cap3; rw [hXYs, hXYf])) | refine sT ?_ | refine sS ?_ | refine sN ?_ | refine sM fun _ => ?_ | (refine sC ?_ ?_ <;> intro hb <;> try omega) | fail)
   ·
    rw [hb] at hrow
    simp only [if_true] at hrow
    refine ⟨(k + 1, some g3, cap3), hkt, (by dsimp only; omega), ?_, ?_, ?_⟩
    ·
     dsimp only
     rw [hrow]
     exact sB
    ·
     exact sB
    ·
     dsimp only
     rw [hrow]
     exact mS
   ·
    rw [hb] at hrow
    simp only [Bool.false_eq_true, if_false] at hrow
    refine ⟨(k + 1, A2, cap2), hkt, (by dsimp only; omega), ?_, ?_, ?_⟩
    ·
     dsimp only
     rw [hrow]
     exact sB
    ·
     exact sB
    ·
     dsimp only
     rw [hrow]
     exact mS
  ·
   have e2 : k = F.length := by omega
   subst e2
   have htake' := htake
   rw [show F.take F.length = F from List.take_length] at *
   repeat' (first | refine sT ?_ | refine sS ?_ | refine sN ?_ | refine sM fun _ => ?_ | (refine sC ?_ ?_ <;> intro hb <;> try omega) | fail)
   refine ⟨(i + 1, A2, cap2), hlt, (by dsimp only; omega), ?_, ?_, ?_⟩
   ·
    dsimp only
    rw [htake]
    exact sB
   ·
    exact sB
   ·
    dsimp only
    rw [htake]
    exact mS
 ·
  have e2 : i = F.length := by omega
  subst e2
  rw [List.take_length]
  repeat' (first | refine sT ?_ | refine sS ?_ | refine sM fun _ => ?_ | (refine sC ?_ ?_ <;> intro hb <;> try omega) | fail)
  all_goals exact ret1 eIO rfl rfl mS ⟨A, cap, rfl, rfl⟩
end Go.SL
namespace Go.SL
open Go
def En.abs (e : En) : Rf × List Nd × List Us := (e.at_, e.tree, e.uses)
structure GOk (R : List Blk) (E : List En) (clock : Nat) (G : Gr) : Prop where
 ok : MapOk (E.map En.m) clock
 en : ∀ e ∈ E, EnOk R e
 rel : ∀ x, x ∈ E.map En.abs ↔ x ∈ G
 sort : SortG G
theorem keysE (E : List En) : ((E.map En.m).map fun e => e.1) = E.map En.at_ := by rw [List.map_map]; rfl
theorem bornE (E : List En) : ((E.map En.m).map fun e => e.2.2) = E.map En.born := by rw [List.map_map]; rfl
theorem GOk.sub {R R' : List Blk} {E : List En} {clock : Nat} {G : Gr} (h : GOk R E clock G) (hs : MSub R R') : GOk R' E clock G := ⟨h.ok, fun e he => (h.en e he).sub hs, h.rel, h.sort⟩
theorem GOk.nodup {R : List Blk} {E : List En} {clock : Nat} {G : Gr} (h : GOk R E clock G) : (E.map En.at_).Nodup := keysE E ▸ h.ok.keys
theorem GOk.perm {R : List Blk} {E : List En} {clock : Nat} {G : Gr} (h : GOk R E clock G) : (E.map En.abs).Perm G := by
 refine nodup_perm ?_ ?_ h.rel
 ·
  have := h.nodup
  have e : E.map En.at_ = (E.map En.abs).map fun x => x.1 := by rw [List.map_map]; rfl
  rw [e] at this
  exact nodup_of_map _ this
 ·
  exact nodup_of_map (fun e : Rf × List Nd × List Us => e.1) h.sort.nodup
theorem GOk.len {R : List Blk} {E : List En} {clock : Nat} {G : Gr} (h : GOk R E clock G) : E.length = G.length := by
 have := h.perm.length_eq
 simpa using this
theorem GOk.forms {R : List Blk} {E : List En} {clock : Nat} {G : Gr} (h : GOk R E clock G) : formsF (E.map En.m) = keysG G := by
 have hp : (E.map En.at_).Perm (keysG G) := by
  have := h.perm.map fun x => x.1
  rw [List.map_map] at this
  exact this
 rw [formsF, keysE, sortRf_perm hp, sortRf_sorted (keys_sorted h.sort)]
theorem GOk.look {R : List Blk} {E : List En} {clock : Nat} {G : Gr} (h : GOk R E clock G) (a : Rf) : (findE E a).map (fun e => (e.tree, e.uses)) = lookG G a := by
 cases hf : findE E a with
 | some e =>
  have h1 := List.find?_some hf
  simp only [decide_eq_true_eq] at h1
  have h2 : (a, e.tree, e.uses) ∈ G := by
   rw [← h.rel]
   refine List.mem_map.2 ⟨e, List.mem_of_find?_eq_some hf, ?_⟩
   rw [← h1]; rfl
  rw [(lookG_some h.sort).2 h2]; rfl
 | none =>
  rw [findE, List.find?_eq_none] at hf
  symm
  rw [Option.map_none, lookG_none]
  intro x hx
  rw [← h.rel] at hx
  obtain ⟨e, he, rfl⟩ := List.mem_map.1 hx
  have := hf e he
  simpa [En.abs] using this
theorem GOk.uses {R : List Blk} {E : List En} {clock : Nat} {G : Gr} (h : GOk R E clock G) (a : Rf) : (foundE E a).uses = usesG G a := by
 rw [usesG, ← h.look a, foundE]
 cases findE E a <;> rfl
theorem GOk.tree {R : List Blk} {E : List En} {clock : Nat} {G : Gr} (h : GOk R E clock G) (a : Rf) : (foundE E a).tree = treeG G a := by
 rw [treeG, ← h.look a, foundE]
 cases findE E a <;> rfl
theorem GOk.is {R : List Blk} {E : List En} {clock : Nat} {G : Gr} (h : GOk R E clock G) (a : Rf) : (findE E a).isSome = isG G a := by
 rw [isG, ← h.look a]
 cases findE E a <;> rfl
theorem kfind_none {κ : Type} [DecidableEq κ] {k : κ} : ∀ {es : List (κ × Value × Nat)} {i : Nat}, kfind k es i = none → ∀ e ∈ es, e.1 ≠ k
 | [], _, _, e, he => by cases he
 | x :: r, i, h, e, he => by
  rw [kfind] at h
  split at h
  ·
   cases h
  ·
   rename_i hk
   rcases List.mem_cons.1 he with rfl | he
   ·
    exact fun e => hk e.symm
   ·
    exact kfind_none h e he
theorem GOk.del {R : List Blk} {E : List En} {clock : Nat} {G : Gr} (h : GOk R E clock G) (a : Rf) : ∃ E', E'.map En.m = kdel a (E.map En.m) ∧ GOk R E' clock (delG G a) := by
 unfold kdel
 cases hk : kfind a (E.map En.m) 0 with
 | none =>
  have hno := kfind_none hk
  refine ⟨E, rfl, h.ok, h.en, fun x => ?_, sortG_del h.sort a⟩
  rw [mem_delG, ← h.rel]
  refine ⟨fun hx => ⟨hx, ?_⟩, fun hx => hx.1⟩
  obtain ⟨e, he, rfl⟩ := List.mem_map.1 hx
  exact hno e.m (List.mem_map.2 ⟨e, he, rfl⟩)
 | some x =>
  obtain ⟨j, v⟩ := x
  obtain ⟨b, _, hj⟩ := kfind_get hk
  rw [Nat.sub_zero, List.getElem?_map] at hj
  obtain ⟨e0, he0, hm0⟩ := Option.map_eq_some_iff.1 hj
  have ha : e0.at_ = a := congrArg Prod.fst hm0
  have hsub : (E.eraseIdx j).Sublist E := List.eraseIdx_sublist E j
  have hin : ∀ e, e ∈ E.eraseIdx j ↔ e ∈ E ∧ e.at_ ≠ a := by
   intro e
   rw [List.mem_eraseIdx_iff_getElem?]
   obtain ⟨hjl, hj0⟩ := List.getElem?_eq_some_iff.1 he0
   constructor
   ·
    rintro ⟨i, hne, hi⟩
    refine ⟨List.mem_of_getElem? hi, fun hea => hne ?_⟩
    obtain ⟨hil, hi0⟩ := List.getElem?_eq_some_iff.1 hi
    have hn := h.nodup
    have := List.getElem_inj (xs := E.map En.at_) (h₀ := by simpa using hil) (h₁ := by simpa using hjl) hn
    refine this.1 ?_
    simp only [List.getElem_map, hi0, hj0, hea, ha]
   ·
    rintro ⟨he, hea⟩
    obtain ⟨i, hil, hi⟩ := List.getElem_of_mem he
    refine ⟨i, ?_, by rw [List.getElem?_eq_getElem hil, hi]⟩
    rintro rfl
    rw [hj0] at hi
    exact hea (hi ▸ ha)
  refine ⟨E.eraseIdx j, map_eraseIdx _ _ _, ?_, fun e he => h.en e (hsub.subset he), fun x => ?_, sortG_del h.sort a⟩
  ·
   have hs2 : ((E.eraseIdx j).map En.m).Sublist (E.map En.m) := hsub.map _
   exact ⟨(hs2.map _).nodup h.ok.born, fun e he => h.ok.old e (hs2.subset he), (hs2.map _).nodup h.ok.keys⟩
  ·
   rw [mem_delG, ← h.rel]
   constructor
   ·
    intro hx
    obtain ⟨e, he, rfl⟩ := List.mem_map.1 hx
    obtain ⟨h1, h2⟩ := (hin e).1 he
    exact ⟨List.mem_map.2 ⟨e, h1, rfl⟩, h2⟩
   ·
    rintro ⟨hx, hne⟩
    obtain ⟨e, he, rfl⟩ := List.mem_map.1 hx
    exact List.mem_map.2 ⟨e, (hin e).2 ⟨he, hne⟩, rfl⟩
theorem GOk.put {R : List Blk} {E : List En} {clock : Nat} {G : Gr} (h : GOk R E clock G) (n : En) (hn : EnOk R n) : ∃ E', E'.map En.m = (kput n.at_ (.agg #[n.tv, n.uv]) clock (E.map En.m)).1 ∧ GOk R E' (kput n.at_ (.agg #[n.tv, n.uv]) clock (E.map En.m)).2 (insG G n.at_ (n.tree, n.uses)) := by
 unfold kput
 cases hk : kfind n.at_ (E.map En.m) 0 with
 | none =>
  have hno := kfind_none hk
  have hno' : n.at_ ∉ E.map En.at_ := fun hx => by
   obtain ⟨e, he, hea⟩ := List.mem_map.1 hx
   exact hno e.m (List.mem_map.2 ⟨e, he, rfl⟩) hea
  refine ⟨E ++ [{ n with born := clock }], by simp [En.m, En.tv, En.uv], ⟨?_, ?_, ?_⟩, fun e he => ?_, fun x => ?_, sortG_ins h.sort _ _⟩
  ·
   have hb := h.ok.born
   rw [bornE] at hb ⊢
   rw [List.map_append, List.nodup_append]
   refine ⟨hb, by simp, fun x hx y hy => ?_⟩
   simp only [List.map_cons, List.map_nil, List.mem_singleton] at hy
   subst hy
   obtain ⟨e, he, rfl⟩ := List.mem_map.1 hx
   have := h.ok.old e.m (List.mem_map.2 ⟨e, he, rfl⟩)
   simp only [En.m] at this
   omega
  ·
   intro e he
   rw [List.map_append] at he
   rcases List.mem_append.1 he with he | he
   ·
    have := h.ok.old e he; simp only; omega
   ·
    simp only [List.map_cons, List.map_nil, List.mem_singleton] at he
    subst he
    simp [En.m]
  ·
   rw [keysE, List.map_append, List.nodup_append]
   refine ⟨h.nodup, by simp, fun x hx y hy e => ?_⟩
   simp only [List.map_cons, List.map_nil, List.mem_singleton] at hy
   subst hy; subst e
   exact hno' hx
  ·
   rcases List.mem_append.1 he with he | he
   ·
    exact h.en e he
   ·
    rw [List.mem_singleton.1 he]
    exact ⟨hn.tree, hn.uses, hn.tl, hn.ul⟩
  ·
   rw [mem_insG, ← h.rel, List.map_append, List.mem_append]
   constructor
   ·
    rintro (hx | hx)
    ·
     right
     obtain ⟨e, he, rfl⟩ := List.mem_map.1 hx
     exact ⟨hx, fun hea => hno' (List.mem_map.2 ⟨e, he, hea⟩)⟩
    ·
     left
     simpa [En.abs] using hx
   ·
    rintro (rfl | ⟨hx, _⟩)
    ·
     right; simp [En.abs]
    ·
     left; exact hx
 | some x =>
  obtain ⟨j, v⟩ := x
  obtain ⟨b, _, hj⟩ := kfind_get hk
  rw [Nat.sub_zero, List.getElem?_map] at hj
  obtain ⟨e0, he0, hm0⟩ := Option.map_eq_some_iff.1 hj
  have ha : e0.at_ = n.at_ := congrArg Prod.fst hm0
  obtain ⟨hjl, hj0⟩ := List.getElem?_eq_some_iff.1 he0
  have hget : ∀ i, (E.modify j fun e => { n with born := e.born })[i]? = if j = i then (E[i]?).map (fun e => { n with born := e.born }) else E[i]? := fun i => by
   rw [List.getElem?_modify]
   split <;> rename_i hji
   ·
    rfl
   ·
    cases E[i]? <;> rfl
  have hin : ∀ e, e ∈ (E.modify j fun e => { n with born := e.born }) ↔ e = { n with born := e0.born } ∨ (e ∈ E ∧ e.at_ ≠ n.at_) := by
   intro e
   constructor
   ·
    intro he
    obtain ⟨i, hi⟩ := List.mem_iff_getElem?.1 he
    rw [hget] at hi
    split at hi
    ·
     rename_i hji
     subst hji
     rw [he0] at hi
     left
     exact (Option.some.inj hi).symm
    ·
     rename_i hji
     right
     refine ⟨List.mem_of_getElem? hi, fun hea => hji ?_⟩
     obtain ⟨hil, hi0⟩ := List.getElem?_eq_some_iff.1 hi
     have := List.getElem_inj (xs := E.map En.at_) (h₀ := by simpa using hjl) (h₁ := by simpa using hil) h.nodup
     refine this.1 ?_
     simp only [List.getElem_map, hi0, hj0, hea, ha]
   ·
    rintro (rfl | ⟨he, hea⟩)
    ·
     refine List.mem_iff_getElem?.2 ⟨j, ?_⟩
     rw [hget, if_pos rfl, he0]; rfl
    ·
     obtain ⟨i, hil, hi⟩ := List.getElem_of_mem he
     refine List.mem_iff_getElem?.2 ⟨i, ?_⟩
     rw [hget, if_neg, List.getElem?_eq_getElem hil, hi]
     rintro rfl
     rw [hj0] at hi
     exact hea (hi ▸ ha)
  have hborn : (E.modify j fun e => { n with born := e.born }).map En.born = E.map En.born := by
   apply List.ext_getElem?
   intro i
   rw [List.getElem?_map, List.getElem?_map, hget]
   split
   ·
    cases E[i]? <;> rfl
   ·
    rfl
  have hkeys : (E.modify j fun e => { n with born := e.born }).map En.at_ = E.map En.at_ := by
   apply List.ext_getElem?
   intro i
   rw [List.getElem?_map, List.getElem?_map, hget]
   split
   ·
    rename_i hji
    subst hji
    rw [he0]
    simp [ha]
   ·
    rfl
  refine ⟨E.modify j fun e => { n with born := e.born }, ?_, ⟨?_, ?_, ?_⟩, fun e he => ?_, fun x => ?_, sortG_ins h.sort _ _⟩
  ·
   apply List.ext_getElem?
   intro i
   simp only [List.getElem?_modify, List.getElem?_map]
   cases E[i]? with
   | none => simp
   | some e => by_cases hji : j = i <;> simp [hji, En.m, En.tv, En.uv]
  ·
   rw [bornE, hborn, ← bornE]; exact h.ok.born
  ·
   intro e he
   obtain ⟨e', he', rfl⟩ := List.mem_map.1 he
   have : e'.born ∈ E.map En.born := by rw [← hborn]; exact List.mem_map.2 ⟨e', he', rfl⟩
   obtain ⟨e2, he2, hb2⟩ := List.mem_map.1 this
   have := h.ok.old e2.m (List.mem_map.2 ⟨e2, he2, rfl⟩)
   simp only [En.m] at this ⊢
   omega
  ·
   rw [keysE, hkeys]; exact h.nodup
  ·
   rcases (hin e).1 he with rfl | ⟨he, _⟩
   ·
    exact ⟨hn.tree, hn.uses, hn.tl, hn.ul⟩
   ·
    exact h.en e he
  ·
   rw [mem_insG, ← h.rel]
   constructor
   ·
    intro hx
    obtain ⟨e, he, rfl⟩ := List.mem_map.1 hx
    rcases (hin e).1 he with rfl | ⟨he, hea⟩
    ·
     left; rfl
    ·
     right; exact ⟨List.mem_map.2 ⟨e, he, rfl⟩, hea⟩
   ·
    rintro (rfl | ⟨hx, hne⟩)
    ·
     exact List.mem_map.2 ⟨_, (hin _).2 (.inl rfl), rfl⟩
    ·
     obtain ⟨e, he, rfl⟩ := List.mem_map.1 hx
     exact List.mem_map.2 ⟨e, (hin e).2 (.inr ⟨he, hne⟩), rfl⟩
theorem then_err {o : Option Out} {k : Nat → PS → Option Out} {x : Int × Int} (h : thenP o k = some (.error x)) (h1 : ∀ y, o = some (.error y) → y.2 ≠ 0) (h2 : ∀ n p y, k n p = some (.error y) → y.2 ≠ 0) : x.2 ≠ 0 := by
 obtain ⟨r1, hr, ⟨e, rfl, he⟩ | ⟨n, p, rfl, hk⟩⟩ := thenP_inv h
 ·
  cases he; exact h1 _ hr
 ·
  exact h2 _ _ _ hk
theorem endCall_err {fin : Int} {name : Tk} {fn : Int} {n : Nat} {p : PS} {x : Int × Int} (h : endCall fin name fn n p = some (.error x)) : x.2 ≠ 0 := by
 unfold endCall at h
 dsimp only at h
 split at h
 ·
  cases h; simp
 ·
  split at h
  ·
   cases h; simp
  ·
   split at h
   ·
    cases h; simp
   ·
    cases h
theorem runP_err (fin : Int) : ∀ (f : Nat) (j : Job) (p : PS) (x : Int × Int), runP fin f j p = some (.error x) → x.2 ≠ 0 := by
 intro f
 induction f with
 | zero => intro j p x h; cases j <;> cases h
 | succ f ih =>
  intro j p x h
  cases j with
  | level k =>
   rw [runP] at h
   split at h
   ·
    exact ih _ _ _ h
   ·
    exact then_err h (ih _ _) fun _ _ => ih _ _
  | loop k =>
   rw [runP] at h
   try dsimp only at h
   split at h
   ·
    exact then_err h (ih _ _) fun _ _ => ih _ _
   ·
    cases h
  | sign =>
   rw [runP] at h
   try dsimp only at h
   split at h
   ·
    exact then_err h (ih _ _) fun _ _ _ h => by cases h
   ·
    refine then_err h (ih _ _) fun _ _ y h => ?_
    split at h
    ·
     exact then_err h (ih _ _) fun _ _ _ h => by cases h
    ·
     cases h
  | pct =>
   rw [runP] at h
   exact then_err h (ih _ _) fun _ _ => ih _ _
  | pctl =>
   rw [runP] at h
   try dsimp only at h
   split at h
   ·
    exact ih _ _ _ h
   ·
    cases h
  | prim =>
   rw [runP] at h
   try dsimp only at h
   split at h
   ·
    cases h
   ·
    split at h
    ·
     cases h
    ·
     split at h
     ·
      refine then_err h (ih _ _) fun _ _ y h => ?_
      split at h
      ·
       cases h; simp
      ·
       cases h
     ·
      split at h
      ·
       split at h
       ·
        cases h; simp
       ·
        split at h
        ·
         cases h; simp
        ·
         split at h
         ·
          exact endCall_err h
         ·
          exact then_err h (ih _ _) fun _ _ _ h => endCall_err h
      ·
       cases h; simp
  | args fn n =>
   rw [runP] at h
   try dsimp only at h
   have hgo : ∀ (p : PS) (y : Int × Int), (if (hdT fin p.l).kind = 11 then runP fin f (.args fn (n + 1)) p.skip else some (.ok (n + 1, p))) = some (.error y) → y.2 ≠ 0 := by
    intro p y h
    split at h
    ·
     exact ih _ _ _ h
    ·
     cases h
   split at h
   ·
    exact then_err h (ih _ _) fun _ _ _ h => hgo _ _ h
   ·
    split at h
    ·
     cases h; simp
    ·
     exact hgo _ _ h
theorem formulaV_tree {x : List Tk × Int × Int} {fin : Int} : (formulaV x fin).1.length ≤ x.1.length ∧ ((formulaV x fin).2.2 = 0 → checkE (formulaV x fin).1 = 0) := by
 have hends := runP_ends fin (20 * x.1.length + 40) (.level 1) ⟨x.1, []⟩ ⟨by omega, by omega⟩ (by simp only [Job.c]; omega)
 have hgrew := fun n p hp => runP_grew fin (20 * x.1.length + 40) (.level 1) ⟨x.1, []⟩ n p hp
 unfold formulaV
 split
 ·
  rename_i h; exact ⟨Nat.zero_le _, fun h' => absurd h' h⟩
 ·
  split
  ·
   rename_i h
   obtain ⟨r, hr, _⟩ := hends
   rw [h] at hr; cases hr
  ·
   rename_i a e h
   exact ⟨Nat.zero_le _, fun h' => absurd h' (runP_err _ _ _ _ _ h)⟩
  ·
   rename_i n p hp
   split
   ·
    exact ⟨Nat.zero_le _, fun h' => by cases h'⟩
   ·
    split
    ·
     rename_i hc; exact ⟨Nat.zero_le _, fun h' => absurd h' hc⟩
    ·
     rename_i hc
     obtain ⟨⟨m, h1, h2, h3⟩, _, _⟩ := hgrew _ _ hp
     simp only [List.length_nil, Nat.zero_add] at h3
     exact ⟨Nat.le_trans h3 h2, fun _ => by simpa using hc⟩
theorem ofP_tree {b : ByteArray} (h : (ofP b).2.2 = 0) (hf : (ofP b).1.formula = true) : checkE (ofP b).1.tree = 0 := by
 unfold ofP at h hf ⊢
 split at hf
 ·
  cases hf
 ·
  rename_i h1
  rw [if_neg h1] at h ⊢
  split at hf
  ·
   cases hf
  ·
   rename_i h2
   rw [h2] at h
   simp only at h ⊢
   split at hf
   ·
    cases hf
   ·
    rename_i h3
    rw [if_neg h3] at h ⊢
    have ht := formulaV_tree (x := tokensV tokenP (ints (cutB b eqB).1)) (fin := ((cutB b eqB).1.size : Int))
    generalize formulaV (tokensV tokenP (ints (cutB b eqB).1)) ((cutB b eqB).1.size : Int) = r at h hf ht ⊢
    obtain ⟨t, at_, e⟩ := r
    simp only at h hf ht ⊢
    split at hf
    ·
     cases hf
    ·
     rename_i h4
     rw [if_neg h4]
     exact ht.2 (by simpa using h4)
theorem ofP_len (b : ByteArray) : (ofP b).1.tree.length ≤ 256 := by
 unfold ofP
 split
 ·
  exact Nat.zero_le _
 ·
  split
  ·
   exact Nat.zero_le _
  ·
   split
   ·
    exact Nat.zero_le _
   ·
    have ht := (formulaV_tree (x := tokensV tokenP (ints (cutB b eqB).1)) (fin := ((cutB b eqB).1.size : Int))).1
    have hl := tokensV_len tokenP (ints (cutB b eqB).1)
    generalize formulaV (tokensV tokenP (ints (cutB b eqB).1)) ((cutB b eqB).1.size : Int) = r at ht ⊢
    obtain ⟨t, at_, e⟩ := r
    simp only at ht ⊢
    split
    ·
     exact Nat.zero_le _
    ·
     exact Nat.le_trans ht hl
end Go.SL
namespace Go.SL
open Go Go.Proofs
attribute [local irreducible] W WL WQ WG WA WX WLI WR WT WC VOp RW thn blk cutP scp retP retPP endB FnAt FnIn FnP ceP
set_option maxHeartbeats 2000000 in
theorem Set_inF (gg gm clock : Nat) (E : List En) (G : Gr) (a : Rf) (b : ByteArray) (R F : List Blk) (w0 : World) (hG : GOk R E clock G) (hW : Words w0) :
  FnIn Tryz.prog 27 [.pointer (some ⟨gg, 0, none⟩), keyF a, .string b] w0 (gB gg gm (E.map En.m) clock ++ (R ++ F)) fun v H => v = .int .i64 (setG G a b).2 ∧ ∃ E' clock' R', H = gB gg gm (E'.map En.m) clock' ++ (R' ++ F) ∧ MSub R R' ∧ GOk R' E' clock' (setG G a b).1 := by
 refine fn_in Tryz.func27 rfl Tryz.ntmps27 rfl ?_
 have hV := fun (w' : World) (H' : List Blk) (hm : Mem w0 w' H') => (valid_at a.col a.row w' : Pure Tryz.prog 73 [keyF a] w' (.bool (valid a.col a.row)))
 have hO := fun (w' : World) (H' : List Blk) (hm : Mem w0 w' H') => Of_at b w' (hW.next hm)
 unfold gB
 unfold setG
 by_cases hv : a.valid = false
 ·
  rw [if_pos hv]
  have hv' : valid a.col a.row = false := hv
  rw [hv'] at hV
  repeat' (first | ((with_reducible apply wl_callp (f := 73)); exact rfl; exact rfl; (intro w' hm; exact hV w' _ hm)) | refine sT ?_ | refine sS ?_ | refine sW ?_ | refine sM fun _ => ?_ | (refine sC ?_ ?_ <;> intro hb <;> try omega) | (refine sCW ?_ ?_ <;> intro hb <;> try omega) | fail)
  all_goals exact ret1 eIO rfl rfl mS ⟨rfl, E, clock, R, rfl, MSub.refl _, hG⟩
 rw [if_neg hv]
 have hv' : valid a.col a.row = true := by
  have : a.valid = valid a.col a.row := rfl
  rw [this] at hv
  simpa using hv
 rw [hv'] at hV
 have hlen := ofP_len b
 have htree := ofP_tree (b := b)
 generalize ofP b = r at hO hlen htree
 obtain ⟨⟨fm, v, t⟩, at_, e⟩ := r
 simp only [ofV, encM] at hO
 dsimp only at hlen htree ⊢
 by_cases he : e ≠ 0
 ·
  rw [if_pos he]
  repeat' (first | ((with_reducible apply wl_callp (f := 73)); exact rfl; exact rfl; (intro w' hm; exact hV w' _ hm)) | ((with_reducible apply wl_call (f := 74)); exact rfl; exact rfl; (intro w' hm; exact hO w' _ hm); rintro _ _ ⟨A, cap, rfl, rfl⟩) | refine sT ?_ | refine sS ?_ | refine sW ?_ | refine sM fun _ => ?_ | (refine sC ?_ ?_ <;> intro hb <;> try omega) | (refine sCW ?_ ?_ <;> intro hb <;> try omega) | fail)
  all_goals exact ret1 eIO rfl rfl mS ⟨rfl, E, clock, R, rfl, MSub.refl _, hG⟩
 rw [if_neg he]
 have he0 : e = 0 := by omega
 subst he0
 cases fm with
 | false =>
  obtain ⟨E', hE', hG'⟩ := hG.del a
  rw [if_pos rfl]
  repeat' (first | ((with_reducible apply wl_callp (f := 73)); exact rfl; exact rfl; (intro w' hm; exact hV w' _ hm)) | ((with_reducible apply wl_call (f := 74)); exact rfl; exact rfl; (intro w' hm; exact hO w' _ hm); rintro _ _ ⟨A, cap, rfl, rfl⟩) | refine sT ?_ | refine sS ?_ | refine sW ?_ | refine sM fun _ => ?_ | (refine sC ?_ ?_ <;> intro hb <;> try omega) | (refine sCW ?_ ?_ <;> intro hb <;> try omega) | fail)
  rename_i g4 g7
  refine w_drawC (id := 9) [5] [] [.box gg 109 [.map (some gm)], .box g4 38 (encF a)] (by kernel_rfl) (by kernel_rfl) (by kernel_rfl) mS ?_
  repeat' (first | ((with_reducible apply wc_v); (iterate 3 exact rfl); (with_reducible apply v_nilCheck); exact rfl) | ((with_reducible apply wl_delete (enc := keyF) (t := 107)); (iterate 3 exact rfl); exact pK; rw [← hE']) | refine sT ?_ | refine sS ?_ | refine sW ?_ | refine sM fun _ => ?_ | (refine sC ?_ ?_ <;> intro hb <;> try omega) | (refine sCW ?_ ?_ <;> intro hb <;> try omega) | fail)
  all_goals exact ret1 eIO rfl rfl mS ⟨rfl, E', clock, R, rfl, MSub.refl _, hG'⟩
 | true =>
  have hck := htree rfl rfl
  rw [if_neg (by simp)]
  have hU := fun (w' : World) (A : Option Nat) (cap : Nat) (H' : List Blk) (hi : In (.own A 136 11 t.length cap (t.flatMap encN)) H') (hm : Mem w0 w' H') => Uses_at t (sl A t.length cap) w' (Reads.of_own hm hi) (by omega)
  have hue : usesE t = (usesF t, 0) := by unfold usesE; rw [hck]; rfl
  have hul : (usesF t).length ≤ 256 := Nat.le_trans (usesFrom_len t 0) hlen
  rw [hue] at hU
  repeat' (first | ((with_reducible apply wl_callp (f := 73)); exact rfl; exact rfl; (intro w' hm; exact hV w' _ hm)) | ((with_reducible apply wl_call (f := 74)); exact rfl; exact rfl; (intro w' hm; exact hO w' _ hm); rintro _ _ ⟨A, cap, rfl, rfl⟩) | ((with_reducible apply wl_call (f := 75)); exact rfl; exact rfl; (intro w' hm; exact hU w' _ _ _ pK hm); rintro _ _ ⟨A2, cap2, rfl, rfl⟩) | refine sT ?_ | refine sS ?_ | refine sW ?_ | refine sM fun _ => ?_ | (refine sC ?_ ?_ <;> intro hb <;> try omega) | (refine sCW ?_ ?_ <;> intro hb <;> try omega) | fail)
  rename_i g4 g7
  have hGR := hG.sub (R' := .own A 136 11 t.length cap (t.flatMap encN) :: .own A2 45 6 (usesF t).length cap2 ((usesF t).flatMap encU) :: R) mS
  obtain ⟨E', hE', hG'⟩ := hGR.put ⟨a, A.map fun g => ⟨g, 0, none⟩, cap, A2.map fun g => ⟨g, 0, none⟩, cap2, t, usesF t, 0⟩ ⟨rdIn.own (A := A) pK, rdIn.own (A := A2) pK, by dsimp only; omega, by dsimp only; omega⟩
  generalize hck2 : (kput a (.agg #[sl A t.length cap, sl A2 (usesF t).length cap2]) clock (E.map En.m)) = kp
  have hE2 : E'.map En.m = kp.1 := hck2 ▸ hE'
  have hG2 : GOk _ E' kp.2 (insG G a (t, usesF t)) := hck2 ▸ hG'
  refine w_drawC (id := 14) [9] [] [.box gg 109 [.map (some gm)], .box g4 38 (encF a), .box g7 122 [.bool true, .int .u8 v.kind, .int .i64 v.num, .string v.text, sl A t.length cap]] (by kernel_rfl) (by kernel_rfl) (by kernel_rfl) mS ?_
  repeat' (first | ((with_reducible apply wc_v); (iterate 3 exact rfl); (with_reducible apply v_nilCheck); exact rfl) | ((with_reducible apply wl_mapPut (enc := keyF)); (iterate 3 exact rfl); exact pK; rw [hck2, ← hE2]) | refine sT ?_ | refine sS ?_ | refine sW ?_ | refine sM fun _ => ?_ | (refine sC ?_ ?_ <;> intro hb <;> try omega) | (refine sCW ?_ ?_ <;> intro hb <;> try omega) | fail)
  all_goals exact ret1 eIO rfl rfl (H' := gB gg gm (E'.map En.m) kp.2 ++ ((.own A 136 11 t.length cap (t.flatMap encN) :: .own A2 45 6 (usesF t).length cap2 ((usesF t).flatMap encU) :: R) ++ F)) (by unfold gB; simp only [List.append_eq, List.cons_append, List.nil_append]; exact mS) ⟨rfl, E', kp.2, _, rfl, mS, hG2⟩
theorem Set_in (gg gm clock : Nat) (E : List En) (G : Gr) (a : Rf) (b : ByteArray) (R : List Blk) (w0 : World) (hG : GOk R E clock G) (hW : Words w0) :
  FnIn Tryz.prog 27 [.pointer (some ⟨gg, 0, none⟩), keyF a, .string b] w0 (gB gg gm (E.map En.m) clock ++ R) fun v H => v = .int .i64 (setG G a b).2 ∧ ∃ E' clock' R', H = gB gg gm (E'.map En.m) clock' ++ R' ∧ MSub R R' ∧ GOk R' E' clock' (setG G a b).1 := by
 have h := Set_inF gg gm clock E G a b R [] w0 hG hW
 simp only [List.append_nil] at h
 exact h
end Go.SL
