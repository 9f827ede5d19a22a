/-
  Lemmas and walks, put together: R7 R8 R9 R10.
-/
import Derived.Test.YtpohljcebgacjaaGreatDoorKr22
set_option linter.unusedSimpArgs false
set_option linter.unusedVariables false
set_option maxRecDepth 20000
namespace Go.SL
open Go Go.Proofs
attribute [local irreducible] W WL WQ WG WA WX WLI WR WT WC VOp RW thn blk cutP scp retP retPP endB FnAt FnIn FnP ceP
def TokR (i:Nat) (o:Option (Tk × Nat)) (v:Value):Prop:=match o with
 |some (t,n)=>v= .tuple #[.agg (encTk { t with at_:=(i:Int) }).toArray,.int .i64 ((i+n:Nat):Int),.bool true]
 |none=> ∃ (t:Tk) (e:Int),v= .tuple #[.agg (encTk t).toArray,.int .i64 e,.bool false]
theorem runL_at {p:Int→Bool} {a:ByteArray} {i:Nat} (h:i<a.size):runL p ((ints a).drop i)=if p (bat a i) then runL p ((ints a).drop (i+1))+1 else 0:=by
 rw [bat_drop h,runL]
theorem runL_mem {p:Int→Bool} {l:List Int} {n:Nat} (h:n=runL p l) {c:Int} (hc:c∈l.take n):p c=true:=by
 obtain ⟨k,hk,rfl⟩:=List.getElem_of_mem hc
 rw [List.length_take] at hk
 rw [List.getElem_take]
 exact runL_all l k _ (by omega) (List.getElem?_eq_getElem (by omega))
set_option maxHeartbeats 4000000 in
theorem refNumber_at (a : ByteArray) (ha : a.size ≤ 256) (i : Nat) (hi : i < a.size) (hdi : digC (bat a i) = true) (w : World) :
    FnAt Tryz.prog 248 [.string a, .int .i64 (i : Int)] w fun v H => H = [] ∧ TokR i ((numberL ((ints a).drop i)).map fun x => (⟨1, x.1, emptyB, zeroR, 0⟩, x.2)) v := by
  refine fn_at Tryz.func248 rfl Tryz.ntmps248 rfl ?_
  have hl := ints_length a
  have hm : mostI = 9223372036854775807 := rfl
  obtain ⟨W1, hW1⟩ : ∃ W1, runL digC ((ints a).drop i) = W1 := ⟨_, rfl⟩
  have hw0 : W1 ≠ 0 := by rw [← hW1, runL_at hi, if_pos hdi]; omega
  have hwl : i + W1 ≤ a.size := by
    have := runL_le digC ((ints a).drop i)
    rw [List.length_drop] at this
    omega
  obtain ⟨p, hp⟩ : ∃ p, placesL ((ints a).drop (i + W1)) = p := ⟨_, rfl⟩
  have hnum : numberL ((ints a).drop i) = if 4 < p then none else if mostI < natOf (((ints a).drop i).take W1 ++ ((ints a).drop (i + W1 + 1)).take p ++ List.replicate (4 - p) 48) 0 then none else some (natOf (((ints a).drop i).take W1 ++ ((ints a).drop (i + W1 + 1)).take p ++ List.replicate (4 - p) 48) 0, if p = 0 then W1 else W1 + 1 + p) := by
    unfold numberL
    simp only [hW1, List.drop_drop, hp]
    by_cases h4 : 4 < p
    · rw [if_pos (.inr h4), if_pos h4]
    · rw [if_neg (by omega), if_neg h4]
      rfl
  rw [hnum]
  clear hnum
  have hD := fun j w => refDigit_at a (by omega) j w
  repeat' (first | refine sT ?_ | refine sS ?_ | refine sT2 ?_ | refine sM fun _ => ?_ | (refine sC ?_ ?_ <;> intro hb <;> try omega) | exact cT | fail)
  rename_i g4 g7
  refine w_loopK [0, 1, 4, 7] rfl (fun j : Nat => [(8, .int .i64 ((i + j : Nat) : Int))]) (fun _ => [.box g7 216 (encTk ⟨1, 0, emptyB, zeroR, i⟩), .box g4 216 (encTk zeroTk)]) (fun j => j ≤ W1 ∧ W1 = j + runL digC ((ints a).drop (i + j))) (fun j => W1 - j) 0 ⟨by omega, by rw [Nat.add_zero, hW1]; omega⟩ sB mS ?_
  rintro j ⟨hj, hx⟩
  by_cases hjw : j < W1
  · have hji : i + j < a.size := by omega
    have hdj : digC (bat a (i + j)) = true := by
      rw [runL_at hji] at hx
      split at hx
      · assumption
      · omega
    have hx2 : W1 = (j + 1) + runL digC ((ints a).drop (i + (j + 1))) := by
      rw [runL_at hji, if_pos hdj] at hx
      rw [← Nat.add_assoc i j 1]; omega
    have hDj := fun w => hD (i + j) w
    rw [hdj] at hDj
    repeat' (first | ((with_reducible apply wl_callp (f := 247)); exact rfl; exact rfl; (intro w' hm; exact hDj w')) | refine sT ?_ | refine sS ?_ | refine sT2 ?_ | refine sN ?_ | refine sM fun _ => ?_ | (refine sC ?_ ?_ <;> intro hb <;> try omega) | exact cT | fail)
    exact ⟨j + 1, ⟨hjw, hx2⟩, by omega, sB, sB, .refl _⟩
  have ejw : j = W1 := by omega
  subst ejw
  have hdj : digC (bat a (i + j)) = false := by
    by_cases hji : i + j < a.size
    · rw [runL_at hji] at hx
      split at hx
      · omega
      · rename_i h; simpa using h
    · rw [bat_out (by omega)]; rfl
  have hDj := fun w => hD (i + j) w
  rw [hdj] at hDj
  have hDk := fun w => hD (i + j + 1) w
  have hp1 : i + j < a.size → bat a (i + j) = 46 → p = runL digC ((ints a).drop (i + j + 1)) := fun h1 h2 => by
    rw [← hp, bat_drop h1, h2]; rfl
  have hp2 : (i + j < a.size → bat a (i + j) ≠ 46) → p = 0 := fun h => by
    rw [← hp]
    by_cases h1 : i + j < a.size
    · rw [bat_drop h1]; exact placesL_no (h h1)
    · rw [List.drop_of_length_le (by omega)]; rfl
  have hp0 : digC (bat a (i + j + 1)) = false → runL digC ((ints a).drop (i + j + 1)) = 0 := fun h => by
    by_cases h1 : i + j + 1 < a.size
    · rw [runL_at h1, if_neg (by rw [h]; simp)]
    · exact runL_end (by omega)
  have hpl : p ≠ 0 → i + j + 1 + p ≤ a.size := fun h => by
    by_cases h1 : i + j < a.size ∧ bat a (i + j) = 46
    · have := hp1 h1.1 h1.2
      have h2 := runL_le digC ((ints a).drop (i + j + 1))
      rw [List.length_drop] at h2
      omega
    · exact absurd (hp2 fun h3 h4 => h1 ⟨h3, h4⟩) h
  obtain ⟨E, hE⟩ : ∃ E, (if p = 0 then j else j + 1 + p) = E := ⟨_, rfl⟩
  repeat' (first | ((with_reducible apply wl_callp (d := 20)); exact rfl; exact rfl; (intro w' hm; exact hDj w')) | ((with_reducible apply wl_v (d := 26)); exact rfl; (with_reducible apply v_sub2 (lo := i) (hi := i + j)); (iterate 3 exact rfl); exact ⟨by omega, by omega⟩) | (refine w_cutR (id := 6) (ι := ByteArray) (fun pl => [(0, .string a), (1, .int .i64 (i : Int)), (4, .pointer (some ⟨g4, 0, none⟩)), (7, .pointer (some ⟨g7, 0, none⟩)), (8, .int .i64 ((i + E : Nat) : Int)), (9, .string (sub a i (i + j))), (10, .string pl)]) (fun _ => [.box g7 216 (encTk ⟨1, 0, emptyB, zeroR, i⟩), .box g4 216 (encTk zeroTk)]) (fun pl => ints pl = ((ints a).drop (i + j + 1)).take p) ?_ ?_) | ((with_reducible apply wl_v (d := 34)); exact rfl; (with_reducible apply v_idx (j := i + j)); exact rfl; exact rfl; omega) | ((with_reducible apply wl_callp (d := 41)); exact rfl; exact rfl; (intro w' hm; exact hDk w')) | refine sT ?_ | refine sS ?_ | refine sT2 ?_ | refine sN ?_ | refine sM fun _ => ?_ | (refine sC ?_ ?_ <;> intro hb <;> try omega) | exact cT | fail)
  · -- the places
    have hdd : digC (bat a (i + j + 1)) = true := by assumption
    have e46 : bat a (i + j) = 46 := by assumption
    have hpp := hp1 (by omega) e46
    have hp0' : p ≠ 0 := by
      rw [hpp]
      by_cases h1 : i + j + 1 < a.size
      · rw [runL_at h1, if_pos hdd]; omega
      · rw [bat_out (by omega)] at hdd; simp [digC] at hdd
    rw [if_neg hp0'] at hE
    subst hE
    refine w_loopK [0, 1, 4, 7, 9, 10, 11] rfl (fun k : Nat => [(8, .int .i64 ((i + j + 1 + k : Nat) : Int))]) (fun _ => [.box g7 216 (encTk ⟨1, 0, emptyB, zeroR, i⟩), .box g4 216 (encTk zeroTk)]) (fun k => k ≤ p ∧ p = k + runL digC ((ints a).drop (i + j + 1 + k))) (fun k => p - k) 0 ⟨by omega, by rw [Nat.add_zero, Nat.zero_add]; exact hpp⟩ sB mS ?_
    rintro k ⟨hk, hkx⟩
    have hpl' := hpl hp0'
    by_cases hkp : k < p
    · have hki : i + j + 1 + k < a.size := by omega
      have hdk : digC (bat a (i + j + 1 + k)) = true := by
        rw [runL_at hki] at hkx
        split at hkx
        · assumption
        · omega
      have hkx2 : p = (k + 1) + runL digC ((ints a).drop (i + j + 1 + (k + 1))) := by
        rw [runL_at hki, if_pos hdk] at hkx
        rw [← Nat.add_assoc _ k 1]; omega
      have hDl := fun w => hD (i + j + 1 + k) w
      rw [hdk] at hDl
      repeat' (first | ((with_reducible apply wl_callp (d := 48)); exact rfl; exact rfl; (intro w' hm; exact hDl w')) | refine sT ?_ | refine sS ?_ | refine sT2 ?_ | refine sN ?_ | refine sM fun _ => ?_ | (refine sC ?_ ?_ <;> intro hb <;> try omega) | exact cT | fail)
      exact ⟨k + 1, ⟨hkp, hkx2⟩, by omega, sB, sB, .refl _⟩
    have ekp : k = p := by omega
    subst ekp
    have hdk : digC (bat a (i + j + 1 + k)) = false := by
      by_cases hki : i + j + 1 + k < a.size
      · rw [runL_at hki] at hkx
        split at hkx
        · omega
        · rename_i h; simpa using h
      · rw [bat_out (by omega)]; rfl
    have hDl := fun w => hD (i + j + 1 + k) w
    rw [hdk] at hDl
    have es : ints (sub a (i + j + 1) (i + j + 1 + k)) = ((ints a).drop (i + j + 1)).take k := by
      rw [ints_sub]; congr 1; omega
    rw [show i + (j + 1 + k) = i + j + 1 + k by omega]
    repeat' (first | ((with_reducible apply wl_callp (d := 48)); exact rfl; exact rfl; (intro w' hm; exact hDl w')) | ((with_reducible apply wl_v (d := 54)); exact rfl; (with_reducible apply v_sub2 (lo := i + j + 1) (hi := i + j + 1 + k)); (iterate 3 exact rfl); exact ⟨by omega, by omega⟩) | refine sT ?_ | refine sS ?_ | refine sT2 ?_ | refine sN ?_ | refine sM fun _ => ?_ | (refine sC ?_ ?_ <;> intro hb <;> try omega) | exact cT | fail)
    refine cut_n (sub a (i + j + 1) (i + j + 1 + k)) es sB mS
  · -- a dot without a digit
    have hdd : digC (bat a (i + j + 1)) = false := by assumption
    have hpp := (hp1 (by omega) (by assumption)).trans (hp0 hdd)
    rw [if_pos hpp] at hE
    subst hE hpp
    refine cut_n emptyB rfl sB mS
  · have hpp := hp2 (fun _ => by assumption)
    rw [if_pos hpp] at hE
    subst hE hpp
    refine cut_n emptyB rfl sB mS
  · have hpp := hp2 (fun h => by omega)
    rw [if_pos hpp] at hE
    subst hE hpp
    refine cut_n emptyB rfl sB mS
  rintro pl hpl2
  have hps : pl.size = p := by
    rw [← ints_length, hpl2, List.length_take, List.length_drop, hl]
    by_cases h : p = 0
    · omega
    · have := hpl h; omega
  clear hp1 hp2 hp0 hD hDj hDk
  by_cases h4 : 4 < p
  · rw [if_pos h4]
    repeat' (first | refine sT ?_ | refine sS ?_ | refine sT2 ?_ | refine sN ?_ | refine sM fun _ => ?_ | (refine sC ?_ ?_ <;> intro hb <;> try omega) | exact cT | fail)
    all_goals first
      | (exfalso; omega)
      | (refine retctt (.inl rfl) rfl rfl pK rfl rfl rfl (MSub.nil _) ?_; exact ⟨rfl, ⟨1, 0, emptyB, zeroR, i⟩, _, rfl⟩)
  rw [if_neg h4]
  repeat' (first | refine sT ?_ | refine sS ?_ | refine sT2 ?_ | refine sN ?_ | refine sM fun _ => ?_ | (refine sC ?_ ?_ <;> intro hb <;> try omega) | exact cT | fail)
  all_goals first | (exfalso; omega) | skip
  refine w_loopK [0, 1, 4, 7, 8, 9] rfl (fun q : ByteArray × Nat => [(10, .string q.1)]) (fun _ => [.box g7 216 (encTk ⟨1, 0, emptyB, zeroR, i⟩), .box g4 216 (encTk zeroTk)]) (fun q => ints q.1 = ((ints a).drop (i + j + 1)).take p ++ List.replicate q.2 48 ∧ p + q.2 ≤ 4 ∧ q.1.size = p + q.2) (fun q => 4 - q.2) (pl, 0) ⟨by rw [hpl2]; simp, by dsimp only; omega, hps⟩ sB mS ?_
  rintro ⟨q, z⟩ ⟨hq1, hq2, hq3⟩
  dsimp only at hq1 hq2 hq3 ⊢
  by_cases hz : p + z < 4
  · obtain ⟨B, hB⟩ : ∃ B, B = q ++ ({ data := #[48] } : ByteArray) := ⟨_, rfl⟩
    have hB1 : ints B = ((ints a).drop (i + j + 1)).take p ++ List.replicate (z + 1) 48 := by
      rw [hB, ints_append, hq1, List.replicate_succ', List.append_assoc]; rfl
    have hB2 : B.size = p + (z + 1) := by
      rw [hB, ByteArray.size_append, hq3]; rfl
    repeat' (first | ((with_reducible apply wl_v (d := 63)); exact rfl; (with_reducible apply v_adds_to (c := B)); exact rfl; exact rfl; exact hB.symm; (simp only [hq3]; have : ({ data := #[48] } : ByteArray).size = 1 := rfl; omega)) | refine sT ?_ | refine sS ?_ | refine sT2 ?_ | refine sN ?_ | refine sM fun _ => ?_ | (refine sC ?_ ?_ <;> intro hb <;> try omega) | exact cT | fail)
    all_goals first
      | (exfalso; omega)
      | exact ⟨(B, z + 1), ⟨hB1, by dsimp only; omega, hB2⟩, by dsimp only; omega, sB, sB, .refl _⟩
  have ez : z = 4 - p := by omega
  subst ez
  obtain ⟨X, hX⟩ : ∃ X, X = sub a i (i + j) ++ q := ⟨_, rfl⟩
  obtain ⟨D, hD⟩ : ∃ D, D = ((ints a).drop i).take j ++ ((ints a).drop (i + j + 1)).take p ++ List.replicate (4 - p) 48 := ⟨_, rfl⟩
  have hXD : ints X = D := by
    rw [hX, ints_append, ints_sub, hq1, hD, ← List.append_assoc]
    congr 3; omega
  rw [← hD]
  have hsz1 : (sub a i (i + j)).size = j := by rw [sub_size a (by omega)]; omega
  have hXs : X.size = j + 4 := by rw [hX, ByteArray.size_append, hsz1, hq3]; omega
  have hDl : D.length = j + 4 := by rw [← hXD, ints_length, hXs]
  have hdig : ∀ (k : Nat) c, D[k]? = some c → 48 ≤ c ∧ c ≤ 57 := fun k c hk => by
    have hc := List.mem_of_getElem? hk
    rw [hD, List.mem_append, List.mem_append] at hc
    refine (digC_iff c).1 ?_
    rcases hc with (hc | hc) | hc
    · exact runL_mem hW1.symm hc
    · by_cases h0 : p = 0
      · rw [h0] at hc; simp at hc
      · obtain ⟨r, hr, hr2⟩ := placesL_pos (l := (ints a).drop (i + j)) (by rw [hp]; exact h0)
        rw [hp] at hr2
        have : (ints a).drop (i + j + 1) = r := by rw [← List.drop_drop, hr]; rfl
        rw [this] at hc
        exact runL_mem hr2 hc
    · rw [List.eq_of_mem_replicate hc]; rfl
  repeat' (first | ((with_reducible apply wl_v (d := 66)); exact rfl; (with_reducible apply v_adds_to (c := X)); exact rfl; exact rfl; exact hX.symm; omega) | refine sT ?_ | refine sS ?_ | refine sT2 ?_ | refine sN ?_ | refine sM fun _ => ?_ | (refine sC ?_ ?_ <;> intro hb <;> try omega) | exact cT | fail)
  all_goals first | (exfalso; omega) | skip
  have hge := natOf_ge_take hdig
  refine w_loopK [0, 1, 4, 7, 8, 12] rfl (fun k : Nat => [(13, .int .i64 (k : Int))]) (fun k => [.box g7 216 (encTk ⟨1, natOf (D.take k) 0, emptyB, zeroR, i⟩), .box g4 216 (encTk zeroTk)]) (fun k => k ≤ j + 4 ∧ natOf (D.take k) 0 ≤ mostI) (fun k => j + 4 - k) 0 ⟨by omega, by rw [List.take_zero]; decide⟩ sB mS ?_
  rintro k ⟨hk1, hk2⟩
  have hgk := hge k
  by_cases hkl : k < j + 4
  · obtain ⟨c, hc⟩ : ∃ c, D[k]? = some c := ⟨_, List.getElem?_eq_getElem (by omega)⟩
    have hcd := hdig k c hc
    have hbc : bat X k = c := by
      have := bat_get (a := X) (i := k) (by omega)
      rw [hXD, hc] at this
      exact (Option.some.inj this).symm
    have hnx := natOf_take hc
    have hgk1 := hge (k + 1)
    obtain ⟨V, hV⟩ : ∃ V, natOf (D.take k) 0 = V := ⟨_, rfl⟩
    rw [hV] at hk2 hgk hnx ⊢
    have hq10 : IntKind.i64.wrap ((9223372036854775807 - (c - 48)).tdiv 10) = (9223372036854775807 - (c - 48)) / 10 := by
      rw [Int.tdiv_eq_ediv_of_nonneg (by omega)]
      exact I64.wrap ⟨by omega, by omega⟩
    rw [show encTk ⟨1, V, emptyB, zeroR, i⟩ = [.int .u8 1, .int .i64 V, .string emptyB, .int .i64 0, .int .i64 0, .int .i64 0, .int .i64 0, .int .i64 (i : Int)] from rfl]
    repeat' (first | ((with_reducible apply wl_v (d := 75)); exact rfl; (with_reducible apply v_idx (j := k)); exact rfl; exact rfl; omega) | (rw [hbc]) | ((with_reducible apply wl_v (d := 76)); exact rfl; (with_reducible apply v_subw_id (c := c - 48)); exact rfl; exact rfl; (exact wrap_u8 (by omega) (by omega))) | ((with_reducible apply wl_v (d := 77)); exact rfl; (with_reducible apply v_conv_to (c := c - 48)); exact rfl; exact I64.wrap ⟨by omega, by omega⟩) | ((with_reducible apply wl_v (d := 81)); exact rfl; (with_reducible apply v_sub); exact rfl; exact rfl; exact ⟨by omega, by omega⟩) | ((with_reducible apply wl_v (d := 82)); exact rfl; (with_reducible apply v_quo_to); exact rfl; exact rfl; exact (by decide); exact hq10) | ((with_reducible apply wl_v (d := 87)); exact rfl; (with_reducible apply v_mul); exact rfl; exact rfl; exact ⟨by omega, by omega⟩) | ((with_reducible apply wl_v (d := 89)); exact rfl; (with_reducible apply v_add); exact rfl; exact rfl; exact ⟨by omega, by omega⟩) | refine sT ?_ | refine sS ?_ | refine sT2 ?_ | refine sN ?_ | refine sM fun _ => ?_ | (refine sC ?_ ?_ <;> intro hb <;> try omega) | exact cT | fail)
    all_goals first
      | (rw [if_pos (show mostI < natOf D 0 by omega)]; refine retctt (.inl rfl) rfl rfl pK rfl rfl rfl (MSub.nil _) ?_; exact ⟨rfl, ⟨1, V, emptyB, zeroR, i⟩, _, rfl⟩)
      | (have hle : 10 * V + (c - 48) ≤ mostI := (by omega)
         rw [← hnx] at hle
         refine ⟨k + 1, ⟨by omega, hle⟩, by omega, sB, sB, ?_⟩
         rw [hnx]
         exact mS)
  · have ek : k = j + 4 := by omega
    subst ek
    rw [List.take_of_length_le (by omega)] at hk2 hgk ⊢
    repeat' (first | refine sT ?_ | refine sS ?_ | refine sT2 ?_ | refine sN ?_ | refine sM fun _ => ?_ | (refine sC ?_ ?_ <;> intro hb <;> try omega) | exact cT | fail)
    all_goals first
      | (exfalso; omega)
      | (rw [if_neg (by omega), hE]; refine retctt (.inl rfl) rfl rfl pK rfl rfl rfl (MSub.nil _) ?_; exact ⟨rfl, rfl⟩)
theorem bat_none {a:ByteArray} {i:Nat} (h:a.size≤i):(ints a).drop i= []:=List.drop_of_length_le (by rw [ints_length];exact h)
set_option maxHeartbeats 2000000 in
theorem refText_at (a:ByteArray) (ha:a.size≤256) (i:Nat) (hi:i<a.size) (w:World):
  FnAt Tryz.prog 249 [.string a,.int .i64 (i:Int)] w fun v H=>H= []∧TokR i ((textL ((ints a).drop (i+1))).map fun x=>(⟨2,0,mkB x.1,zeroR,0⟩,x.2+1)) v:=by
 refine fn_at Tryz.func249 rfl Tryz.ntmps249 rfl ?_
 have hl:=ints_length a
 obtain ⟨X,hX⟩: ∃ X,textL ((ints a).drop (i+1))=X:=⟨_,rfl⟩
 rw [hX]
 repeat' (first|refine sT ?_|refine sS ?_|refine sT2 ?_|refine sN ?_|refine sM fun _=> ?_|(refine sC ?_ ?_<;>intro hb<;>try omega)|fail)
 rename_i g4 g7
 refine w_loopK [0,1,4,7] rfl (fun x:Nat × ByteArray=> [(8,.int .i64 (x.1:Int))]) (fun x=> [.box g7 216 (encTk ⟨2,0,x.2,zeroR,i⟩),.box g4 216 (encTk zeroTk)]) (fun x=>i+1≤x.1∧x.1≤a.size∧x.2.size≤x.1∧X=(textL ((ints a).drop x.1)).map fun y=>(ints x.2++y.1,y.2+(x.1 - (i+1)))) (fun x=>a.size - x.1) (i+1,emptyB) ⟨Nat.le_refl _,hi,Nat.zero_le _,by rw [hX];cases X<;>simp [ints_empty]⟩ sB mS ?_
 rintro ⟨k,T⟩ ⟨hk1,hk2,hT,hXk⟩
 dsimp only at hk1 hk2 hT hXk ⊢
 rw [show encTk ⟨2,0,T,zeroR,i⟩= [.int .u8 2,.int .i64 0,.string T,.int .i64 0,.int .i64 0,.int .i64 0,.int .i64 0,.int .i64 (i:Int)] from rfl]
 by_cases hend:k=a.size
 ·
  subst hend
  rw [bat_none (Nat.le_refl _)] at hXk
  simp only [textL,Option.map_none] at hXk
  subst hXk
  repeat' (first|refine sT ?_|refine sS ?_|refine sT2 ?_|refine sN ?_|refine sM fun _=> ?_|(refine sC ?_ ?_<;>intro hb<;>try omega)|fail)
  all_goals first
   |(exfalso;omega)
   |((refine eRCTT ?_);exact ⟨rfl,⟨2,0,T,zeroR,i⟩,_,rfl⟩)
 have hlt:k<a.size:=by omega
 rw [bat_drop hlt,textL.eq_def] at hXk
 dsimp only at hXk
 obtain ⟨T1,hT1⟩: ∃ T1,T1=T++sub a k (k+1):=⟨_,rfl⟩
 obtain ⟨T2,hT2⟩: ∃ T2,T2=T++({ data:= #[34] }:ByteArray):=⟨_,rfl⟩
 have hs1:(sub a k (k+1)).size=1:=by rw [sub_size a (by omega)];omega
 have hs2:({ data:= #[34] }:ByteArray).size=1:=rfl
 have hT1s:T1.size=T.size+1:=by rw [hT1,ByteArray.size_append,hs1]
 have hT2s:T2.size=T.size+1:=by rw [hT2,ByteArray.size_append,hs2]
 have hT1i:ints T1=ints T++ [bat a k]:=by rw [hT1,ints_append,ints_sub,bat_drop hlt,show k+1 - k=1 by omega];rfl
 have hT2i:ints T2=ints T++ [34]:=by rw [hT2,ints_append];rfl
 repeat' (first|(refine w_drawC (id:=6) [9] [1] [Blk.box g4 216 (encTk zeroTk)] (by kernel_rfl) (by kernel_rfl) (by kernel_rfl) mS ?_)|((with_reducible apply wl_v);exact rfl;(with_reducible apply v_idx (j:=k));exact rfl;exact rfl;omega)|((with_reducible apply wl_v);exact rfl;(with_reducible apply v_idx (j:=k+1));exact rfl;exact rfl;omega)|((with_reducible apply wc_v (d:=29));(iterate 3 exact rfl);(with_reducible apply v_sub2 (lo:=k) (hi:=k+1));(iterate 3 exact rfl);exact ⟨by omega,by omega⟩)|((with_reducible apply wc_v (d:=30));(iterate 3 exact rfl);(with_reducible apply v_adds_to (c:=T1));exact rfl;exact rfl;exact hT1.symm;omega)|((with_reducible apply wl_v (d:=46));exact rfl;(with_reducible apply v_adds_to (c:=T2));exact rfl;exact rfl;exact hT2.symm;omega)|refine sT ?_|refine sS ?_|refine sW ?_|refine sT2 ?_|refine sW2 ?_|refine sN ?_|refine sWN ?_|refine sM fun _=> ?_|(refine sC ?_ ?_<;>intro hb<;>try omega)|(refine sCW ?_ ?_<;>intro hb<;>try omega)|fail)
 ·
  rw [if_pos (by assumption),Option.map_map] at hXk
  refine ⟨(k+1,T1),⟨by dsimp only;omega,hlt,by dsimp only;omega,?_⟩,by dsimp only;omega,sB,sB,by exact mS⟩
  rw [hXk]
  congr 1
  funext y
  simp only [Function.comp,hT1i,List.append_assoc,List.singleton_append]
  congr 1
  omega
 ·
  have h34:bat a (k+1)=34:=by assumption
  rw [if_neg (by assumption),bat_drop (by omega),h34] at hXk
  simp only [if_true,Option.map_map] at hXk
  refine ⟨(k+1+1,T2),⟨by dsimp only;omega,by dsimp only;omega,by dsimp only;omega,?_⟩,by dsimp only;omega,sB,sB,by exact mS⟩
  rw [hXk]
  congr 1
  funext y
  simp only [Function.comp,hT2i,List.append_assoc,List.singleton_append]
  congr 1
  omega
 ·
  have h34: ¬ bat a (k+1)=34:=by assumption
  rw [if_neg (by assumption),bat_drop (by omega)] at hXk
  simp only [if_neg h34,Option.map_some,List.append_nil] at hXk
  subst hXk
  (refine eRCTT ?_)
  refine ⟨rfl,?_⟩
  simp only [Option.map_some,TokR,mkB_ints]
  rw [show i+(1+(k - (i+1))+1)=k+1 by omega]
  rfl
 ·
  rw [if_neg (by assumption),bat_none (by omega)] at hXk
  simp only [Option.map_some,List.append_nil] at hXk
  subst hXk
  (refine eRCTT ?_)
  refine ⟨rfl,?_⟩
  simp only [Option.map_some,TokR,mkB_ints]
  rw [show i+(1+(k - (i+1))+1)=k+1 by omega]
  rfl
theorem hd_bat {a:ByteArray} {i:Nat}:((ints a).drop i).headD 0=bat a i:=by
 by_cases h:i<a.size
 ·
  rw [bat_drop h];rfl
 ·
  rw [bat_none (by omega),bat_out (by omega)];rfl
theorem refWordEnd_at (a:ByteArray) (ha:a.size≤256) (i:Nat) (hi:i≤a.size) (w:World):Pure Tryz.prog 267 [.string a,.int .i64 (i:Int)] w (.int .i64 ((i+runL wrdC ((ints a).drop i):Nat):Int)):=by
 refine fn_at Tryz.func267 rfl Tryz.ntmps267 rfl ?_
 have hl:=ints_length a
 obtain ⟨X,hX⟩: ∃ X,i+runL wrdC ((ints a).drop i)=X:=⟨_,rfl⟩
 rw [hX]
 repeat' (first|refine sT ?_|refine sS ?_|refine sM fun _=> ?_|(refine sC ?_ ?_<;>intro hb<;>try omega)|fail)
 refine w_loopK [0] rfl (fun j:Nat=> [(1,.int .i64 (j:Int))]) (fun _=> []) (fun j=>j≤a.size∧X=j+runL wrdC ((ints a).drop j)) (fun j=>a.size - j) i ⟨hi,hX.symm⟩ sB (.refl _) ?_
 rintro j ⟨hj,hx⟩
 have hL:=fun w=>refLetter_at a (by omega) j w
 have hD:=fun w=>refDigit_at a (by omega) j w
 by_cases hw:wrdC (bat a j)=true
 ·
  have hlt:j<a.size:=by
   rcases Nat.lt_or_ge j a.size with h|h
   ·
    exact h
   ·
    rw [bat_out h] at hw;cases hw
  rw [runL_at hlt,if_pos hw] at hx
  obtain ⟨b1,hb1⟩: ∃ b,letC (bat a j)=b:=⟨_,rfl⟩
  obtain ⟨b2,hb2⟩: ∃ b,digC (bat a j)=b:=⟨_,rfl⟩
  rw [hb1] at hL;rw [hb2] at hD
  have h12:(b1||b2)=true:=by rw [← hb1,← hb2];exact hw
  cases b1<;>cases b2<;>first|(exact absurd h12 (by decide))|skip
  all_goals
   repeat' (first|((with_reducible apply wl_callp (f:=250));exact rfl;exact rfl;(intro w' hm;exact hL w'))|((with_reducible apply wl_callp (f:=247));exact rfl;exact rfl;(intro w' hm;exact hD w'))|refine sT ?_|refine sS ?_|refine sN ?_|refine sM fun _=> ?_|(refine sC ?_ ?_<;>intro hb<;>try omega)|fail)
   exact ⟨j+1,⟨hlt,by omega⟩,by omega,sB,sB,.nil _⟩
 ·
  have hr:runL wrdC ((ints a).drop j)=0:=by
   by_cases hlt:j<a.size
   ·
    rw [runL_at hlt,if_neg hw]
   ·
    rw [bat_none (by omega)];rfl
  rw [hr,Nat.add_zero] at hx
  subst hx
  have h1:letC (bat a X)=false:=by unfold wrdC at hw;revert hw;cases letC (bat a X)<;>simp
  have h2:digC (bat a X)=false:=by unfold wrdC at hw;revert hw;cases digC (bat a X)<;>simp
  rw [h1] at hL;rw [h2] at hD
  repeat' (first|((with_reducible apply wl_callp (f:=250));exact rfl;exact rfl;(intro w' hm;exact hL w'))|((with_reducible apply wl_callp (f:=247));exact rfl;exact rfl;(intro w' hm;exact hD w'))|(refine rT1 ?_)|refine sT ?_|refine sS ?_|refine sN ?_|refine sM fun _=> ?_|(refine sC ?_ ?_<;>intro hb<;>try omega)|fail)
  rfl
theorem sub_word (a:ByteArray) (i W:Nat):ints (sub a i (i+W))=((ints a).drop i).take W:=by
 rw [ints_sub];congr 1;omega
def adrR (a:ByteArray) (i:Nat):Value:=
 if letC (bat a i)=false then .tuple #[.agg (encF ⟨0,0⟩).toArray,.int .i64 0,.bool false]
 else .tuple #[.agg (encF ⟨(addrL (upW ((ints a).drop i))).1,(addrL (upW ((ints a).drop i))).2.1⟩).toArray,.int .i64 ((i+runL wrdC ((ints a).drop i):Nat):Int),.bool (decide ((addrL (upW ((ints a).drop i))).2.2=0∧bat a (i+runL wrdC ((ints a).drop i))≠40))]
set_option maxHeartbeats 1000000 in
theorem refAddress_at (a:ByteArray) (ha:a.size≤256) (i:Nat) (hi:i≤a.size) (w:World):Pure Tryz.prog 268 [.string a,.int .i64 (i:Int)] w (adrR a i):=by
 refine fn_at Tryz.func268 rfl Tryz.ntmps268 rfl ?_
 have hl:=ints_length a
 have hL:=fun w=>refLetter_at a (by omega) i w
 have hW:=fun w=>refWordEnd_at a ha i hi w
 obtain ⟨W,hWe⟩: ∃ W,runL wrdC ((ints a).drop i)=W:=⟨_,rfl⟩
 have hWl:i+W≤a.size:=by
  have:=runL_le wrdC ((ints a).drop i)
  rw [List.length_drop] at this
  omega
 have hP:=fun w=>refAddr_at (sub a i (i+W)) (by rw [sub_size a (by omega)];omega) w
 rw [sub_word] at hP
 unfold adrR
 rw [addrW]
 rw [hWe] at hW ⊢
 obtain ⟨c,r,e,hA⟩: ∃ c r e,addrL (((ints a).drop i).take W)=(c,r,e):=⟨_,_,_,rfl⟩
 rw [hA] at hP ⊢
 dsimp only at hP ⊢
 obtain ⟨b,hb⟩: ∃ b,letC (bat a i)=b:=⟨_,rfl⟩
 rw [hb] at hL ⊢
 have hout:a.size≤i+W→bat a (i+W)≠40:=fun h=>by rw [bat_out h];decide
 cases b with
 |false=>
  repeat' (first|((with_reducible apply wl_callp (f:=250));exact rfl;exact rfl;(intro w' hm;exact hL w'))|refine sT ?_|refine sS ?_|refine sT2 ?_|refine sN ?_|refine sM fun _=> ?_|(refine sC ?_ ?_<;>intro hb<;>try omega)|fail)
  all_goals ((refine eRCTT ?_);rfl)
 |true=>
  rw [if_neg (by simp)]
  repeat' (first|((with_reducible apply wl_callp (f:=250));exact rfl;exact rfl;(intro w' hm;exact hL w'))|((with_reducible apply wl_callp (f:=267));exact rfl;exact rfl;(intro w' hm;exact hW w'))|((with_reducible apply wl_callp (f:=284));exact rfl;exact rfl;(intro w' hm;exact hP w'))|((with_reducible apply wl_v (d:=22));exact rfl;(with_reducible apply v_sub2 (lo:=i) (hi:=i+W));(iterate 3 exact rfl);exact ⟨by omega,by omega⟩)|(rename_i g4 g8;refine w_drawC (id:=5) [16] [] [Blk.box g8 38 (encF ⟨c,r⟩)] (by kernel_rfl) (by kernel_rfl) (by kernel_rfl) mS ?_)|((with_reducible apply wc_v (d:=38));(iterate 3 exact rfl);(with_reducible apply v_idx (j:=i+W));exact rfl;exact rfl;omega)|refine sT ?_|refine sS ?_|refine sW ?_|refine sT2 ?_|refine sW2 ?_|refine sN ?_|refine sWN ?_|refine sM fun _=> ?_|(refine sC ?_ ?_<;>intro hb<;>try omega)|(refine sCW ?_ ?_<;>intro hb<;>try omega)|fail)
  ·
   (refine eRCTT ?_)
   rw [decide_eq_true (show e=0∧bat a (i+W)≠40 from ⟨by assumption,hout (by omega)⟩)]
   rfl
  ·
   (refine eRCTT ?_)
   have he:e=0:=by assumption
   subst he
   simp only [true_and]
   rfl
  ·
   (refine eRCTT ?_)
   rw [decide_eq_false (show ¬ (e=0∧bat a (i+W)≠40) from fun h=>absurd h.1 (by assumption))]
   rfl
set_option maxHeartbeats 1000000 in
theorem refWord_at (a : ByteArray) (ha : a.size ≤ 256) (i : Nat) (hi : i < a.size) (hli : letC (bat a i) = true) (w : World) : FnAt Tryz.prog 251 [.string a, .int .i64 (i : Int)] w fun v H => H = [] ∧ TokR i (wordI ((ints a).drop i)) v := by
  refine fn_at Tryz.func251 rfl Tryz.ntmps251 rfl ?_
  have hl := ints_length a
  have hW := fun w => refWordEnd_at a ha i (by omega) w
  obtain ⟨W, hWe⟩ : ∃ W, runL wrdC ((ints a).drop i) = W := ⟨_, rfl⟩
  have hWl : i + W ≤ a.size := by
    have := runL_le wrdC ((ints a).drop i)
    rw [List.length_drop] at this
    omega
  have hA1 := fun w => refAddress_at a ha i (by omega) w
  have hA2 := fun (h : i + W < a.size) w => refAddress_at a ha (i + W + 1) h w
  have hU := fun w => refUpper_at (sub a i (i + W)) (by rw [sub_size a (by omega)]; omega) w
  obtain ⟨U, hUe⟩ : ∃ U, upB (sub a i (i + W)) = U := ⟨_, rfl⟩
  have hUm : mkB (upW ((ints a).drop i)) = U := by
    rw [← hUe, upW_eq, hWe, ← mkB_ints (upB _), ints_upB, sub_word]
  have hl0 : ((ints a).drop i).headD 0 = bat a i := hd_bat
  have hl1 : (((ints a).drop i).drop W).headD 0 = bat a (i + W) := by rw [List.drop_drop, hd_bat]
  have hd2 : ((ints a).drop i).drop (W + 1) = (ints a).drop (i + W + 1) := by rw [List.drop_drop, Nat.add_assoc]
  have hl2 : ((ints a).drop (i + W + 1)).headD 0 = bat a (i + W + 1) := hd_bat
  obtain ⟨W2, hW2⟩ : ∃ W2, runL wrdC ((ints a).drop (i + W + 1)) = W2 := ⟨_, rfl⟩
  have hl3 : (((ints a).drop i).drop (W + 1 + W2)).headD 0 = bat a (i + W + 1 + W2) := by rw [List.drop_drop, hd_bat]; congr 1; omega
  have hW2l : i + W < a.size → i + W + 1 + W2 ≤ a.size := fun h => by
    have := runL_le wrdC ((ints a).drop (i + W + 1))
    rw [List.length_drop] at this
    omega
  unfold wordI
  unfold adrR at hA1 hA2
  rw [hl0, hli, if_neg (by simp)]
  rw [hWe] at hW hA1 ⊢
  rw [hd2, hl1, hl2, hW2, hl3]
  rw [hli, if_neg (by simp)] at hA1
  rw [hW2] at hA2
  rw [hUm]
  rw [hUe] at hU
  obtain ⟨c1, r1, e1, hx1⟩ : ∃ c r e, addrL (upW ((ints a).drop i)) = (c, r, e) := ⟨_, _, _, rfl⟩
  obtain ⟨c2, r2, e2, hx2⟩ : ∃ c r e, addrL (upW ((ints a).drop (i + W + 1))) = (c, r, e) := ⟨_, _, _, rfl⟩
  rw [hx1] at hA1 ⊢
  rw [hx2] at hA2 ⊢
  dsimp only at hA1 hA2 ⊢
  have hout : a.size ≤ i + W → bat a (i + W) ≠ 40 ∧ bat a (i + W) ≠ 58 := fun h => by rw [bat_out h]; decide
  by_cases h40 : bat a (i + W) = 40
  · rw [if_pos h40]
    have hlt : i + W < a.size := by
      rcases Nat.lt_or_ge (i + W) a.size with h | h
      · exact h
      · exact absurd h40 (hout h).1
    repeat' (first | ((with_reducible apply wl_callp (f := 267)); exact rfl; exact rfl; (intro w' hm; exact hW w')) | ((with_reducible apply wl_callp (f := 166)); exact rfl; exact rfl; (intro w' hm; exact hU w')) | ((with_reducible apply wl_v (d := 22)); exact rfl; (with_reducible apply v_sub2 (lo := i) (hi := i + W)); (iterate 3 exact rfl); exact ⟨by omega, by omega⟩) | ((with_reducible apply wl_v (d := 31)); exact rfl; (with_reducible apply v_idx (j := i + W)); exact rfl; exact rfl; omega) | refine sT ?_ | refine sS ?_ | refine sT2 ?_ | refine sN ?_ | refine sM fun _ => ?_ | (refine sC ?_ ?_ <;> intro hb <;> try omega) | fail)
    all_goals
      first
      | (exfalso; omega)
      | ((refine eRCTT ?_); exact ⟨rfl, rfl⟩)
  rw [if_neg h40]
  clear hli hUm hUe hl0 hl1 hd2 hl2 hl3
  by_cases hT : U = trueB
  · rw [if_pos hT]
    subst hT
    repeat' (first | ((with_reducible apply wl_callp (f := 267)); exact rfl; exact rfl; (intro w' hm; exact hW w')) | ((with_reducible apply wl_callp (f := 166)); exact rfl; exact rfl; (intro w' hm; exact hU w')) | ((with_reducible apply wl_v (d := 22)); exact rfl; (with_reducible apply v_sub2 (lo := i) (hi := i + W)); (iterate 3 exact rfl); exact ⟨by omega, by omega⟩) | ((with_reducible apply wl_v (d := 31)); exact rfl; (with_reducible apply v_idx (j := i + W)); exact rfl; exact rfl; omega) | ((with_reducible apply wl_v (d := 70)); exact rfl; (with_reducible apply v_idx (j := i + W)); exact rfl; exact rfl; omega) | ((with_reducible apply wl_callp (d := 51)); exact rfl; exact rfl; (intro w' hm; exact hA1 w')) | ((with_reducible apply wl_callp (d := 76)); exact rfl; exact rfl; (intro w' hm; exact hA2 w')) | ((with_reducible apply wl_callp (f := 104)); exact rfl; exact rfl; (intro w' hm; exact refOne_at ⟨c1, r1⟩ w')) | ((with_reducible apply wl_v (d := 85)); exact rfl; exact min_ge _ _ ▸ v_min rfl rfl) | ((with_reducible apply wl_v (d := 90)); exact rfl; exact min_ge _ _ ▸ v_min rfl rfl) | ((with_reducible apply wl_v (d := 95)); exact rfl; exact max_ge _ _ ▸ v_max rfl rfl) | ((with_reducible apply wl_v (d := 100)); exact rfl; exact max_ge _ _ ▸ v_max rfl rfl) | ((with_reducible apply wl_v (d := 105)); exact rfl; exact v_neqF_to (a := ⟨c1, r1⟩) (b := ⟨c2, r2⟩) rfl rfl rfl) | refine sT ?_ | refine sS ?_ | refine sT2 ?_ | refine sN ?_ | refine sM fun _ => ?_ | (refine sC ?_ ?_ <;> intro hb <;> try omega) | fail)
    all_goals
      first
      | (exfalso; omega)
      | (exact absurd rfl (by assumption))
      | ((refine eRCTT ?_); exact ⟨rfl, rfl⟩)
  rw [if_neg hT]
  by_cases hF : U = falseB
  · rw [if_pos hF]
    subst hF
    repeat' (first | ((with_reducible apply wl_callp (f := 267)); exact rfl; exact rfl; (intro w' hm; exact hW w')) | ((with_reducible apply wl_callp (f := 166)); exact rfl; exact rfl; (intro w' hm; exact hU w')) | ((with_reducible apply wl_v (d := 22)); exact rfl; (with_reducible apply v_sub2 (lo := i) (hi := i + W)); (iterate 3 exact rfl); exact ⟨by omega, by omega⟩) | ((with_reducible apply wl_v (d := 31)); exact rfl; (with_reducible apply v_idx (j := i + W)); exact rfl; exact rfl; omega) | ((with_reducible apply wl_v (d := 70)); exact rfl; (with_reducible apply v_idx (j := i + W)); exact rfl; exact rfl; omega) | ((with_reducible apply wl_callp (d := 51)); exact rfl; exact rfl; (intro w' hm; exact hA1 w')) | ((with_reducible apply wl_callp (d := 76)); exact rfl; exact rfl; (intro w' hm; exact hA2 w')) | ((with_reducible apply wl_callp (f := 104)); exact rfl; exact rfl; (intro w' hm; exact refOne_at ⟨c1, r1⟩ w')) | ((with_reducible apply wl_v (d := 85)); exact rfl; exact min_ge _ _ ▸ v_min rfl rfl) | ((with_reducible apply wl_v (d := 90)); exact rfl; exact min_ge _ _ ▸ v_min rfl rfl) | ((with_reducible apply wl_v (d := 95)); exact rfl; exact max_ge _ _ ▸ v_max rfl rfl) | ((with_reducible apply wl_v (d := 100)); exact rfl; exact max_ge _ _ ▸ v_max rfl rfl) | ((with_reducible apply wl_v (d := 105)); exact rfl; exact v_neqF_to (a := ⟨c1, r1⟩) (b := ⟨c2, r2⟩) rfl rfl rfl) | refine sT ?_ | refine sS ?_ | refine sT2 ?_ | refine sN ?_ | refine sM fun _ => ?_ | (refine sC ?_ ?_ <;> intro hb <;> try omega) | fail)
    all_goals
      first
      | (exfalso; omega)
      | (exact absurd (by assumption) hT)
      | (exact absurd rfl (by assumption))
      | ((refine eRCTT ?_); exact ⟨rfl, rfl⟩)
  rw [if_neg hF]
  have hT' : ¬ U = ({ data := #[84, 82, 85, 69] } : ByteArray) := hT
  have hF' : ¬ U = ({ data := #[70, 65, 76, 83, 69] } : ByteArray) := hF
  simp only [ne_eq, h40, not_false_eq_true, and_true] at hA1
  by_cases he1 : e1 = 0
  · rw [if_neg (fun h => h he1)]
    rw [decide_eq_true he1] at hA1
    by_cases h58 : bat a (i + W) = 58
    · have hlt : i + W < a.size := by
        rcases Nat.lt_or_ge (i + W) a.size with h | h
        · exact h
        · exact absurd h58 (hout h).2
      replace hA2 := hA2 hlt
      by_cases hl2 : letC (bat a (i + W + 1)) = true
      · rw [hl2, if_neg (by simp)] at hA2
        by_cases hok : e2 = 0 ∧ bat a (i + W + 1 + W2) ≠ 40
        · rw [if_pos ⟨h58, hl2, hok⟩]
          rw [decide_eq_true hok] at hA2
          repeat' (first | ((with_reducible apply wl_callp (f := 267)); exact rfl; exact rfl; (intro w' hm; exact hW w')) | ((with_reducible apply wl_callp (f := 166)); exact rfl; exact rfl; (intro w' hm; exact hU w')) | ((with_reducible apply wl_v (d := 22)); exact rfl; (with_reducible apply v_sub2 (lo := i) (hi := i + W)); (iterate 3 exact rfl); exact ⟨by omega, by omega⟩) | ((with_reducible apply wl_v (d := 31)); exact rfl; (with_reducible apply v_idx (j := i + W)); exact rfl; exact rfl; omega) | ((with_reducible apply wl_v (d := 70)); exact rfl; (with_reducible apply v_idx (j := i + W)); exact rfl; exact rfl; omega) | ((with_reducible apply wl_callp (d := 51)); exact rfl; exact rfl; (intro w' hm; exact hA1 w')) | ((with_reducible apply wl_callp (d := 76)); exact rfl; exact rfl; (intro w' hm; exact hA2 w')) | ((with_reducible apply wl_callp (f := 104)); exact rfl; exact rfl; (intro w' hm; exact refOne_at ⟨c1, r1⟩ w')) | ((with_reducible apply wl_v (d := 85)); exact rfl; exact min_ge _ _ ▸ v_min rfl rfl) | ((with_reducible apply wl_v (d := 90)); exact rfl; exact min_ge _ _ ▸ v_min rfl rfl) | ((with_reducible apply wl_v (d := 95)); exact rfl; exact max_ge _ _ ▸ v_max rfl rfl) | ((with_reducible apply wl_v (d := 100)); exact rfl; exact max_ge _ _ ▸ v_max rfl rfl) | ((with_reducible apply wl_v (d := 105)); exact rfl; exact v_neqF_to (a := ⟨c1, r1⟩) (b := ⟨c2, r2⟩) rfl rfl rfl) | refine sT ?_ | refine sS ?_ | refine sT2 ?_ | refine sN ?_ | refine sM fun _ => ?_ | (refine sC ?_ ?_ <;> intro hb <;> try omega) | fail)
          all_goals
            first
            | (exfalso; omega)
            | (exact absurd (by assumption) hT')
            | (exact absurd (by assumption) hF')
            | ((refine eRCTT ?_); exact ⟨rfl, zeroTk, _, rfl⟩)
            | ((refine eRCTT ?_); exact ⟨rfl, rfl⟩)
            | ((refine eRCTT ?_)
               refine ⟨rfl, ?_⟩
               have hne : ¬ (c1 = c2 ∧ r1 = r2) := fun h => (by assumption : (⟨c1, r1⟩ : Rf) ≠ ⟨c2, r2⟩) (by rw [h.1, h.2])
               simp only [TokR, if_neg hne]
               rw [show i + (W + 1 + W2) = i + W + 1 + W2 by omega]
               rfl)
            | ((refine eRCTT ?_)
               refine ⟨rfl, ?_⟩
               have heq : c1 = c2 ∧ r1 = r2 := by
                 have : (⟨c1, r1⟩ : Rf) = ⟨c2, r2⟩ := Classical.not_not.1 (by assumption)
                 cases this
                 exact ⟨rfl, rfl⟩
               simp only [TokR, if_pos heq]
               rw [show i + (W + 1 + W2) = i + W + 1 + W2 by omega]
               rfl)
        · rw [if_neg fun h => hok h.2.2]
          rw [decide_eq_false hok] at hA2
          repeat' (first | ((with_reducible apply wl_callp (f := 267)); exact rfl; exact rfl; (intro w' hm; exact hW w')) | ((with_reducible apply wl_callp (f := 166)); exact rfl; exact rfl; (intro w' hm; exact hU w')) | ((with_reducible apply wl_v (d := 22)); exact rfl; (with_reducible apply v_sub2 (lo := i) (hi := i + W)); (iterate 3 exact rfl); exact ⟨by omega, by omega⟩) | ((with_reducible apply wl_v (d := 31)); exact rfl; (with_reducible apply v_idx (j := i + W)); exact rfl; exact rfl; omega) | ((with_reducible apply wl_v (d := 70)); exact rfl; (with_reducible apply v_idx (j := i + W)); exact rfl; exact rfl; omega) | ((with_reducible apply wl_callp (d := 51)); exact rfl; exact rfl; (intro w' hm; exact hA1 w')) | ((with_reducible apply wl_callp (d := 76)); exact rfl; exact rfl; (intro w' hm; exact hA2 w')) | ((with_reducible apply wl_callp (f := 104)); exact rfl; exact rfl; (intro w' hm; exact refOne_at ⟨c1, r1⟩ w')) | ((with_reducible apply wl_v (d := 85)); exact rfl; exact min_ge _ _ ▸ v_min rfl rfl) | ((with_reducible apply wl_v (d := 90)); exact rfl; exact min_ge _ _ ▸ v_min rfl rfl) | ((with_reducible apply wl_v (d := 95)); exact rfl; exact max_ge _ _ ▸ v_max rfl rfl) | ((with_reducible apply wl_v (d := 100)); exact rfl; exact max_ge _ _ ▸ v_max rfl rfl) | ((with_reducible apply wl_v (d := 105)); exact rfl; exact v_neqF_to (a := ⟨c1, r1⟩) (b := ⟨c2, r2⟩) rfl rfl rfl) | refine sT ?_ | refine sS ?_ | refine sT2 ?_ | refine sN ?_ | refine sM fun _ => ?_ | (refine sC ?_ ?_ <;> intro hb <;> try omega) | fail)
          all_goals
            first
            | (exfalso; omega)
            | (exact absurd (by assumption) hT')
            | (exact absurd (by assumption) hF')
            | ((refine eRCTT ?_); exact ⟨rfl, zeroTk, _, rfl⟩)
            | ((refine eRCTT ?_); exact ⟨rfl, rfl⟩)
            | ((refine eRCTT ?_)
               refine ⟨rfl, ?_⟩
               have hne : ¬ (c1 = c2 ∧ r1 = r2) := fun h => (by assumption : (⟨c1, r1⟩ : Rf) ≠ ⟨c2, r2⟩) (by rw [h.1, h.2])
               simp only [TokR, if_neg hne]
               rw [show i + (W + 1 + W2) = i + W + 1 + W2 by omega]
               rfl)
            | ((refine eRCTT ?_)
               refine ⟨rfl, ?_⟩
               have heq : c1 = c2 ∧ r1 = r2 := by
                 have : (⟨c1, r1⟩ : Rf) = ⟨c2, r2⟩ := Classical.not_not.1 (by assumption)
                 cases this
                 exact ⟨rfl, rfl⟩
               simp only [TokR, if_pos heq]
               rw [show i + (W + 1 + W2) = i + W + 1 + W2 by omega]
               rfl)
      · rw [if_neg fun h => hl2 h.2.1]
        rw [if_pos (by simpa using hl2)] at hA2
        repeat' (first | ((with_reducible apply wl_callp (f := 267)); exact rfl; exact rfl; (intro w' hm; exact hW w')) | ((with_reducible apply wl_callp (f := 166)); exact rfl; exact rfl; (intro w' hm; exact hU w')) | ((with_reducible apply wl_v (d := 22)); exact rfl; (with_reducible apply v_sub2 (lo := i) (hi := i + W)); (iterate 3 exact rfl); exact ⟨by omega, by omega⟩) | ((with_reducible apply wl_v (d := 31)); exact rfl; (with_reducible apply v_idx (j := i + W)); exact rfl; exact rfl; omega) | ((with_reducible apply wl_v (d := 70)); exact rfl; (with_reducible apply v_idx (j := i + W)); exact rfl; exact rfl; omega) | ((with_reducible apply wl_callp (d := 51)); exact rfl; exact rfl; (intro w' hm; exact hA1 w')) | ((with_reducible apply wl_callp (d := 76)); exact rfl; exact rfl; (intro w' hm; exact hA2 w')) | ((with_reducible apply wl_callp (f := 104)); exact rfl; exact rfl; (intro w' hm; exact refOne_at ⟨c1, r1⟩ w')) | ((with_reducible apply wl_v (d := 85)); exact rfl; exact min_ge _ _ ▸ v_min rfl rfl) | ((with_reducible apply wl_v (d := 90)); exact rfl; exact min_ge _ _ ▸ v_min rfl rfl) | ((with_reducible apply wl_v (d := 95)); exact rfl; exact max_ge _ _ ▸ v_max rfl rfl) | ((with_reducible apply wl_v (d := 100)); exact rfl; exact max_ge _ _ ▸ v_max rfl rfl) | ((with_reducible apply wl_v (d := 105)); exact rfl; exact v_neqF_to (a := ⟨c1, r1⟩) (b := ⟨c2, r2⟩) rfl rfl rfl) | refine sT ?_ | refine sS ?_ | refine sT2 ?_ | refine sN ?_ | refine sM fun _ => ?_ | (refine sC ?_ ?_ <;> intro hb <;> try omega) | fail)
        all_goals
          first
          | (exfalso; omega)
          | (exact absurd (by assumption) hT')
          | (exact absurd (by assumption) hF')
          | ((refine eRCTT ?_); exact ⟨rfl, zeroTk, _, rfl⟩)
          | ((refine eRCTT ?_); exact ⟨rfl, rfl⟩)
          | ((refine eRCTT ?_)
             refine ⟨rfl, ?_⟩
             have hne : ¬ (c1 = c2 ∧ r1 = r2) := fun h => (by assumption : (⟨c1, r1⟩ : Rf) ≠ ⟨c2, r2⟩) (by rw [h.1, h.2])
             simp only [TokR, if_neg hne]
             rw [show i + (W + 1 + W2) = i + W + 1 + W2 by omega]
             rfl)
          | ((refine eRCTT ?_)
             refine ⟨rfl, ?_⟩
             have heq : c1 = c2 ∧ r1 = r2 := by
               have : (⟨c1, r1⟩ : Rf) = ⟨c2, r2⟩ := Classical.not_not.1 (by assumption)
               cases this
               exact ⟨rfl, rfl⟩
             simp only [TokR, if_pos heq]
             rw [show i + (W + 1 + W2) = i + W + 1 + W2 by omega]
             rfl)
    · rw [if_neg fun h => h58 h.1]
      repeat' (first | ((with_reducible apply wl_callp (f := 267)); exact rfl; exact rfl; (intro w' hm; exact hW w')) | ((with_reducible apply wl_callp (f := 166)); exact rfl; exact rfl; (intro w' hm; exact hU w')) | ((with_reducible apply wl_v (d := 22)); exact rfl; (with_reducible apply v_sub2 (lo := i) (hi := i + W)); (iterate 3 exact rfl); exact ⟨by omega, by omega⟩) | ((with_reducible apply wl_v (d := 31)); exact rfl; (with_reducible apply v_idx (j := i + W)); exact rfl; exact rfl; omega) | ((with_reducible apply wl_v (d := 70)); exact rfl; (with_reducible apply v_idx (j := i + W)); exact rfl; exact rfl; omega) | ((with_reducible apply wl_callp (d := 51)); exact rfl; exact rfl; (intro w' hm; exact hA1 w')) | ((with_reducible apply wl_callp (d := 76)); exact rfl; exact rfl; (intro w' hm; exact hA2 w')) | ((with_reducible apply wl_callp (f := 104)); exact rfl; exact rfl; (intro w' hm; exact refOne_at ⟨c1, r1⟩ w')) | ((with_reducible apply wl_v (d := 85)); exact rfl; exact min_ge _ _ ▸ v_min rfl rfl) | ((with_reducible apply wl_v (d := 90)); exact rfl; exact min_ge _ _ ▸ v_min rfl rfl) | ((with_reducible apply wl_v (d := 95)); exact rfl; exact max_ge _ _ ▸ v_max rfl rfl) | ((with_reducible apply wl_v (d := 100)); exact rfl; exact max_ge _ _ ▸ v_max rfl rfl) | ((with_reducible apply wl_v (d := 105)); exact rfl; exact v_neqF_to (a := ⟨c1, r1⟩) (b := ⟨c2, r2⟩) rfl rfl rfl) | refine sT ?_ | refine sS ?_ | refine sT2 ?_ | refine sN ?_ | refine sM fun _ => ?_ | (refine sC ?_ ?_ <;> intro hb <;> try omega) | fail)
      all_goals
        first
        | (exfalso; omega)
        | (exact absurd (by assumption) hT')
        | (exact absurd (by assumption) hF')
        | ((refine eRCTT ?_); exact ⟨rfl, zeroTk, _, rfl⟩)
        | ((refine eRCTT ?_); exact ⟨rfl, rfl⟩)
        | ((refine eRCTT ?_)
           refine ⟨rfl, ?_⟩
           have hne : ¬ (c1 = c2 ∧ r1 = r2) := fun h => (by assumption : (⟨c1, r1⟩ : Rf) ≠ ⟨c2, r2⟩) (by rw [h.1, h.2])
           simp only [TokR, if_neg hne]
           rw [show i + (W + 1 + W2) = i + W + 1 + W2 by omega]
           rfl)
        | ((refine eRCTT ?_)
           refine ⟨rfl, ?_⟩
           have heq : c1 = c2 ∧ r1 = r2 := by
             have : (⟨c1, r1⟩ : Rf) = ⟨c2, r2⟩ := Classical.not_not.1 (by assumption)
             cases this
             exact ⟨rfl, rfl⟩
           simp only [TokR, if_pos heq]
           rw [show i + (W + 1 + W2) = i + W + 1 + W2 by omega]
           rfl)
  · rw [if_pos he1]
    rw [decide_eq_false he1] at hA1
    repeat' (first | ((with_reducible apply wl_callp (f := 267)); exact rfl; exact rfl; (intro w' hm; exact hW w')) | ((with_reducible apply wl_callp (f := 166)); exact rfl; exact rfl; (intro w' hm; exact hU w')) | ((with_reducible apply wl_v (d := 22)); exact rfl; (with_reducible apply v_sub2 (lo := i) (hi := i + W)); (iterate 3 exact rfl); exact ⟨by omega, by omega⟩) | ((with_reducible apply wl_v (d := 31)); exact rfl; (with_reducible apply v_idx (j := i + W)); exact rfl; exact rfl; omega) | ((with_reducible apply wl_v (d := 70)); exact rfl; (with_reducible apply v_idx (j := i + W)); exact rfl; exact rfl; omega) | ((with_reducible apply wl_callp (d := 51)); exact rfl; exact rfl; (intro w' hm; exact hA1 w')) | ((with_reducible apply wl_callp (d := 76)); exact rfl; exact rfl; (intro w' hm; exact hA2 w')) | ((with_reducible apply wl_callp (f := 104)); exact rfl; exact rfl; (intro w' hm; exact refOne_at ⟨c1, r1⟩ w')) | ((with_reducible apply wl_v (d := 85)); exact rfl; exact min_ge _ _ ▸ v_min rfl rfl) | ((with_reducible apply wl_v (d := 90)); exact rfl; exact min_ge _ _ ▸ v_min rfl rfl) | ((with_reducible apply wl_v (d := 95)); exact rfl; exact max_ge _ _ ▸ v_max rfl rfl) | ((with_reducible apply wl_v (d := 100)); exact rfl; exact max_ge _ _ ▸ v_max rfl rfl) | ((with_reducible apply wl_v (d := 105)); exact rfl; exact v_neqF_to (a := ⟨c1, r1⟩) (b := ⟨c2, r2⟩) rfl rfl rfl) | refine sT ?_ | refine sS ?_ | refine sT2 ?_ | refine sN ?_ | refine sM fun _ => ?_ | (refine sC ?_ ?_ <;> intro hb <;> try omega) | fail)
    all_goals
      first
      | (exfalso; omega)
      | (exact absurd (by assumption) hT')
      | (exact absurd (by assumption) hF')
      | ((refine eRCTT ?_); exact ⟨rfl, zeroTk, _, rfl⟩)
      | ((refine eRCTT ?_); exact ⟨rfl, rfl⟩)
      | ((refine eRCTT ?_)
         refine ⟨rfl, ?_⟩
         have hne : ¬ (c1 = c2 ∧ r1 = r2) := fun h => (by assumption : (⟨c1, r1⟩ : Rf) ≠ ⟨c2, r2⟩) (by rw [h.1, h.2])
         simp only [TokR, if_neg hne]
         rw [show i + (W + 1 + W2) = i + W + 1 + W2 by omega]
         rfl)
      | ((refine eRCTT ?_)
         refine ⟨rfl, ?_⟩
         have heq : c1 = c2 ∧ r1 = r2 := by
           have : (⟨c1, r1⟩ : Rf) = ⟨c2, r2⟩ := Classical.not_not.1 (by assumption)
           cases this
           exact ⟨rfl, rfl⟩
         simp only [TokR, if_pos heq]
         rw [show i + (W + 1 + W2) = i + W + 1 + W2 by omega]
         rfl)
def opB (k:Int):ByteArray:=
 if k=1 then ⟨#[43]⟩ else if k=2 then ⟨#[45]⟩ else if k=3 then ⟨#[42]⟩ else if k=4 then ⟨#[47]⟩ else if k=5 then ⟨#[94]⟩ else if k=6 then ⟨#[38]⟩ else if k=7 then ⟨#[61]⟩
 else if k=8 then ⟨#[60,62]⟩ else if k=9 then ⟨#[60]⟩ else if k=10 then ⟨#[60,61]⟩ else if k=11 then ⟨#[62]⟩ else if k=12 then ⟨#[62,61]⟩ else if k=13 then ⟨#[37]⟩ else ⟨#[]⟩
theorem refOperator_at (k:Int) (w:World):Pure Tryz.prog 271 [.int .i64 k] w (.string (opB k)):=by
 refine fn_at Tryz.func271 rfl Tryz.ntmps271 rfl ?_
 repeat' (first|(refine rT1 ?_)|refine sT ?_|refine sS ?_|refine sM fun _=> ?_|(refine sC ?_ ?_<;>intro hb<;>try omega)|fail)
 all_goals
  unfold opB
  repeat (first|rw [if_pos (by assumption)]|rw [if_neg (by assumption)])
theorem refBegins_at (a:ByteArray) (ha:a.size≤256) (i:Nat) (hi:i≤a.size) (s:ByteArray) (hs:s.size≤1000) (w:World):Pure Tryz.prog 270 [.string a,.int .i64 (i:Int),.string s] w (.bool (decide ((((ints a).drop i).take s.size).map upC=ints s))):=by
 refine fn_at Tryz.func270 rfl Tryz.ntmps270 rfl ?_
 have hl:=ints_length a
 have hU:=fun h:i+s.size≤a.size=>fun w=>refUpper_at (sub a i (i+s.size)) (by rw [sub_size a h];omega) w
 repeat' (first|((with_reducible apply wl_callp (f:=166));exact rfl;exact rfl;(intro w' hm;exact hU (by omega) w'))|((with_reducible apply wl_v (d:=21));exact rfl;(with_reducible apply v_sub2 (lo:=i) (hi:=i+s.size));(iterate 3 exact rfl);exact ⟨by omega,by omega⟩)|(refine rT1 ?_)|refine sT ?_|refine sS ?_|refine sT2 ?_|refine sN ?_|refine sM fun _=> ?_|(refine sC ?_ ?_<;>intro hb<;>try omega)|fail)
 ·
  have:(upB (sub a i (i+s.size))=s)=((((ints a).drop i).take s.size).map upC=ints s):=by
   rw [eq_iff_iff]
   constructor
   ·
    intro h
    rw [← h,ints_upB,sub_word,h]
   ·
    intro h
    apply ints_inj
    rw [ints_upB,sub_word,h]
  simp only [this]
 ·
  rw [decide_eq_false]
  intro h
  have:=congrArg List.length h
  rw [List.length_map,List.length_take,List.length_drop,hl,ints_length] at this
  omega
end Go.SL
