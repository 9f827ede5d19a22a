/-
  Lemmas and walks, put together: R11 R12 Q6.
-/
import Derived.Test.YtpohljcebgacjaaGreatDoorKr23
set_option linter.unusedSimpArgs false
set_option linter.unusedVariables false
set_option maxRecDepth 20000
namespace Go.SL
open Go Go.Proofs
attribute [local irreducible] W WL WQ WG WA WX WLI WR WT WC VOp RW thn blk cutP scp retP retPP endB FnAt FnIn FnP ceP
def opsZ (z:Nat) (k:Nat):List (List Int × Int):=((List.range' k (14 - k)).map fun (j:Nat)=>(ints (opB (j:Int)),(j:Int))).filter fun x=>decide (x.1.length=z)
def opsR:Nat→List (List Int × Int)
 |0=> []
 |z+1=>opsZ (z+1) 1++opsR z
theorem opsR_all:opsR 2=opNames:=by decide+kernel
theorem opsZ_step {z k:Nat} (h:k≤13):opsZ z k=if (opB (k:Int)).size=z then (ints (opB (k:Int)),(k:Int))::opsZ z (k+1) else opsZ z (k+1):=by
 unfold opsZ
 rw [show 14 - k=(13 - k)+1 by omega,List.range'_succ,List.map_cons,List.filter_cons,show 14 - (k+1)=13 - k by omega]
 simp only [ints_length,decide_eq_true_eq]
theorem opsZ_end (z:Nat):opsZ z 14= []:=rfl
theorem opL_app {l:List Int} {s:List Int} {k:Int} {r:List (List Int × Int)} (h:l.take s.length=s):opL l ((s,k)::r)=some (k,s.length):=by
 rw [opL,if_pos h]
theorem opB_up (k:Nat) (h:k≤13): ∀ c∈ints (opB (k:Int)),¬ (65≤c∧c≤90)∧ ¬ (97≤c∧c≤122):=by
 rcases (by omega:k=0∨k=1∨k=2∨k=3∨k=4∨k=5∨k=6∨k=7∨k=8∨k=9∨k=10∨k=11∨k=12∨k=13) with rfl|rfl|rfl|rfl|rfl|rfl|rfl|rfl|rfl|rfl|rfl|rfl|rfl|rfl<;>decide+kernel
theorem up_same {s:List Int} (hs: ∀ c∈s,¬ (65≤c∧c≤90)∧ ¬ (97≤c∧c≤122)): ∀ l:List Int,l.map upC=s↔l=s:=by
 induction s with
 |nil=>intro l;simp
 |cons d s ih=>
  intro l
  cases l with
  |nil=>simp
  |cons c l=>
   simp only [List.map_cons,List.cons.injEq,ih (fun c hc=>hs c (List.mem_cons_of_mem _ hc)) l]
   have hd:=hs d List.mem_cons_self
   have:upC c=d↔c=d:=by
    unfold upC
    split<;>omega
   rw [this]
theorem wordsB_names {k:Nat} (h:k<5):ints (wordsB.getD (k+1) emptyB)=errNames.getD k []∧errNames.drop k=errNames.getD k []::errNames.drop (k+1)∧(wordsB.getD (k+1) emptyB).size≤10:=by
 rcases (by omega:k=0∨k=1∨k=2∨k=3∨k=4) with rfl|rfl|rfl|rfl|rfl<;>decide+kernel
set_option maxHeartbeats 2000000 in
theorem refSign_at (a : ByteArray) (ha : a.size ≤ 256) (i : Nat) (hi : i < a.size) (w : World) : FnAt Tryz.prog 252 [.string a, .int .i64 (i : Int)] w fun v H => H = [] ∧ TokR i (signR ((ints a).drop i)) v := by
  refine fn_at Tryz.func252 rfl Tryz.ntmps252 rfl ?_
  have hl := ints_length a
  have hh : ((ints a).drop i).headD 0 = bat a i := hd_bat
  have hB := fun s hs w => refBegins_at a ha i (by omega) s hs w
  obtain ⟨l, hll⟩ : ∃ l, (ints a).drop i = l := ⟨_, rfl⟩
  rw [hll] at hh hB ⊢
  obtain ⟨F, hF⟩ : ∃ F, failL l errNames 1 = F := ⟨_, rfl⟩
  repeat' (first | refine sT ?_ | refine sS ?_ | refine sT2 ?_ | refine sM fun _ => ?_ | (refine sC ?_ ?_ <;> intro hb <;> try omega) | fail)
  rename_i g4
  refine w_loopK [0, 1, 4] rfl (fun k : Nat => [(7, .int .i64 ((k + 1 : Nat) : Int))]) (fun _ => [.box g4 216 (encTk zeroTk)]) (fun k => k ≤ 5 ∧ F = failL l (errNames.drop k) ((k + 1 : Nat) : Int)) (fun k => 5 - k) 0 ⟨by omega, hF.symm⟩ sB mS ?_
  rintro k ⟨hk, hFk⟩
  by_cases hk5 : k < 5
  · obtain ⟨hn1, hn2, hn3⟩ := wordsB_names hk5
    have hS := fun w => refShow_at ((k + 1 : Nat) : Int) (by omega) (by omega) w
    rw [Int.toNat_natCast] at hS
    obtain ⟨s, hs⟩ : ∃ s, wordsB.getD (k + 1) emptyB = s := ⟨_, rfl⟩
    rw [hs] at hS hn1 hn3
    have hBs := hB s (by omega)
    rw [hn2, failL, ← hn1, ints_length] at hFk
    by_cases hb : (l.take s.size).map upC = ints s
    · rw [if_pos hb] at hFk
      rw [decide_eq_true hb] at hBs
      repeat' (first | ((with_reducible apply wl_callp (f := 269)); exact rfl; exact rfl; (intro w' hm; exact hS w')) | ((with_reducible apply wl_callp (f := 270)); exact rfl; exact rfl; (intro w' hm; exact hBs w')) | refine sT ?_ | refine sS ?_ | refine sT2 ?_ | refine sN ?_ | refine sM fun _ => ?_ | (refine sC ?_ ?_ <;> intro hb <;> try omega) | fail)
      all_goals
        first
        | (exfalso; omega)
        | ((refine eRCTT ?_); refine ⟨rfl, ?_⟩; rw [signR, failP, hF, hFk]; rfl)
    · rw [if_neg hb] at hFk
      rw [decide_eq_false hb] at hBs
      repeat' (first | ((with_reducible apply wl_callp (f := 269)); exact rfl; exact rfl; (intro w' hm; exact hS w')) | ((with_reducible apply wl_callp (f := 270)); exact rfl; exact rfl; (intro w' hm; exact hBs w')) | refine sT ?_ | refine sS ?_ | refine sT2 ?_ | refine sN ?_ | refine sM fun _ => ?_ | (refine sC ?_ ?_ <;> intro hb <;> try omega) | fail)
      all_goals
        first
        | (exfalso; omega)
        | exact ⟨k + 1, ⟨by omega, hFk⟩, by omega, sB, sB, .refl _⟩
  have ek : k = 5 := by omega
  subst ek
  have hsr : signR l = signP l := by
    rw [signR, failP, hF, hFk]; rfl
  rw [hsr]
  clear hF hFk hsr hk hk5
  obtain ⟨O, hO⟩ : ∃ O, opL l opNames = O := ⟨_, rfl⟩
  repeat' (first | refine sT ?_ | refine sS ?_ | refine sT2 ?_ | refine sM fun _ => ?_ | (refine sC ?_ ?_ <;> intro hb <;> try omega) | fail)
  refine w_loopK [0, 1, 4] rfl (fun z : Nat => [(9, .int .i64 (z : Int))]) (fun _ => [.box g4 216 (encTk zeroTk)]) (fun z => z ≤ 2 ∧ O = opL l (opsR z)) (fun z => z) 2 ⟨by omega, by rw [opsR_all, hO]⟩ sB mS ?_
  rintro z ⟨hz, hOz⟩
  cases z with
  | zero =>
    have hOn : O = none := hOz
    subst hOn
    have hsp : signP l = if bat a i = 40 then some (⟨9, 0, emptyB, zeroR, 0⟩, 1) else if bat a i = 41 then some (⟨10, 0, emptyB, zeroR, 0⟩, 1) else if bat a i = 44 then some (⟨11, 0, emptyB, zeroR, 0⟩, 1) else none := by
      unfold signP
      rw [hO, hh]
    rw [hsp]
    repeat' (first | ((with_reducible apply wl_v (d := 58)); exact rfl; (with_reducible apply v_idx (j := i)); exact rfl; exact rfl; omega) | refine sT ?_ | refine sS ?_ | refine sT2 ?_ | refine sN ?_ | refine sM fun _ => ?_ | (refine sC ?_ ?_ <;> intro hb <;> try omega) | fail)
    all_goals
      first
      | (exfalso; omega)
      | ((refine eRCTT ?_)
         refine ⟨rfl, ?_⟩
         repeat (first | rw [if_pos (by assumption)] | rw [if_neg (by assumption)])
         first | exact rfl | exact ⟨zeroTk, _, rfl⟩)
  | succ z =>
    repeat' (first | refine sT ?_ | refine sS ?_ | refine sT2 ?_ | refine sM fun _ => ?_ | (refine sC ?_ ?_ <;> intro hb <;> try omega) | fail)
    all_goals first | (exfalso; omega) | skip
    refine w_loopK [0, 1, 4, 9] rfl (fun k : Nat => [(10, .int .i64 (k : Int))]) (fun _ => [.box g4 216 (encTk zeroTk)]) (fun k => 1 ≤ k ∧ k ≤ 14 ∧ O = opL l (opsZ (z + 1) k ++ opsR z)) (fun k => 14 - k) 1 ⟨by omega, by omega, hOz⟩ sB mS ?_
    rintro k ⟨hk1, hk2, hOk⟩
    by_cases hk14 : k = 14
    · subst hk14
      rw [opsZ_end, List.nil_append] at hOk
      repeat' (first | refine sT ?_ | refine sS ?_ | refine sT2 ?_ | refine sN ?_ | refine sM fun _ => ?_ | (refine sC ?_ ?_ <;> intro hb <;> try omega) | fail)
      all_goals
        first
        | (exfalso; omega)
        | exact ⟨z, ⟨by omega, hOk⟩, by omega, sB, sB, .refl _⟩
    rw [opsZ_step (by omega)] at hOk
    obtain ⟨s, hs⟩ : ∃ s, opB (k : Int) = s := ⟨_, rfl⟩
    have hu := opB_up k (by omega)
    have hP := fun w => refOperator_at (k : Int) w
    rw [hs] at hOk hu hP
    by_cases hsz : s.size = z + 1
    · rw [if_pos hsz] at hOk
      have hBs := hB s (by omega)
      by_cases hb : (l.take s.size).map upC = ints s
      · have hb2 := (up_same hu _).1 hb
        rw [← ints_length] at hb2
        rw [List.cons_append, opL_app hb2, ints_length, hsz] at hOk
        rw [decide_eq_true hb] at hBs
        have hsp : signP l = some (⟨8, k, emptyB, zeroR, 0⟩, z + 1) := by
          unfold signP
          rw [hO, hOk]
        rw [hsp]
        repeat' (first | ((with_reducible apply wl_callp (f := 271)); exact rfl; exact rfl; (intro w' hm; exact hP w')) | ((with_reducible apply wl_callp (f := 270)); exact rfl; exact rfl; (intro w' hm; exact hBs w')) | refine sT ?_ | refine sS ?_ | refine sT2 ?_ | refine sN ?_ | refine sM fun _ => ?_ | (refine sC ?_ ?_ <;> intro hb <;> try omega) | fail)
        all_goals
          first
          | (exfalso; omega)
          | ((refine eRCTT ?_); exact ⟨rfl, rfl⟩)
      · have hb2 : ¬ l.take s.size = ints s := fun h => hb ((up_same hu _).2 h)
        rw [← ints_length] at hb2
        rw [List.cons_append, opL, if_neg hb2] at hOk
        rw [decide_eq_false hb] at hBs
        repeat' (first | ((with_reducible apply wl_callp (f := 271)); exact rfl; exact rfl; (intro w' hm; exact hP w')) | ((with_reducible apply wl_callp (f := 270)); exact rfl; exact rfl; (intro w' hm; exact hBs w')) | refine sT ?_ | refine sS ?_ | refine sT2 ?_ | refine sN ?_ | refine sM fun _ => ?_ | (refine sC ?_ ?_ <;> intro hb <;> try omega) | fail)
        all_goals
          first
          | (exfalso; omega)
          | exact ⟨k + 1, ⟨by omega, by omega, hOk⟩, by omega, sB, sB, .refl _⟩
    · rw [if_neg hsz] at hOk
      repeat' (first | ((with_reducible apply wl_callp (f := 271)); exact rfl; exact rfl; (intro w' hm; exact hP w')) | refine sT ?_ | refine sS ?_ | refine sT2 ?_ | refine sN ?_ | refine sM fun _ => ?_ | (refine sC ?_ ?_ <;> intro hb <;> try omega) | fail)
      all_goals
        first
        | (exfalso; omega)
        | exact ⟨k + 1, ⟨by omega, by omega, hOk⟩, by omega, sB, sB, .refl _⟩
theorem TokR.form {i:Nat} {o:Option (Tk × Nat)} {v:Value} (h:TokR i o v): ∃ (t:Tk) (n:Int) (b:Bool),v= .tuple #[.agg (encTk t).toArray,.int .i64 n,.bool b]:=by
 cases o with
 |none=>
  obtain ⟨t,e,rfl⟩:=h
  exact ⟨t,e,false,rfl⟩
 |some x=>
  obtain ⟨t,n⟩:=x
  exact ⟨_,_,_,h⟩
set_option maxHeartbeats 2000000 in
theorem refToken_at (a:ByteArray) (ha:a.size≤256) (i:Nat) (hi:i<a.size) (w:World):FnAt Tryz.prog 216 [.string a,.int .i64 (i:Int)] w fun v H=>H= []∧TokR i (tokenR ((ints a).drop i)) v:=by
 refine fn_at Tryz.func216 rfl Tryz.ntmps216 rfl ?_
 have hl:=ints_length a
 have hD:=fun w=>refDigit_at a (by omega) i w
 have hL:=fun w=>refLetter_at a (by omega) i w
 have hN:=fun h w=>refNumber_at a ha i hi h w
 have hT:=fun w=>refText_at a ha i hi w
 have hWd:=fun h w=>refWord_at a ha i hi h w
 have hS:=fun w=>refSign_at a ha i hi w
 unfold tokenR
 rw [hd_bat,show ((ints a).drop i).tail=(ints a).drop (i+1) by rw [List.tail_drop]]
 by_cases h1:digC (bat a i)=true
 ·
  rw [if_pos h1]
  rw [h1] at hD
  replace hN:=hN h1
  repeat' (first|((with_reducible apply wl_callp (f:=247));exact rfl;exact rfl;(intro w' hm;exact hD w'))|((with_reducible apply wl_call (f:=248));exact rfl;exact rfl;(intro w' hm;exact hN w');(rintro _ _ ⟨rfl,h⟩;obtain ⟨t,n,b,rfl⟩:=h.form))|refine sT ?_|refine sS ?_|refine sT2 ?_|refine sN ?_|refine sM fun _=> ?_|(refine sC ?_ ?_<;>intro hb<;>try omega)|fail)
  all_goals ((refine eRCTT ?_);exact ⟨rfl,by assumption⟩)
 rw [if_neg h1]
 replace h1:digC (bat a i)=false:=by simpa using h1
 rw [h1] at hD
 by_cases h2:bat a i=34
 ·
  rw [if_pos h2]
  repeat' (first|((with_reducible apply wl_callp (f:=247));exact rfl;exact rfl;(intro w' hm;exact hD w'))|((with_reducible apply wl_call (f:=249));exact rfl;exact rfl;(intro w' hm;exact hT w');(rintro _ _ ⟨rfl,h⟩;obtain ⟨t,n,b,rfl⟩:=h.form))|((with_reducible apply wl_v (d:=20));exact rfl;(with_reducible apply v_idx (j:=i));exact rfl;exact rfl;omega)|refine sT ?_|refine sS ?_|refine sT2 ?_|refine sN ?_|refine sM fun _=> ?_|(refine sC ?_ ?_<;>intro hb<;>try omega)|fail)
  all_goals
   first
   |(exact absurd h2 (by assumption))
   |((refine eRCTT ?_);exact ⟨rfl,by assumption⟩)
 rw [if_neg h2]
 by_cases h3:letC (bat a i)=true
 ·
  rw [if_pos h3]
  rw [h3] at hL
  replace hWd:=hWd h3
  repeat' (first|((with_reducible apply wl_callp (f:=247));exact rfl;exact rfl;(intro w' hm;exact hD w'))|((with_reducible apply wl_callp (f:=250));exact rfl;exact rfl;(intro w' hm;exact hL w'))|((with_reducible apply wl_call (f:=251));exact rfl;exact rfl;(intro w' hm;exact hWd w');(rintro _ _ ⟨rfl,h⟩;obtain ⟨t,n,b,rfl⟩:=h.form))|((with_reducible apply wl_v (d:=20));exact rfl;(with_reducible apply v_idx (j:=i));exact rfl;exact rfl;omega)|refine sT ?_|refine sS ?_|refine sT2 ?_|refine sN ?_|refine sM fun _=> ?_|(refine sC ?_ ?_<;>intro hb<;>try omega)|fail)
  all_goals
   first
   |(exact absurd (by assumption) h2)
   |((refine eRCTT ?_);exact ⟨rfl,by assumption⟩)
 rw [if_neg h3]
 replace h3:letC (bat a i)=false:=by simpa using h3
 rw [h3] at hL
 repeat' (first|((with_reducible apply wl_callp (f:=247));exact rfl;exact rfl;(intro w' hm;exact hD w'))|((with_reducible apply wl_callp (f:=250));exact rfl;exact rfl;(intro w' hm;exact hL w'))|((with_reducible apply wl_call (f:=252));exact rfl;exact rfl;(intro w' hm;exact hS w');(rintro _ _ ⟨rfl,h⟩;obtain ⟨t,n,b,rfl⟩:=h.form))|((with_reducible apply wl_v (d:=20));exact rfl;(with_reducible apply v_idx (j:=i));exact rfl;exact rfl;omega)|refine sT ?_|refine sS ?_|refine sT2 ?_|refine sN ?_|refine sM fun _=> ?_|(refine sC ?_ ?_<;>intro hb<;>try omega)|fail)
 all_goals
  first
  |(exact absurd (by assumption) h2)
  |((refine eRCTT ?_);exact ⟨rfl,by assumption⟩)
set_option maxHeartbeats 4000000 in
theorem refTokens_at (a : ByteArray) (w : World) :
    FnAt Tryz.prog 172 [.string a] w fun v H => ∃ A cap, v = tokV3 A cap (tokensV tokenR (ints a)) ∧ H = [.own A 216 8 (tokensV tokenR (ints a)).1.length cap ((tokensV tokenR (ints a)).1.flatMap encTk)] := by
  refine fn_at Tryz.func172 rfl Tryz.ntmps172 rfl ?_
  have hl := ints_length a
  unfold tokensV
  refine w_nilrow 216 8 ?_
  by_cases hlen : 256 < (ints a).length
  · rw [if_pos hlen]
    repeat' (first | refine sT ?_ | refine sS ?_ | refine sT2 ?_ | refine sM fun _ => ?_ | (refine sC ?_ ?_ <;> intro hb <;> try omega) | fail)
    all_goals first | (exfalso; omega) | skip
    exact ret3 (.inl rfl) rfl rfl rfl rfl (.refl _) ⟨none, 0, rfl, rfl⟩
  rw [if_neg hlen]
  repeat' (first | refine sT ?_ | refine sS ?_ | refine sT2 ?_ | refine sM fun _ => ?_ | (refine sC ?_ ?_ <;> intro hb <;> try omega) | fail)
  all_goals first | (exfalso; omega) | skip
  refine w_loopK [0] rfl (fun i : Nat => [(5, .int .i64 (i : Int))]) (fun _ => [.own none 216 8 0 0 []]) (fun i => i ≤ a.size ∧ ∀ j, j < i → plainC (bat a j) = true) (fun i => a.size - i) 0 ⟨by omega, fun j h => by omega⟩ sB mS ?_
  rintro i ⟨hi, hpl⟩
  by_cases hlt : i < a.size
  · repeat' (first | ((with_reducible apply wl_v (d := 22)); exact rfl; (with_reducible apply v_idx (j := i)); exact rfl; exact rfl; omega) | ((with_reducible apply wl_v (d := 27)); exact rfl; (with_reducible apply v_idx (j := i)); exact rfl; exact rfl; omega) | refine sT ?_ | refine sS ?_ | refine sT2 ?_ | refine sN ?_ | refine sM fun _ => ?_ | (refine sC ?_ ?_ <;> intro hb <;> try omega) | fail)
    all_goals first
      | (exfalso; omega)
      | (have hf : (ints a).findIdx? (fun c => !plainC c) = some i := by
           refine find_bat hlt ?_ fun j hj => by rw [hpl j hj]; rfl
           simp only [plainC, Bool.not_eq_true', Bool.and_eq_false_iff, decide_eq_false_iff_not]
           omega
         rw [hf]
         exact ret3 (.inl rfl) rfl rfl rfl rfl (.refl _) ⟨none, 0, rfl, rfl⟩)
      | (refine ⟨i + 1, ?_, (by first | omega | (dsimp only; omega)), sB, sB, mS⟩
         refine ⟨hlt, fun j hj => ?_⟩
         rcases (by omega : j < i ∨ j = i) with h | rfl
         · exact hpl j h
         · simp only [plainC, Bool.and_eq_true, decide_eq_true_eq]
           omega)
  have e : i = a.size := by omega
  subst e
  have hf : (ints a).findIdx? (fun c => !plainC c) = none := nofind_bat fun j hj => by rw [hpl j hj]; rfl
  rw [hf]
  dsimp only
  repeat' (first | refine sT ?_ | refine sS ?_ | refine sT2 ?_ | refine sN ?_ | refine sM fun _ => ?_ | (refine sC ?_ ?_ <;> intro hb <;> try omega) | fail)
  all_goals first | (exfalso; omega) | skip
  generalize hT : tokensG tokenR (ints a) (ints a).length 0 = T
  refine w_loopK [0] rfl (fun x : Nat × List Tk × Option Nat × Nat => [(6, sl x.2.2.1 x.2.1.length x.2.2.2), (7, .int .i64 (x.1 : Int))]) (fun x => [.own x.2.2.1 216 8 x.2.1.length x.2.2.2 (x.2.1.flatMap encTk)])
    (fun x => x.1 ≤ a.size ∧ x.2.1.length ≤ x.1 ∧ T = (tokensG tokenR (ints a) (a.size - x.1) x.1).map (x.2.1 ++ ·)) (fun x => a.size - x.1) (0, [], none, 0) ⟨by omega, by simp, by rw [← hT, hl]; cases tokensG tokenR (ints a) a.size 0 <;> rfl⟩ sB mS ?_
  rintro ⟨i, toks, A, cap⟩ ⟨hi2, hi3, hi4⟩
  dsimp only at hi2 hi3 hi4 ⊢
  by_cases hlt2 : i < a.size
  · obtain ⟨f, hf1⟩ : ∃ f, a.size - i = f + 1 := ⟨a.size - i - 1, by omega⟩
    rw [hf1] at hi4
    simp only [tokensG] at hi4
    have hdr := bat_drop hlt2
    have hK := refToken_at a (by omega) i hlt2
    generalize hld : (ints a).drop i = ld at hi4 hdr hK
    rw [hdr] at hi4
    dsimp only at hi4
    by_cases h32 : bat a i = 32
    · rw [if_pos h32] at hi4
      repeat' (first | ((with_reducible apply wl_v (d := 37)); exact rfl; (with_reducible apply v_idx (j := i)); exact rfl; exact rfl; omega) | refine sT ?_ | refine sS ?_ | refine sT2 ?_ | refine sN ?_ | refine sM fun _ => ?_ | (refine sC ?_ ?_ <;> intro hb <;> try omega) | fail)
      all_goals first | (exfalso; omega) | skip
      refine ⟨(i + 1, toks, A, cap), ?_, (by first | omega | (dsimp only; omega)), sB, sB, mS⟩
      exact ⟨hlt2, by dsimp only; omega, by dsimp only; rw [show a.size - (i + 1) = f by omega]; exact hi4⟩
    · rw [if_neg h32, ← hdr] at hi4
      have hldl : ld.length = a.size - i := by rw [← hld, List.length_drop, hl]
      cases ho : tokenR ld with
      | none =>
        rw [ho] at hi4 hK
        dsimp only [Except.map] at hi4
        rw [hi4]
        refine w_nilrow 216 8 ?_
        repeat' (first | ((with_reducible apply wl_v (d := 37)); exact rfl; (with_reducible apply v_idx (j := i)); exact rfl; exact rfl; omega) | ((with_reducible apply wl_call (f := 216)); exact rfl; exact rfl; (intro w' hm; exact hK w'); (rintro _ _ ⟨rfl, t, n, rfl⟩)) | refine sT ?_ | refine sS ?_ | refine sT2 ?_ | refine sN ?_ | refine sM fun _ => ?_ | (refine sC ?_ ?_ <;> intro hb <;> try omega) | fail)
        all_goals first | (exfalso; omega) | skip
        exact ret3 (.inl rfl) rfl rfl rfl rfl (H' := [.own none 216 8 0 0 []]) mS ⟨none, 0, rfl, rfl⟩
      | some x =>
        obtain ⟨t, m⟩ := x
        rw [ho] at hi4 hK
        dsimp only at hi4
        have hfit := tokenR_fits ld t m ho
        have hm0 : 0 < m := hfit.1
        repeat' (first | ((with_reducible apply wl_v (d := 37)); exact rfl; (with_reducible apply v_idx (j := i)); exact rfl; exact rfl; omega) | ((with_reducible apply wl_call (f := 216)); exact rfl; exact rfl; (intro w' hm; exact hK w'); (rintro _ _ ⟨rfl, rfl⟩)) | ((with_reducible apply wl_append1); (iterate 3 exact rfl); exact pK; exact pK; exact rfl; (simp [encTk, Value.oneCell']); omega; (simp only [maxLen]; omega); intro g8 c8) | refine sT ?_ | refine sS ?_ | refine sT2 ?_ | refine sN ?_ | refine sM fun _ => ?_ | (refine sC ?_ ?_ <;> intro hb <;> try omega) | fail)
        all_goals first | (exfalso; omega) | skip
        refine ⟨(i + m, toks ++ [{ t with at_ := (i : Int) }], some g8, c8), ⟨by dsimp only; omega, by simp; omega, ?_⟩, (by dsimp only; omega), ?_, sB, ?_⟩
        · dsimp only
          rw [hi4, tokensG_fuel tokenR_fits f (a.size - (i + m)) f (i + m) (by omega) (by omega) (by omega)]
          cases tokensG tokenR (ints a) (a.size - (i + m)) (i + m) <;> simp [Except.map]
        · simp only [List.length_append, List.length_singleton]
          exact sB
        · simp only [List.length_append, List.length_singleton, List.flatMap_append, List.flatMap_cons, List.flatMap_nil, List.append_nil]
          exact mS
  · have e : i = a.size := by omega
    subst e
    rw [show a.size - a.size = 0 by omega] at hi4
    simp only [tokensG, Except.map, List.append_nil] at hi4
    rw [hi4]
    repeat' (first | refine sT ?_ | refine sS ?_ | refine sT2 ?_ | refine sN ?_ | refine sM fun _ => ?_ | (refine sC ?_ ?_ <;> intro hb <;> try omega) | fail)
    all_goals first | (exfalso; omega) | skip
    exact ret3 (.inl rfl) rfl rfl rfl rfl (H' := [.own A 216 8 toks.length cap (toks.flatMap encTk)]) mS ⟨A, cap, rfl, rfl⟩
set_option maxHeartbeats 4000000 in
theorem rPrimary_ok (f : Nat) (ih : ∀ f' ≤ f, RPOK f' (.level 1) 173 [.int .i64 1]) : RPOK (f + 1) .prim 272 [] := by
  intro x k p B cb r R w0 hk hp hout hrun
  refine fn_in Tryz.func272 rfl Tryz.ntmps272 rfl ?_
  have hxt := x.ht
  dsimp only at hrun
  obtain ⟨t, ht⟩ : ∃ t, hdT x.fin p.l = t := ⟨_, rfl⟩
  have hd : hdT x.fin (x.toks.drop k) = t := hp ▸ ht
  have hN := fun w hm => Cx.next hd (B := B) (cb := cb) (out := p.out) (at_ := 0) (e := 0) (w0 := w0) (H := x.B k B cb p.out 0 0 ++ R) ⟨R, .refl _⟩ w hm
  by_cases h7 : t.kind = 7
  · rw [prim_call _ _ _ (by rw [ht]; exact h7), ht] at hrun
    have hlt := Cx.lt hd (by omega)
    have hC := rCall_ok f t ih x k p B cb r
    repeat' (first | ((with_reducible apply wl_callp (f := 175)); exact rfl; exact rfl; exact hN) | ((with_reducible apply wl_callin (f := 288)); exact rfl; exact rfl; exact FnIn.msub (hC _ w0 hlt hp hout ht h7 hrun) (MSub.pick pK (MSub.pick pK (MSub.pick pK (MSub.refl _)))); rintro v1 H1 ⟨rfl, hR⟩) | refine sT ?_ | refine sS ?_ | refine sN ?_ | refine sM fun _ => ?_ | (refine sC ?_ ?_ <;> intro hb <;> try omega) | fail)
    all_goals first | (exfalso; omega) | skip
    cases r with
    | error e =>
      obtain ⟨k1, B1, cb1, o1, j1, j2, j3, j4, rfl⟩ := hR
      refine rr_bad (k' := k1) (out' := o1) (B' := B1) (cb' := cb1) eIO rfl j1 j2 (by omega) (by omega) ?_
      simp only [Cx.B, rB, List.append_eq, List.cons_append, List.nil_append]
      exact mS
    | ok y =>
      obtain ⟨n1, p1⟩ := y
      obtain ⟨k1, B1, cb1, j1, j2, j3, j4, rfl⟩ := hR
      refine rr_ok (k' := k1) (p' := p1) (B' := B1) (cb' := cb1) eIO rfl j1 j2 (by omega) (by omega) ?_
      simp only [Cx.B, rB, List.append_eq, List.cons_append, List.nil_append]
      exact mS
  rw [runP] at hrun
  dsimp only at hrun
  rw [ht] at hrun
  by_cases h14 : 1 ≤ t.kind ∧ t.kind ≤ 4
  · rw [if_pos h14] at hrun
    have hlt := Cx.lt hd (by omega)
    cases hrun
    rcases (by omega : t.kind = 1 ∨ t.kind = 2 ∨ t.kind = 3 ∨ t.kind = 4) with hc | hc | hc | hc
    · have hl : litT t = ⟨1, ⟨1, t.num, emptyB⟩, zeroR, 0, 0, 0⟩ := by simp [litT, hc]
      rw [hl]
      repeat' (first | ((with_reducible apply wl_callp (f := 175)); exact rfl; exact rfl; exact hN) | refine sT ?_ | refine sS ?_ | refine sN ?_ | refine sM fun _ => ?_ | (refine sC ?_ ?_ <;> intro hb <;> try omega) | fail)
      all_goals first | (exfalso; omega) | skip
      refine w_drawA 14 rfl (by kernel_rfl) ?_
      ((with_reducible apply wa_pure (i := 0)); exact rfl; exact rfl; decide +kernel; decide +kernel; decide +kernel; exact nP; (intro _ _; exact vP))
      ((with_reducible apply wa_pure (i := 1)); exact rfl; exact rfl; decide +kernel; decide +kernel; decide +kernel; exact nP; (intro _ _; exact vP))
      ((with_reducible apply wa_pure (i := 2)); exact rfl; exact rfl; decide +kernel; decide +kernel; decide +kernel; exact nP; (intro _ _; exact vP))
      ((with_reducible apply wa_pure (i := 3)); exact rfl; exact rfl; decide +kernel; decide +kernel; decide +kernel; exact nP; (intro _ _; exact vP))
      ((with_reducible apply wa_pure (i := 5)); exact rfl; exact rfl; decide +kernel; decide +kernel; decide +kernel; exact nP; (intro _ _; exact vP))
      repeat' (first | ((with_reducible apply wa_two (i := 4) (j := 6)); exact rfl; exact rfl; decide +kernel) | ((with_reducible apply wa_two (i := 4) (j := 7)); exact rfl; exact rfl; decide +kernel) | ((with_reducible apply wa_two (i := 4) (j := 8)); exact rfl; exact rfl; decide +kernel) | ((with_reducible apply wa_two (i := 4) (j := 9)); exact rfl; exact rfl; decide +kernel) | ((with_reducible apply wa_one (i := 4)); exact rfl; decide +kernel) | ((with_reducible apply wa_one (i := 5)); exact rfl; decide +kernel) | ((with_reducible apply wa_one (i := 6)); exact rfl; decide +kernel) | ((with_reducible apply wa_one (i := 7)); exact rfl; decide +kernel) | ((with_reducible apply wa_one (i := 8)); exact rfl; decide +kernel) | ((with_reducible apply wa_one (i := 9)); exact rfl; decide +kernel) | ((with_reducible apply wa_one (i := 10)); exact rfl; decide +kernel) | ((with_reducible apply wa_one (i := 11)); exact rfl; decide +kernel) | ((with_reducible apply wa_one (i := 12)); exact rfl; decide +kernel) | ((with_reducible apply wa_one (i := 13)); exact rfl; decide +kernel) | ((with_reducible apply wa_done); decide +kernel) | ((with_reducible apply wl_append1); (iterate 3 exact rfl); exact pK; exact pK; exact rfl; (simp [encN, Value.oneCell']); omega; (simp only [maxLen]; omega); intro g8 c8) | refine sT ?_ | refine sS ?_ | refine sN ?_ | refine sM fun _ => ?_ | (refine sC ?_ ?_ <;> intro hb <;> try omega) | fail)
      all_goals first
        | (exfalso; omega)
        | (refine rr_ok (k' := k + 1) (p' := p.skip.put ⟨1, ⟨1, t.num, emptyB⟩, zeroR, 0, 0, 0⟩) (B' := some g8) (cb' := c8) eIO rfl hlt (Cx.skip hp) (Nat.le_succ k) (by simp only [PS.put, PS.skip, List.length_append, List.length_singleton]; omega) ?_
           simp only [PS.put, PS.skip, Cx.B, rB, List.length_append, List.length_singleton, List.flatMap_append, List.flatMap_cons, List.flatMap_nil, List.append_nil, List.append_eq, List.cons_append, List.nil_append]
           exact mS)
    · have hl : litT t = ⟨1, ⟨3, 0, t.text⟩, zeroR, 0, 0, 0⟩ := by simp [litT, hc]
      rw [hl]
      repeat' (first | ((with_reducible apply wl_callp (f := 175)); exact rfl; exact rfl; exact hN) | refine sT ?_ | refine sS ?_ | refine sN ?_ | refine sM fun _ => ?_ | (refine sC ?_ ?_ <;> intro hb <;> try omega) | fail)
      all_goals first | (exfalso; omega) | skip
      refine w_drawA 14 rfl (by kernel_rfl) ?_
      ((with_reducible apply wa_pure (i := 0)); exact rfl; exact rfl; decide +kernel; decide +kernel; decide +kernel; exact nP; (intro _ _; exact vP))
      ((with_reducible apply wa_pure (i := 1)); exact rfl; exact rfl; decide +kernel; decide +kernel; decide +kernel; exact nP; (intro _ _; exact vP))
      ((with_reducible apply wa_pure (i := 2)); exact rfl; exact rfl; decide +kernel; decide +kernel; decide +kernel; exact nP; (intro _ _; exact vP))
      ((with_reducible apply wa_pure (i := 3)); exact rfl; exact rfl; decide +kernel; decide +kernel; decide +kernel; exact nP; (intro _ _; exact vP))
      ((with_reducible apply wa_pure (i := 5)); exact rfl; exact rfl; decide +kernel; decide +kernel; decide +kernel; exact nP; (intro _ _; exact vP))
      repeat' (first | ((with_reducible apply wa_two (i := 4) (j := 6)); exact rfl; exact rfl; decide +kernel) | ((with_reducible apply wa_two (i := 4) (j := 7)); exact rfl; exact rfl; decide +kernel) | ((with_reducible apply wa_two (i := 4) (j := 8)); exact rfl; exact rfl; decide +kernel) | ((with_reducible apply wa_two (i := 4) (j := 9)); exact rfl; exact rfl; decide +kernel) | ((with_reducible apply wa_one (i := 4)); exact rfl; decide +kernel) | ((with_reducible apply wa_one (i := 5)); exact rfl; decide +kernel) | ((with_reducible apply wa_one (i := 6)); exact rfl; decide +kernel) | ((with_reducible apply wa_one (i := 7)); exact rfl; decide +kernel) | ((with_reducible apply wa_one (i := 8)); exact rfl; decide +kernel) | ((with_reducible apply wa_one (i := 9)); exact rfl; decide +kernel) | ((with_reducible apply wa_one (i := 10)); exact rfl; decide +kernel) | ((with_reducible apply wa_one (i := 11)); exact rfl; decide +kernel) | ((with_reducible apply wa_one (i := 12)); exact rfl; decide +kernel) | ((with_reducible apply wa_one (i := 13)); exact rfl; decide +kernel) | ((with_reducible apply wa_done); decide +kernel) | ((with_reducible apply wl_append1); (iterate 3 exact rfl); exact pK; exact pK; exact rfl; (simp [encN, Value.oneCell']); omega; (simp only [maxLen]; omega); intro g8 c8) | refine sT ?_ | refine sS ?_ | refine sN ?_ | refine sM fun _ => ?_ | (refine sC ?_ ?_ <;> intro hb <;> try omega) | fail)
      all_goals first
        | (exfalso; omega)
        | (refine rr_ok (k' := k + 1) (p' := p.skip.put ⟨1, ⟨3, 0, t.text⟩, zeroR, 0, 0, 0⟩) (B' := some g8) (cb' := c8) eIO rfl hlt (Cx.skip hp) (Nat.le_succ k) (by simp only [PS.put, PS.skip, List.length_append, List.length_singleton]; omega) ?_
           simp only [PS.put, PS.skip, Cx.B, rB, List.length_append, List.length_singleton, List.flatMap_append, List.flatMap_cons, List.flatMap_nil, List.append_nil, List.append_eq, List.cons_append, List.nil_append]
           exact mS)
    · have hl : litT t = ⟨1, ⟨2, t.num, emptyB⟩, zeroR, 0, 0, 0⟩ := by simp [litT, hc]
      rw [hl]
      repeat' (first | ((with_reducible apply wl_callp (f := 175)); exact rfl; exact rfl; exact hN) | refine sT ?_ | refine sS ?_ | refine sN ?_ | refine sM fun _ => ?_ | (refine sC ?_ ?_ <;> intro hb <;> try omega) | fail)
      all_goals first | (exfalso; omega) | skip
      refine w_drawA 14 rfl (by kernel_rfl) ?_
      ((with_reducible apply wa_pure (i := 0)); exact rfl; exact rfl; decide +kernel; decide +kernel; decide +kernel; exact nP; (intro _ _; exact vP))
      ((with_reducible apply wa_pure (i := 1)); exact rfl; exact rfl; decide +kernel; decide +kernel; decide +kernel; exact nP; (intro _ _; exact vP))
      ((with_reducible apply wa_pure (i := 2)); exact rfl; exact rfl; decide +kernel; decide +kernel; decide +kernel; exact nP; (intro _ _; exact vP))
      ((with_reducible apply wa_pure (i := 3)); exact rfl; exact rfl; decide +kernel; decide +kernel; decide +kernel; exact nP; (intro _ _; exact vP))
      ((with_reducible apply wa_pure (i := 5)); exact rfl; exact rfl; decide +kernel; decide +kernel; decide +kernel; exact nP; (intro _ _; exact vP))
      repeat' (first | ((with_reducible apply wa_two (i := 4) (j := 6)); exact rfl; exact rfl; decide +kernel) | ((with_reducible apply wa_two (i := 4) (j := 7)); exact rfl; exact rfl; decide +kernel) | ((with_reducible apply wa_two (i := 4) (j := 8)); exact rfl; exact rfl; decide +kernel) | ((with_reducible apply wa_two (i := 4) (j := 9)); exact rfl; exact rfl; decide +kernel) | ((with_reducible apply wa_one (i := 4)); exact rfl; decide +kernel) | ((with_reducible apply wa_one (i := 5)); exact rfl; decide +kernel) | ((with_reducible apply wa_one (i := 6)); exact rfl; decide +kernel) | ((with_reducible apply wa_one (i := 7)); exact rfl; decide +kernel) | ((with_reducible apply wa_one (i := 8)); exact rfl; decide +kernel) | ((with_reducible apply wa_one (i := 9)); exact rfl; decide +kernel) | ((with_reducible apply wa_one (i := 10)); exact rfl; decide +kernel) | ((with_reducible apply wa_one (i := 11)); exact rfl; decide +kernel) | ((with_reducible apply wa_one (i := 12)); exact rfl; decide +kernel) | ((with_reducible apply wa_one (i := 13)); exact rfl; decide +kernel) | ((with_reducible apply wa_done); decide +kernel) | ((with_reducible apply wl_append1); (iterate 3 exact rfl); exact pK; exact pK; exact rfl; (simp [encN, Value.oneCell']); omega; (simp only [maxLen]; omega); intro g8 c8) | refine sT ?_ | refine sS ?_ | refine sN ?_ | refine sM fun _ => ?_ | (refine sC ?_ ?_ <;> intro hb <;> try omega) | fail)
      all_goals first
        | (exfalso; omega)
        | (refine rr_ok (k' := k + 1) (p' := p.skip.put ⟨1, ⟨2, t.num, emptyB⟩, zeroR, 0, 0, 0⟩) (B' := some g8) (cb' := c8) eIO rfl hlt (Cx.skip hp) (Nat.le_succ k) (by simp only [PS.put, PS.skip, List.length_append, List.length_singleton]; omega) ?_
           simp only [PS.put, PS.skip, Cx.B, rB, List.length_append, List.length_singleton, List.flatMap_append, List.flatMap_cons, List.flatMap_nil, List.append_nil, List.append_eq, List.cons_append, List.nil_append]
           exact mS)
    · have hl : litT t = ⟨1, ⟨4, t.num, emptyB⟩, zeroR, 0, 0, 0⟩ := by simp [litT, hc]
      rw [hl]
      repeat' (first | ((with_reducible apply wl_callp (f := 175)); exact rfl; exact rfl; exact hN) | refine sT ?_ | refine sS ?_ | refine sN ?_ | refine sM fun _ => ?_ | (refine sC ?_ ?_ <;> intro hb <;> try omega) | fail)
      all_goals first | (exfalso; omega) | skip
      refine w_drawA 14 rfl (by kernel_rfl) ?_
      ((with_reducible apply wa_pure (i := 0)); exact rfl; exact rfl; decide +kernel; decide +kernel; decide +kernel; exact nP; (intro _ _; exact vP))
      ((with_reducible apply wa_pure (i := 1)); exact rfl; exact rfl; decide +kernel; decide +kernel; decide +kernel; exact nP; (intro _ _; exact vP))
      ((with_reducible apply wa_pure (i := 2)); exact rfl; exact rfl; decide +kernel; decide +kernel; decide +kernel; exact nP; (intro _ _; exact vP))
      ((with_reducible apply wa_pure (i := 3)); exact rfl; exact rfl; decide +kernel; decide +kernel; decide +kernel; exact nP; (intro _ _; exact vP))
      ((with_reducible apply wa_pure (i := 5)); exact rfl; exact rfl; decide +kernel; decide +kernel; decide +kernel; exact nP; (intro _ _; exact vP))
      repeat' (first | ((with_reducible apply wa_two (i := 4) (j := 6)); exact rfl; exact rfl; decide +kernel) | ((with_reducible apply wa_two (i := 4) (j := 7)); exact rfl; exact rfl; decide +kernel) | ((with_reducible apply wa_two (i := 4) (j := 8)); exact rfl; exact rfl; decide +kernel) | ((with_reducible apply wa_two (i := 4) (j := 9)); exact rfl; exact rfl; decide +kernel) | ((with_reducible apply wa_one (i := 4)); exact rfl; decide +kernel) | ((with_reducible apply wa_one (i := 5)); exact rfl; decide +kernel) | ((with_reducible apply wa_one (i := 6)); exact rfl; decide +kernel) | ((with_reducible apply wa_one (i := 7)); exact rfl; decide +kernel) | ((with_reducible apply wa_one (i := 8)); exact rfl; decide +kernel) | ((with_reducible apply wa_one (i := 9)); exact rfl; decide +kernel) | ((with_reducible apply wa_one (i := 10)); exact rfl; decide +kernel) | ((with_reducible apply wa_one (i := 11)); exact rfl; decide +kernel) | ((with_reducible apply wa_one (i := 12)); exact rfl; decide +kernel) | ((with_reducible apply wa_one (i := 13)); exact rfl; decide +kernel) | ((with_reducible apply wa_done); decide +kernel) | ((with_reducible apply wl_append1); (iterate 3 exact rfl); exact pK; exact pK; exact rfl; (simp [encN, Value.oneCell']); omega; (simp only [maxLen]; omega); intro g8 c8) | refine sT ?_ | refine sS ?_ | refine sN ?_ | refine sM fun _ => ?_ | (refine sC ?_ ?_ <;> intro hb <;> try omega) | fail)
      all_goals first
        | (exfalso; omega)
        | (refine rr_ok (k' := k + 1) (p' := p.skip.put ⟨1, ⟨4, t.num, emptyB⟩, zeroR, 0, 0, 0⟩) (B' := some g8) (cb' := c8) eIO rfl hlt (Cx.skip hp) (Nat.le_succ k) (by simp only [PS.put, PS.skip, List.length_append, List.length_singleton]; omega) ?_
           simp only [PS.put, PS.skip, Cx.B, rB, List.length_append, List.length_singleton, List.flatMap_append, List.flatMap_cons, List.flatMap_nil, List.append_nil, List.append_eq, List.cons_append, List.nil_append]
           exact mS)
  rw [if_neg h14] at hrun
  by_cases h5 : t.kind = 5
  · rw [if_pos h5] at hrun
    have hlt := Cx.lt hd (by omega)
    cases hrun
    repeat' (first | ((with_reducible apply wl_callp (f := 175)); exact rfl; exact rfl; exact hN) | refine sT ?_ | refine sS ?_ | refine sN ?_ | refine sM fun _ => ?_ | (refine sC ?_ ?_ <;> intro hb <;> try omega) | fail)
    all_goals first | (exfalso; omega) | skip
    refine w_drawA 13 rfl (by kernel_rfl) ?_
    ((with_reducible apply wa_pure (i := 0)); exact rfl; exact rfl; decide +kernel; decide +kernel; decide +kernel; exact nP; (intro _ _; exact vP))
    ((with_reducible apply wa_pure (i := 1)); exact rfl; exact rfl; decide +kernel; decide +kernel; decide +kernel; exact nP; (intro _ _; exact vP))
    ((with_reducible apply wa_pure (i := 2)); exact rfl; exact rfl; decide +kernel; decide +kernel; decide +kernel; exact nP; (intro _ _; exact vP))
    ((with_reducible apply wa_pure (i := 3)); exact rfl; exact rfl; decide +kernel; decide +kernel; decide +kernel; exact nP; (intro _ _; exact vP))
    ((with_reducible apply wa_pure (i := 5)); exact rfl; exact rfl; decide +kernel; decide +kernel; decide +kernel; exact nP; (intro _ _; exact vP))
    repeat' (first | ((with_reducible apply wa_two (i := 4) (j := 6)); exact rfl; exact rfl; decide +kernel) | ((with_reducible apply wa_two (i := 4) (j := 7)); exact rfl; exact rfl; decide +kernel) | ((with_reducible apply wa_two (i := 4) (j := 8)); exact rfl; exact rfl; decide +kernel) | ((with_reducible apply wa_one (i := 4)); exact rfl; decide +kernel) | ((with_reducible apply wa_one (i := 5)); exact rfl; decide +kernel) | ((with_reducible apply wa_one (i := 6)); exact rfl; decide +kernel) | ((with_reducible apply wa_one (i := 7)); exact rfl; decide +kernel) | ((with_reducible apply wa_one (i := 8)); exact rfl; decide +kernel) | ((with_reducible apply wa_one (i := 9)); exact rfl; decide +kernel) | ((with_reducible apply wa_one (i := 10)); exact rfl; decide +kernel) | ((with_reducible apply wa_one (i := 11)); exact rfl; decide +kernel) | ((with_reducible apply wa_one (i := 12)); exact rfl; decide +kernel) | ((with_reducible apply wa_done); decide +kernel) | ((with_reducible apply wl_append1); (iterate 3 exact rfl); exact pK; exact pK; exact rfl; (simp [encN, Value.oneCell']); omega; (simp only [maxLen]; omega); intro g8 c8) | refine sT ?_ | refine sS ?_ | refine sN ?_ | refine sM fun _ => ?_ | (refine sC ?_ ?_ <;> intro hb <;> try omega) | fail)
    all_goals first
      | (exfalso; omega)
      | (refine rr_ok (k' := k + 1) (p' := p.skip.put ⟨2, zeroV, t.rect, 0, 0, 0⟩) (B' := some g8) (cb' := c8) eIO rfl hlt (Cx.skip hp) (Nat.le_succ k) (by simp only [PS.put, PS.skip, List.length_append, List.length_singleton]; omega) ?_
         simp only [PS.put, PS.skip, Cx.B, rB, List.length_append, List.length_singleton, List.flatMap_append, List.flatMap_cons, List.flatMap_nil, List.append_nil, List.append_eq, List.cons_append, List.nil_append]
         exact mS)
  rw [if_neg h5] at hrun
  by_cases h9 : t.kind = 9
  · rw [if_pos h9] at hrun
    have hlt := Cx.lt hd (by omega)
    obtain ⟨r1, hr1, ⟨e, rfl, rfl⟩ | ⟨n1, p1, rfl, hr2⟩⟩ := thenP_inv hrun
    · repeat' (first | ((with_reducible apply wl_callp (f := 175)); exact rfl; exact rfl; exact hN) | ((with_reducible apply wl_callin (f := 173)); exact rfl; exact rfl; exact FnIn.msub (ih f (Nat.le_refl _) x (k + 1) p.skip B cb _ _ w0 hlt (Cx.skip hp) (Nat.le_succ_of_le hout) hr1) (MSub.pick pK (MSub.pick pK (MSub.pick pK (MSub.refl _)))); rintro _ _ ⟨rfl, k1, B1, cb1, o1, j1, j2, j3, j4, rfl⟩; replace j4 : o1.length + (k + 1) ≤ p.out.length + k1 := j4; obtain ⟨u, hd1⟩ : ∃ u, hdT x.fin (x.toks.drop k1) = u := ⟨_, rfl⟩; by_cases h10 : u.kind = 10) | ((with_reducible apply wl_callin (f := 287)); exact rfl; exact rfl; exact FnIn.msub (rWant_ok 10 (Nat.le_trans x.hsa (by decide)) (Nat.le_trans x.ht (by decide)) (by omega) (B := B1) (cb := cb1) (out := o1) (at_ := e.1) (e := e.2) (g := x.g) (A := x.A) (cap := x.cap) hd1 h10 _ w0) (MSub.pick pK (MSub.pick pK (MSub.pick pK (MSub.refl _)))); have hlt1 := Cx.lt hd1 (by omega); rintro _ _ ⟨rfl, rfl⟩) | ((with_reducible apply wl_callin (f := 287)); exact rfl; exact rfl; exact FnIn.msub (rWant_no 10 (Nat.le_trans x.hsa (by decide)) (Nat.le_trans x.ht (by decide)) (B := B1) (cb := cb1) (out := o1) (at_ := e.1) (e := e.2) (g := x.g) (A := x.A) (cap := x.cap) hd1 h10 _ w0) (MSub.pick pK (MSub.pick pK (MSub.pick pK (MSub.refl _)))); rw [if_neg j1, if_neg j1]; rintro _ _ ⟨rfl, rfl⟩) | refine sT ?_ | refine sS ?_ | refine sN ?_ | refine sM fun _ => ?_ | (refine sC ?_ ?_ <;> intro hb <;> try omega) | fail)
      all_goals first
        | (exfalso; omega)
        | (refine rr_bad (k' := k1 + 1) (out' := o1) (B' := B1) (cb' := cb1) eIO rfl j1 (by omega) (by omega) (by omega) ?_
           simp only [Cx.B, rB, List.append_eq, List.cons_append, List.nil_append]
           exact mS
           done)
        | (refine rr_bad (k' := k1) (out' := o1) (B' := B1) (cb' := cb1) eIO rfl j1 (by omega) (by omega) (by omega) ?_
           simp only [Cx.B, rB, List.append_eq, List.cons_append, List.nil_append]
           exact mS)
    · repeat' (first | ((with_reducible apply wl_callp (f := 175)); exact rfl; exact rfl; exact hN) | ((with_reducible apply wl_callin (f := 173)); exact rfl; exact rfl; exact FnIn.msub (ih f (Nat.le_refl _) x (k + 1) p.skip B cb _ _ w0 hlt (Cx.skip hp) (Nat.le_succ_of_le hout) hr1) (MSub.pick pK (MSub.pick pK (MSub.pick pK (MSub.refl _)))); rintro _ _ ⟨rfl, k1, B1, cb1, j1, j2, j3, j4, rfl⟩; replace j4 : p1.out.length + (k + 1) ≤ p.out.length + k1 := j4; obtain ⟨u, hd1⟩ : ∃ u, hdT x.fin (x.toks.drop k1) = u := ⟨_, rfl⟩; by_cases h10 : u.kind = 10) | ((with_reducible apply wl_callin (f := 287)); exact rfl; exact rfl; exact FnIn.msub (rWant_ok 10 (Nat.le_trans x.hsa (by decide)) (Nat.le_trans x.ht (by decide)) (by omega) (B := B1) (cb := cb1) (out := p1.out) (at_ := 0) (e := 0) (g := x.g) (A := x.A) (cap := x.cap) hd1 h10 _ w0) (MSub.pick pK (MSub.pick pK (MSub.pick pK (MSub.refl _)))); have hlt1 := Cx.lt hd1 (by omega); rintro _ _ ⟨rfl, rfl⟩) | ((with_reducible apply wl_callin (f := 287)); exact rfl; exact rfl; exact FnIn.msub (rWant_no 10 (Nat.le_trans x.hsa (by decide)) (Nat.le_trans x.ht (by decide)) (B := B1) (cb := cb1) (out := p1.out) (at_ := 0) (e := 0) (g := x.g) (A := x.A) (cap := x.cap) hd1 h10 _ w0) (MSub.pick pK (MSub.pick pK (MSub.pick pK (MSub.refl _)))); rintro _ _ ⟨rfl, rfl⟩) | refine sT ?_ | refine sS ?_ | refine sN ?_ | refine sM fun _ => ?_ | (refine sC ?_ ?_ <;> intro hb <;> try omega) | fail)
      all_goals first | (exfalso; omega) | skip
      · rw [j2, hd1, if_neg (by rw [h10]; simp)] at hr2
        cases hr2
        refine rr_ok (k' := k1 + 1) (p' := p1.skip) (B' := B1) (cb' := cb1) eIO rfl hlt1 (Cx.skip j2) (by omega) (by simp only [PS.skip]; omega) ?_
        simp only [PS.skip, Cx.B, rB, List.append_eq, List.cons_append, List.nil_append]
        exact mS
      · rw [j2, hd1, if_pos h10] at hr2
        cases hr2
        refine rr_bad (x' := (u.at_, 4)) (k' := k1) (out' := p1.out) (B' := B1) (cb' := cb1) eIO rfl (by simp) (by omega) (by omega) (by omega) ?_
        simp only [Cx.B, rB, List.append_eq, List.cons_append, List.nil_append]
        exact mS
  rw [if_neg h9, if_neg h7] at hrun
  cases hrun
  repeat' (first | ((with_reducible apply wl_callp (f := 175)); exact rfl; exact rfl; exact hN) | ((with_reducible apply wl_callin (f := 174)); exact rfl; exact rfl; exact FnIn.msub (rFault_at x.g x.sa x.A _ x.cap (k + 1) B _ cb 0 0 _ _ _ _) (MSub.pick pK (.refl _)); rintro _ _ ⟨rfl, rfl⟩) | refine sT ?_ | refine sS ?_ | refine sN ?_ | refine sM fun _ => ?_ | (refine sC ?_ ?_ <;> intro hb <;> try omega) | fail)
  all_goals first
    | (exfalso; omega)
    | (refine rr_bad (x' := (t.at_, 4)) (k' := k + 1) (out' := p.out) (B' := B) (cb' := cb) eIO rfl (by simp) (by omega) (by omega) (by omega) ?_
       simp only [Cx.B, rB, List.append_eq, List.cons_append, List.nil_append]
       exact mS)
theorem rparse_all (f:Nat):(∀ q:Int,1≤q→q≤5→RPOK f (.level q) 173 [.int .i64 q])∧RPOK f .sign 217 []∧RPOK f .pct 253 []∧RPOK f .prim 272 []:=by
 induction f using Nat.strongRecOn with
 |_ f ih=>
  cases f with
  |zero=>
   refine ⟨fun k _ _=> ?_,?_,?_,?_⟩
   all_goals exact fun x k p B cb r R w0 _ _ _ h=>by cases h
  |succ f=>
   refine ⟨fun q h1 h5=>rLevel_ok f q h1 h5 (fun h4 f' hf' =>(ih f' (by omega)).1 (q+1) (by omega) (by omega)) (ih f (by omega)).2.1,rSign_ok f (ih f (by omega)).2.1 (ih f (by omega)).2.2.1,rPercent_ok f (ih f (by omega)).2.2.2,rPrimary_ok f fun f' hf' =>(ih f' (by omega)).1 1 (by omega) (by omega)⟩
end Go.SL
