/-
  Lemmas and walks, put together: K2 Sm L3 La Ra Pl Rb Rd Re Rf Pl2 Rg Rh Pl3 Ri Hd Pg2 Hh Hi He.
-/
import Derived.Test.YthefeclkaaocnaaGreatDoorKb16
set_option linter.unusedSimpArgs false
set_option linter.unusedVariables false
set_option maxRecDepth 20000
namespace Go.SL
open Go Go.Proofs
attribute [local irreducible] W WL WQ WG WA WX WLI WR WT WC VOp RW thn blk cutP scp retP retPP endB FnAt FnIn FnP ceP
theorem encEts_one (L:List Et): ∀ u∈L.flatMap encEt,u.oneCell' =true:=by
 intro u hu
 obtain ⟨x,_,hx⟩:=List.mem_flatMap.1 hu
 simp only [encEt,List.mem_cons,List.not_mem_nil,or_false] at hx
 rcases hx with rfl|rfl|rfl<;>rfl
theorem CopyEntries_at (L:List Et) (tv:Value) (w:World) (ht:Reads w tv L.length (L.flatMap encEt)) (hlen:L.length≤1000000):
  FnAt Tryz.prog 22 [tv] w fun v H=> ∃ A cap,v=sl A L.length cap∧H= [.own A 53 3 L.length cap (L.flatMap encEt)]:=by
 refine fn_at Tryz.func22 rfl Tryz.ntmps22 rfl ?_
 have hl:(L.flatMap encEt).length=L.length*3:=flat_length' encEt_len L
 refine w_nilrow 53 3 ?_
 repeat' (first|((with_reducible apply wl_appendR (n' :=0) (c:=0) (A:=none) (m:=L.length));(iterate 3 exact rfl);exact pK;(intro w hm;exact ht.of_w0 hm);exact hl;exact encEts_one L;omega;(simp only [maxLen];omega);intro A' cap' hA)|refine sT ?_|refine sM fun _=> ?_|(refine sC ?_ ?_<;>intro hb<;>try omega)|fail)
 exact ret1 (.inl rfl) Tryz.results22 rfl (H' := [.own A' 53 3 (0+L.length) cap' ([]++L.flatMap encEt)]) mS ⟨A',cap',by rw [Nat.zero_add],by rw [Nat.zero_add];rfl⟩
end Go.SL
namespace Go.SL
open Go Go.Proofs
theorem w_le {P:Program} {n:Fr} {w0:World} {Q:Post} {s:Slots} {H:List Blk} {c:Code} {A:Option Nat} {t sz m cap:Nat} {xs:List Value} (hi:In (.own A t sz m cap xs) H) (h:m≤cap→W P n w0 c Q s H):W P n w0 c Q s H:=fun a w hs hmem=>
 h (hmem.on _ hi.mem).1.2.1 a w hs hmem
theorem reads_nil (w:World):Reads w (.slice none 0 0) 0 []:=⟨none,0,rfl,Nat.le_refl _,Nat.zero_le _,fun h=>absurd h (Nat.lt_irrefl 0)⟩
attribute [local irreducible] W WL WQ WG WA WX WLI WR WT WC WE VOp RW thn blk cutP scp retP retPP endB FnAt FnIn FnP ceP
end Go.SL
namespace Go.SL
open Go Go.Proofs
attribute [local irreducible] W WL WQ WG WA WX WLI WR WT WC WE VOp RW thn blk cutP scp retP retPP endB FnAt FnIn FnP ceP
theorem v_sliceLo {P:Program} {w0:World} {s:Slots} {H:List Blk} {ty t e lo m c sz g:Nat} {x xl:Operand} [ht:Und P t (.slice e)] [hz:Size P e sz] (hx:ev s x=some (.slice (some ⟨g,0,none⟩) m c)) (hxl:ev s xl=some (.int .i64 (lo:Nat))) (h1:lo<m) (h2:m≤c):
  VOp P w0 s H (.slice t x (some xl) none none) ty (.slice (some ⟨g,lo*sz,none⟩) (m - lo) (c - lo)):=by
 have h:=v_slice (P:=P) (w0:=w0) (s:=s) (H:=H) (ty:=ty) (t:=t) (lo:=lo) (hi:=m) (x:=x) (xl:=some xl) (xh:=none) hx ⟨_,hxl⟩ rfl (by omega) h2
 rw [if_neg (show ¬ c=lo by omega)] at h
 have ha:(⟨g,0,none⟩:Addr).add (lo*sz)=⟨g,lo*sz,none⟩:=by unfold Addr.add;split<;>simp_all
 rw [Option.map_some,ha] at h
 exact h
theorem v_sliceHi {P:Program} {w0:World} {s:Slots} {H:List Blk} {ty t e hi m c sz:Nat} {A:Option Addr} {x xh:Operand} [ht:Und P t (.slice e)] [hz:Size P e sz] (hx:ev s x=some (.slice A m c)) (hxh:ev s xh=some (.int .i64 (hi:Nat))) (h2:hi≤c):
  VOp P w0 s H (.slice t x none (some xh) none) ty (.slice A hi c):=by
 have h:=v_slice (P:=P) (w0:=w0) (s:=s) (H:=H) (ty:=ty) (t:=t) (lo:=0) (hi:=hi) (x:=x) (xl:=none) (xh:=some xh) hx rfl ⟨_,hxh⟩ (by omega) h2
 have ha:(if c=0 then A else A.map (·.add (0*sz)))=A:=by
  split
  ·
   rfl
  ·
   cases A with
   |none=>rfl
   |some a=>rw [Nat.zero_mul];simp [Addr.add]
 rw [ha] at h
 exact h
theorem refI {L:List Int} {k:Nat} (h:k<L.length):(L.map vInt)[0+k*1]? =some (vInt L[k]):=by
 rw [Nat.zero_add,Nat.mul_one,List.getElem?_map,List.getElem?_eq_getElem h];rfl
theorem refI2 {L:List Int} {a k:Nat} (h:a+k<L.length):(L.map vInt)[a*1+k*1]? =some (vInt L[a+k]):=by
 rw [Nat.mul_one,Nat.mul_one,List.getElem?_map,List.getElem?_eq_getElem h];rfl
set_option maxHeartbeats 4000000 in
theorem CompactI_in (L : List Int) (A : Option Nat) (cap : Nat) (hL : L.length ≤ 1000000) (R : List Blk) (w0 : World) :
    FnIn Tryz.prog 165 [sl A L.length cap] w0 (.own A 3 1 L.length cap (L.map vInt) :: R) fun v H => v = sl A (cmpN L).length cap ∧ H = .own A 3 1 (cmpN L).length cap ((cmpN L).map vInt) :: R := by
  refine fn_in Tryz.func165 rfl Tryz.ntmps165 rfl ?_
  refine w_le (A := A) .hd fun hle => ?_
  by_cases h2 : L.length < 2
  · have hc := cmpN_one (L := L) (by omega)
    repeat' (first | refine sT ?_ | refine sS ?_ | refine sN ?_ | refine sM fun _ => ?_ | (refine sC ?_ ?_ <;> intro hb <;> try omega) | fail)
    all_goals first
      | (exfalso; omega)
      | (refine ret1 eIO rfl rfl (.refl _) ?_; rw [hc]; exact ⟨rfl, rfl⟩)
      | trace_state
  · refine w_some (A := A) .hd (by omega) fun g hA => ?_
    subst hA
    repeat' (first | refine sT ?_ | refine sS ?_ | refine sN ?_ | refine sM fun _ => ?_ | (refine sC ?_ ?_ <;> intro hb <;> try omega) | fail)
    all_goals first | (exfalso; omega) | skip
    refine w_loopK [0] rfl (fun k : Nat => [(3, .int .i64 (k : Int))]) (fun _ => .own (some g) 3 1 L.length cap (L.map vInt) :: R) (fun k => 1 ≤ k ∧ k ≤ L.length ∧ cmpN (L.take k) = L.take k) (fun k => L.length - k) 1 ⟨Nat.le_refl _, by omega, cmpN_one (by rw [List.length_take]; omega)⟩ sB mS ?_
    rintro k ⟨hk1, hk, hck⟩
    by_cases hlt : k < L.length
    · have hr1 := refI hlt
      have hr2 := refI (L := L) (k := k - 1) (by omega)
      have hst := cmpN_step hlt hk1
      have htk : L.take (k + 1) = L.take k ++ [L[k]] := by rw [List.take_succ_eq_append_getElem hlt]
      obtain ⟨c, hc⟩ : ∃ c, decide (L[k] = L[k - 1]) = c := ⟨_, rfl⟩
      cases c with
      | false =>
        have hne : ¬ L[k] = L[k - 1] := by simpa using hc
        rw [if_neg hne, hck, ← htk] at hst
        repeat' (first | ((with_reducible apply wq_v); exact rfl; (with_reducible apply v_predN); exact rfl; exact rfl; omega; (simp only [maxLen]; omega)) | ((with_reducible apply wq_v); exact rfl; (with_reducible apply v_indexAddr (j := k)); exact rfl; exact rfl; omega) | ((with_reducible apply wq_v); exact rfl; (with_reducible apply v_indexAddr (j := k - 1)); exact rfl; exact rfl; omega) | ((with_reducible apply wq_v); exact rfl; (with_reducible apply v_load_own); exact rfl; exact pK; (first | exact hr1 | exact hr2)) | ((with_reducible apply wq_v); exact rfl; (with_reducible apply v_eqlI_to hc); exact rfl; exact rfl) | refine sT ?_ | refine sS ?_ | refine sQ ?_ | refine sN ?_ | refine sNQ ?_ | refine sD ?_ | refine sM fun _ => ?_ | (refine sC ?_ ?_ <;> intro hb <;> try omega) | (refine sCQ ?_ ?_ <;> intro hb <;> try omega) | fail)
        all_goals first
          | (exfalso; omega)
          | (refine ⟨k + 1, ⟨by omega, hlt, hst⟩, by omega, by exact sB, by exact sB, by exact mS⟩; done)
          | trace_state
      | true =>
        have hne : L[k] = L[k - 1] := by simpa using hc
        rw [if_pos hne, hck] at hst
        repeat' (first | ((with_reducible apply wq_v); exact rfl; (with_reducible apply v_predN); exact rfl; exact rfl; omega; (simp only [maxLen]; omega)) | ((with_reducible apply wq_v); exact rfl; (with_reducible apply v_indexAddr (j := k)); exact rfl; exact rfl; omega) | ((with_reducible apply wq_v); exact rfl; (with_reducible apply v_indexAddr (j := k - 1)); exact rfl; exact rfl; omega) | ((with_reducible apply wq_v); exact rfl; (with_reducible apply v_load_own); exact rfl; exact pK; (first | exact hr1 | exact hr2)) | ((with_reducible apply wq_v); exact rfl; (with_reducible apply v_eqlI_to hc); exact rfl; exact rfl) | ((with_reducible apply wl_v); exact rfl; (with_reducible apply v_sliceLo (lo := k)); exact rfl; exact rfl; omega; exact hle) | refine sT ?_ | refine sS ?_ | refine sQ ?_ | refine sN ?_ | refine sNQ ?_ | refine sD ?_ | refine sM fun _ => ?_ | (refine sC ?_ ?_ <;> intro hb <;> try omega) | (refine sCQ ?_ ?_ <;> intro hb <;> try omega) | fail)
        all_goals first | (exfalso; omega) | skip
        refine w_loopK [0, 4] rfl (fun y : Nat × Nat × List Int => [(5, .int .i64 (y.1 : Int)), (3, .int .i64 (y.2.1 : Int))]) (fun y => .own (some g) 3 1 L.length cap (y.2.2.map vInt) :: R) (fun y => 1 ≤ y.1 ∧ k + y.1 ≤ L.length ∧ y.2.1 + 1 ≤ k + y.1 ∧ y.2.2.length = L.length ∧ y.2.2.take y.2.1 = cmpN (L.take (k + y.1)) ∧ ∀ j, k + y.1 ≤ j + 1 → y.2.2[j]? = L[j]?) (fun y => L.length - y.1) (1, k, L) ⟨Nat.le_refl _, by omega, Nat.le_refl _, rfl, hst.symm, fun _ _ => rfl⟩ sB mS ?_
        rintro ⟨i, k', ys⟩ ⟨hi1, hi2, hi3, hi4, hi5, hi6⟩
        dsimp only at hi1 hi2 hi3 hi4 hi5 hi6 ⊢
        by_cases hli : k + i < L.length
        · have hy1 : k + i < ys.length := by omega
          have hr3 := refI2 (L := ys) (a := k) (k := i) hy1
          have hr4 := refI2 (L := ys) (a := k) (k := i - 1) (by omega)
          have he1 : ys[k + i] = L[k + i] := by
            have := hi6 (k + i) (by omega)
            rw [List.getElem?_eq_getElem hy1, List.getElem?_eq_getElem hli] at this
            exact Option.some.inj this
          have he2 : ys[k + (i - 1)] = L[k + i - 1] := by
            have := hi6 (k + (i - 1)) (by omega)
            rw [List.getElem?_eq_getElem (by omega), List.getElem?_eq_getElem (by omega)] at this
            rw [Option.some.inj this]
            congr 1
            omega
          rw [he1] at hr3
          rw [he2] at hr4
          have hst2 := cmpN_step hli (by omega)
          obtain ⟨c, hc2⟩ : ∃ c, decide (L[k + i] = L[k + i - 1]) = c := ⟨_, rfl⟩
          cases c with
          | true =>
            rw [if_pos (by simpa using hc2)] at hst2
            repeat' (first | ((with_reducible apply wq_v); exact rfl; (with_reducible apply v_predN); exact rfl; exact rfl; omega; (simp only [maxLen]; omega)) | ((with_reducible apply wq_v); exact rfl; (with_reducible apply v_indexAddr (j := i)); exact rfl; exact rfl; omega) | ((with_reducible apply wq_v); exact rfl; (with_reducible apply v_indexAddr (j := i - 1)); exact rfl; exact rfl; omega) | ((with_reducible apply wq_v); exact rfl; (with_reducible apply v_load_own); exact rfl; exact pK; (first | exact hr3 | exact hr4)) | ((with_reducible apply wq_v); exact rfl; (with_reducible apply v_neqI_to hc2); exact rfl; exact rfl) | refine sT ?_ | refine sS ?_ | refine sQ ?_ | refine sN ?_ | refine sNQ ?_ | refine sD ?_ | refine sM fun _ => ?_ | (refine sC ?_ ?_ <;> intro hb <;> try omega) | (refine sCQ ?_ ?_ <;> intro hb <;> try omega) | fail)
            all_goals first
              | (exfalso; omega)
              | (refine ⟨(i + 1, k', ys), ⟨by dsimp only; omega, by dsimp only; omega, by dsimp only; omega, hi4, by dsimp only; rw [hi5, ← Nat.add_assoc, hst2], fun j hj => hi6 j (by omega)⟩, by dsimp only; omega, by exact sB, by exact sB, by exact mS⟩; done)
              | trace_state
          | false =>
            rw [if_neg (by simpa using hc2)] at hst2
            have hput : (ys.map vInt).set (0 + k' * 1) (vInt L[k + i]) = (ys.set k' L[k + i]).map vInt := by rw [Nat.zero_add, Nat.mul_one, List.map_set]
            repeat' (first | ((with_reducible apply wq_v); exact rfl; (with_reducible apply v_predN); exact rfl; exact rfl; omega; (simp only [maxLen]; omega)) | ((with_reducible apply wq_v); exact rfl; (with_reducible apply v_indexAddr (j := i)); exact rfl; exact rfl; omega) | ((with_reducible apply wq_v); exact rfl; (with_reducible apply v_indexAddr (j := i - 1)); exact rfl; exact rfl; omega) | ((with_reducible apply wq_v); exact rfl; (with_reducible apply v_load_own); exact rfl; exact pK; (first | exact hr3 | exact hr4)) | ((with_reducible apply wq_v); exact rfl; (with_reducible apply v_neqI_to hc2); exact rfl; exact rfl) | ((with_reducible apply wl_v (d := 49)); exact rfl; (with_reducible apply v_indexAddr (j := i)); exact rfl; exact rfl; omega) | ((with_reducible apply wl_v (d := 51)); exact rfl; (with_reducible apply v_indexAddr (j := k')); exact rfl; exact rfl; omega) | ((with_reducible apply wl_v); exact rfl; (with_reducible apply v_load_own); exact rfl; exact pK; exact hr3) | ((with_reducible apply wl_store_own (v := vInt L[k + i]) (off := 0 + k' * 1)); exact rfl; exact rfl; exact pK; exact rfl; (rw [List.length_map, hi4]; omega); rw [hput]) | refine sT ?_ | refine sS ?_ | refine sQ ?_ | refine sN ?_ | refine sNQ ?_ | refine sD ?_ | refine sM fun _ => ?_ | (refine sC ?_ ?_ <;> intro hb <;> try omega) | (refine sCQ ?_ ?_ <;> intro hb <;> try omega) | fail)
            all_goals first
              | (exfalso; omega)
              | (refine ⟨(i + 1, k' + 1, ys.set k' L[k + i]), ⟨by dsimp only; omega, by dsimp only; omega, by dsimp only; omega, by dsimp only; rw [List.length_set, hi4], ?_, fun j hj => ?_⟩, by dsimp only; omega, by exact sB, by exact sB, by exact mS⟩
                 · dsimp only
                   rw [List.take_succ_eq_append_getElem (by rw [List.length_set]; omega), List.take_set_of_le (Nat.le_refl _), hi5, List.getElem_set_self, ← Nat.add_assoc, hst2]
                 · dsimp only at hj ⊢
                   rw [List.getElem?_set_ne (by omega)]
                   exact hi6 j (by omega))
              | trace_state
        · have hli2 : k + i = L.length := by omega
          rw [hli2, List.take_length] at hi5
          have hcl : (cmpN L).length = k' := by rw [← hi5, List.length_take, hi4]; omega
          have hk'L : k' < L.length := by omega
          repeat' (first | ((with_reducible apply wl_v); exact rfl; (with_reducible apply v_sliceLo (lo := k')); exact rfl; exact rfl; omega; exact hle) | ((with_reducible apply wl_clear (sz := 1) (k := k') (n' := L.length)); exact rfl; omega; exact pK; (intro u hu; simp [Value.cells] at hu; subst hu; rfl); exact rfl) | ((with_reducible apply wl_v); exact rfl; (with_reducible apply v_sliceHi (hi := k')); exact rfl; exact rfl; omega) | refine sT ?_ | refine sS ?_ | refine sN ?_ | refine sM fun _ => ?_ | (refine sC ?_ ?_ <;> intro hb <;> try omega) | fail)
          all_goals first
            | (exfalso; omega)
            | (refine ret1 eIO rfl rfl (H' := .own (some g) 3 1 k' cap ((ys.map vInt).take (k' * 1)) :: R) mS ?_
               rw [Nat.mul_one, ← List.map_take, hi5, hcl]
               exact ⟨rfl, rfl⟩)
            | trace_state
    · have hkl : k = L.length := by omega
      rw [hkl, List.take_length] at hck
      repeat' (first | refine sT ?_ | refine sS ?_ | refine sN ?_ | refine sM fun _ => ?_ | (refine sC ?_ ?_ <;> intro hb <;> try omega) | fail)
      all_goals first
        | (exfalso; omega)
        | (refine ret1 eIO rfl rfl (.refl _) ?_; rw [hck]; exact ⟨rfl, rfl⟩)
        | trace_state
end Go.SL
namespace Go.SL
open Go
theorem whichF_lt {r:Rct} {L:List Rl} (h:L≠ []):whichF r L<L.length:=by
 have:=whichN_lt r L L.length
 have h2:0<L.length:=List.length_pos_iff.2 h
 unfold whichF;omega
theorem rectOk_sides {r:Rct}:rectOk r=true↔1≤r.c1∧r.c1≤r.c2∧r.c2≤1024∧1≤r.r1∧r.r1≤r.r2∧r.r2≤1024:=by
 unfold rectOk valid
 simp only [Bool.and_eq_true,decide_eq_true_eq]
 omega
structure CellOf (r:Rct) (A B:List Rl) (y x:Int × Int):Prop where
 row:y∈bandsF r.r1 r.r2 (rowsOf r A++rowsOf r B)
 col:x∈bandsF r.c1 r.c2 (colsOf r A++colsOf r B)
def gridR (y x:Int × Int):Rct:=⟨x.1,y.1,x.2,y.2⟩
theorem snocRec {α:Type} {p:List α→Prop} (h0:p []) (h1: ∀ l a,p l→p (l++ [a])) (l:List α):p l:=by
 have h: ∀ m:List α,p m.reverse:=fun m=>by
  induction m with
  |nil=>exact h0
  |cons a m ih=>rw [List.reverse_cons];exact h1 _ _ ih
 have:=h l.reverse
 rwa [List.reverse_reverse] at this
theorem grow_a {l:List Pz} {p:Pz} {k:Nat}:k∈(growZ l p).map (·.a)↔k∈l.map (·.a)∨k=p.a:=by
 unfold growZ
 cases h:l.getLast? with
 |none=>
  rw [List.getLast?_eq_none_iff.1 h];simp
 |some q=>
  have hne:l≠ []:=fun e=>by rw [e] at h;cases h
  have hq:l.getLast hne=q:=by rw [List.getLast?_eq_some_getLast hne] at h;exact Option.some.inj h
  have he:=List.dropLast_concat_getLast hne
  rw [hq] at he
  dsimp only
  split
  ·
   rename_i hs
   rw [List.map_append,List.mem_append]
   conv=>rhs;rw [← he]
   rw [List.map_append,List.mem_append]
   simp only [List.map_cons,List.map_nil,List.mem_singleton]
   rw [← hs.1]
   exact ⟨.inl,fun h=>h.elim id .inr⟩
  ·
   rw [List.map_append,List.mem_append];simp
theorem row_a {A B:List Rl} {y:Int × Int} {k:Nat} (xs:List (Int × Int)):k∈(rowZ A B y xs).map (·.a)↔ ∃ x∈xs,k=(partOf A B y x).a:=by
 induction xs using snocRec with
 |h0=>simp [rowZ]
 |h1 xs x ih=>
  rw [rowZ_snoc,grow_a,ih]
  simp only [List.mem_append,List.mem_singleton]
  constructor
  ·
   rintro (⟨z,hz,h⟩|h)
   ·
    exact ⟨z,.inl hz,h⟩
   ·
    exact ⟨x,.inr rfl,h⟩
  ·
   rintro ⟨z,hz|rfl,h⟩
   ·
    exact .inl ⟨z,hz,h⟩
   ·
    exact .inr h
theorem parts_a {r:Rct} {A B:List Rl} {k:Nat}:k∈(partsF r A B).map (·.a)↔ ∃ y x,CellOf r A B y x∧k=(partOf A B y x).a:=by
 unfold partsF
 rw [List.map_flatMap,List.mem_flatMap]
 constructor
 ·
  rintro ⟨y,hy,h⟩
  obtain ⟨x,hx,h2⟩:=(row_a _).1 h
  exact ⟨y,x,⟨hy,hx⟩,h2⟩
 ·
  rintro ⟨y,x,h,h2⟩
  exact ⟨y,h.row,(row_a _).2 ⟨x,h.col,h2⟩⟩
def ltPz (p q:Pz):Prop:=p.rect.r1<q.rect.r1∨(p.rect.r1=q.rect.r1∧p.rect.c1<q.rect.c1)
theorem grow_row {l:List Pz} {p:Pz} {y c:Int} (hp:p.rect.r1=y) (hl: ∀ q∈l,q.rect.r1=y∧q.rect.c1<p.rect.c1) (hc:p.rect.c1≤c) (hs:l.Pairwise ltPz):(growZ l p).Pairwise ltPz∧ ∀ q∈growZ l p,q.rect.r1=y∧q.rect.c1≤c:=by
 unfold growZ
 cases h:l.getLast? with
 |none=>
  exact ⟨List.pairwise_singleton _ _,fun q hq=>by rw [List.mem_singleton.1 hq];exact ⟨hp,hc⟩⟩
 |some q=>
  have hne:l≠ []:=fun e=>by rw [e] at h;cases h
  have hq:l.getLast hne=q:=by rw [List.getLast?_eq_some_getLast hne] at h;exact Option.some.inj h
  have he:=List.dropLast_concat_getLast hne
  rw [hq] at he
  have hql:q∈l:=by rw [← hq];exact List.getLast_mem hne
  dsimp only
  split
  ·
   rw [← he] at hs
   obtain ⟨s1,_,s3⟩:=List.pairwise_append.1 hs
   refine ⟨List.pairwise_append.2 ⟨s1,List.pairwise_singleton _ _,fun a ha b hb=> ?_⟩,fun a ha=> ?_⟩
   ·
    rw [List.mem_singleton.1 hb]
    exact s3 a ha q (List.mem_singleton.2 rfl)
   ·
    rcases List.mem_append.1 ha with ha|ha
    ·
     have:=hl a (List.dropLast_subset l ha);omega
    ·
     rw [List.mem_singleton.1 ha]
     have:=hl q hql;simp only;omega
  ·
   refine ⟨List.pairwise_append.2 ⟨hs,List.pairwise_singleton _ _,fun a ha b hb=> ?_⟩,fun a ha=> ?_⟩
   ·
    rw [List.mem_singleton.1 hb]
    have:=hl a ha
    exact .inr ⟨by omega,this.2⟩
   ·
    rcases List.mem_append.1 ha with ha|ha
    ·
     have:=hl a ha;omega
    ·
     rw [List.mem_singleton.1 ha];exact ⟨hp,hc⟩
theorem row_sorted {A B:List Rl} {y:Int × Int} (xs:List (Int × Int)) (hs:xs.Pairwise fun p q=>p.1<q.1):(rowZ A B y xs).Pairwise ltPz∧ ∀ q∈rowZ A B y xs,q.rect.r1=y.1∧ ∃ x∈xs,q.rect.c1≤x.1:=by
 induction xs using snocRec with
 |h0=>exact ⟨.nil,fun q hq=>by cases hq⟩
 |h1 xs x ih=>
  obtain ⟨s1,_,s3⟩:=List.pairwise_append.1 hs
  obtain ⟨i1,i2⟩:=ih s1
  rw [rowZ_snoc]
  have:=grow_row (l:=rowZ A B y xs) (p:=partOf A B y x) (y:=y.1) (c:=x.1) rfl (fun q hq=>by
   obtain ⟨h1,z,hz,h2⟩:=i2 q hq
   have:=s3 z hz x (List.mem_singleton.2 rfl)
   exact ⟨h1,by show q.rect.c1<x.1;omega⟩) (Int.le_refl _) i1
  exact ⟨this.1,fun q hq=>⟨(this.2 q hq).1,x,by simp,(this.2 q hq).2⟩⟩
theorem parts_sorted (r:Rct) (A B:List Rl):(partsF r A B).Pairwise ltPz:=by
 unfold partsF
 have hx:(bandsF r.c1 r.c2 (colsOf r A++colsOf r B)).Pairwise fun p q=>p.1<q.1:=by
  refine (bands_sorted _ _ _).imp_of_mem fun {p q} hp _ h=> ?_
  have:=bands_mem hp;omega
 have hy:(bandsF r.r1 r.r2 (rowsOf r A++rowsOf r B)).Pairwise fun p q=>p.1<q.1:=by
  refine (bands_sorted _ _ _).imp_of_mem fun {p q} hp _ h=> ?_
  have:=bands_mem hp;omega
 generalize bandsF r.r1 r.r2 (rowsOf r A++rowsOf r B)=ys at hy
 generalize bandsF r.c1 r.c2 (colsOf r A++colsOf r B)=xs at hx
 induction ys with
 |nil=>exact .nil
 |cons y ys ih=>
  obtain ⟨k1,k2⟩:=List.pairwise_cons.1 hy
  rw [List.flatMap_cons]
  refine List.pairwise_append.2 ⟨(row_sorted xs hx).1,ih k2,fun p hp q hq=> ?_⟩
  obtain ⟨z,hz,hq⟩:=List.mem_flatMap.1 hq
  have h1:=((row_sorted (A:=A) (B:=B) (y:=y) xs hx).2 p hp).1
  have h2:=((row_sorted (A:=A) (B:=B) (y:=z) xs hx).2 q hq).1
  have h3:=k1 z hz
  exact .inl (by omega)
end Go.SL
namespace Go.SL
open Go Go.Proofs
attribute [local irreducible] W WL WQ WG WA WX WLI WR WT WC WE VOp RW thn blk cutP scp retP retPP endB FnAt FnIn FnP ceP
--
def encBd (p:Int × Int):List Value:= [.int .i64 p.1,.int .i64 p.2]
theorem encBd_len (p:Int × Int):(encBd p).length=2:=rfl
theorem begins_snoc (lo:Int) (ps:List (Int × Int)) (p:Int × Int):beginsI lo (ps++ [p])=beginsI lo ps++ [p.1,p.2+1]:=by
 unfold beginsI;simp
def inBd (lo hi x:Int):Bool:=decide (lo≤x) && decide (x≤hi)
theorem pairs_set {l:List Int} {h x:Int} (hl:l≠ []):((pairsI l h).flatMap encBd).set (0+((pairsI l h).length - 1)*2+1) (vInt (x - 1))=(pairsI l (x - 1)).flatMap encBd:=by
 obtain ⟨f,a,h1,h2⟩:=pairsI_last l h (x - 1) hl
 rw [h1,h2]
 simp only [List.flatMap_append,List.length_append,List.length_singleton,Nat.add_sub_cancel,List.flatMap_cons,List.flatMap_nil,List.append_nil,encBd]
 rw [List.set_append_right _ _ (by rw [flat_length' encBd_len];omega),flat_length' encBd_len]
 congr 1
 rw [show 0+f.length*2+1 - f.length*2=1 by omega]
 rfl
set_option maxHeartbeats 8000000 in
theorem bands_at (lo hi : Int) (ps : List (Int × Int)) (lv : Value) (w : World) (hl : Reads w lv ps.length (ps.flatMap encBd)) (hn : ps.length ≤ 100000) (hlo : 0 ≤ lo ∧ lo ≤ 100000) (hhi : 0 ≤ hi ∧ hi ≤ 100000) (hps : ∀ p ∈ ps, 0 ≤ p.1 ∧ p.1 ≤ 100000 ∧ 0 ≤ p.2 ∧ p.2 ≤ 100000) :
    FnAt Tryz.prog 131 [.int .i64 lo, .int .i64 hi, lv] w fun v H => ∃ A cap, v = sl A (bandsF lo hi ps).length cap ∧ H = [.own A 143 2 (bandsF lo hi ps).length cap ((bandsF lo hi ps).flatMap encBd)] := by
  obtain ⟨Al, cl, rfl, hl1, hl2, hl3⟩ := hl
  refine fn_at Tryz.func131 rfl Tryz.ntmps131 rfl ?_
  repeat' (first | refine sT ?_ | refine sS ?_ | refine sT2 ?_ | refine sM fun _ => ?_ | (refine sC ?_ ?_ <;> intro hb <;> try omega) | fail)
  rename_i gb
  refine w_loopK [0, 1, 15, 16] rfl (fun y : Nat × Option Nat × Nat => [(7, sl y.2.1 (1 + 2 * y.1) y.2.2), (17, .int .i64 (y.1 : Int))]) (fun y => [.own y.2.1 3 1 (1 + 2 * y.1) y.2.2 ((beginsI lo (ps.take y.1)).map vInt)]) (fun y => y.1 ≤ ps.length) (fun y => ps.length - y.1) (0, some gb, 1) (Nat.zero_le _) sB mS ?_
  rintro ⟨i, A, c⟩ hi0
  dsimp only at hi0 ⊢
  by_cases hlt : i < ps.length
  · obtain ⟨gl, ol, rfl, hrl⟩ := hl3 (by omega)
    have he1 := hrl.elem encBd_len i hlt
    have hbs : beginsI lo (ps.take (i + 1)) = beginsI lo (ps.take i) ++ [ps[i].1, ps[i].2 + 1] := by rw [List.take_succ_eq_append_getElem hlt, begins_snoc]
    have hpb := hps _ (List.getElem_mem hlt)
    generalize ps[i] = p at he1 hbs hpb
    repeat' (first | ((with_reducible apply wl_append (A := A) (m := 2)); (iterate 3 exact rfl); exact pK; (intro w hm; exact hm.cells_own pK); exact rfl; (simp [Value.oneCell', sl]); omega; (simp only [maxLen]; omega); (intro A' cap' hA')) | refine sT ?_ | refine sS ?_ | refine sT2 ?_ | refine sN ?_ | refine sJ ?_ | refine sO ?_ | refine sM fun _ => ?_ | (refine sC ?_ ?_ <;> intro hb <;> try omega) | fail)
    all_goals first
      | (exfalso; omega)
      | (refine ⟨(i + 1, A', cap'), hlt, by dsimp only; omega, by exact sB, by exact sB, ?_⟩
         dsimp only
         rw [hbs, List.map_append]
         exact mS)
      | trace_state
  · have e : i = ps.length := by omega
    subst e
    rw [List.take_length]
    have hbl := beginsI_len lo ps
    have hs1 := fun (R : List Blk) => sortInts_in (beginsI lo ps) A c (by omega) R w
    have hsl : (sortI (beginsI lo ps)).length = 1 + 2 * ps.length := by rw [(sortI_perm _).length_eq, hbl]
    have hs2 := fun (R : List Blk) => CompactI_in (sortI (beginsI lo ps)) A c (by omega) R w
    rw [hbl] at hs1
    rw [hsl] at hs2
    have hcl := cmpN_len (sortI (beginsI lo ps))
    rw [hsl] at hcl
    have hcut : cutsI lo hi ps = (cmpN (sortI (beginsI lo ps))).filter (inBd lo hi) := rfl
    have hbd : ∀ x ∈ cmpN (sortI (beginsI lo ps)), 0 ≤ x ∧ x ≤ 100001 := fun x hx => by
      rw [mem_cmpN, (sortI_perm _).mem_iff, beginsI, List.mem_cons, List.mem_flatMap] at hx
      rcases hx with rfl | ⟨p, hp, hx⟩
      · omega
      · have := hps p hp
        simp at hx
        omega
    unfold bandsF
    rw [hcut]
    generalize cmpN (sortI (beginsI lo ps)) = C at hs2 hcl hbd
    refine w_nilrow 143 2 ?_
    repeat' (first | ((with_reducible apply wl_callin (f := 164)); exact rfl; exact rfl; exact FnIn.msub (hs1 _) (MSub.pick pK (MSub.refl _)); rintro _ _ ⟨rfl, rfl⟩) | ((with_reducible apply wl_callin (f := 165)); exact rfl; exact rfl; exact FnIn.msub (hs2 _) (MSub.pick pK (MSub.refl _)); rintro _ _ ⟨rfl, rfl⟩) | refine sT ?_ | refine sS ?_ | refine sT2 ?_ | refine sN ?_ | refine sM fun _ => ?_ | (refine sC ?_ ?_ <;> intro hb <;> try omega) | fail)
    all_goals first | (exfalso; omega) | skip
    refine w_loopK [0, 1, 33, 34] rfl (fun y : Nat × Option Nat × Nat => [(10, sl y.2.1 (pairsI ((C.take y.1).filter (inBd lo hi)) hi).length y.2.2), (35, .int .i64 (y.1 : Int))]) (fun y => [.own y.2.1 143 2 (pairsI ((C.take y.1).filter (inBd lo hi)) hi).length y.2.2 ((pairsI ((C.take y.1).filter (inBd lo hi)) hi).flatMap encBd), .own A 3 1 C.length c (C.map vInt)]) (fun y => y.1 ≤ C.length) (fun y => C.length - y.1) (0, none, 0) (Nat.zero_le _) sB mS ?_
    rintro ⟨k, A2, c2⟩ hk
    dsimp only at hk ⊢
    by_cases hlk : k < C.length
    · refine w_some (A := A) pK (by omega) fun gc hA => ?_
      subst hA
      have hrd : (C.map vInt)[0 + k * 1]? = some (.int .i64 C[k]) := refI hlk
      have hxb := hbd _ (List.getElem_mem hlk)
      have hfs : (C.take (k + 1)).filter (inBd lo hi) = if inBd lo hi C[k] = true then (C.take k).filter (inBd lo hi) ++ [C[k]] else (C.take k).filter (inBd lo hi) := by
        rw [List.take_succ_eq_append_getElem hlk, List.filter_append]
        cases h : inBd lo hi C[k] <;> simp [h]
      have hfl : ((C.take k).filter (inBd lo hi)).length ≤ 300000 := Nat.le_trans (List.length_filter_le _ _) (by rw [List.length_take]; omega)
      generalize hx : C[k] = x at hrd hxb hfs
      generalize hF : (C.take k).filter (inBd lo hi) = Fk at hfs hfl
      have hpl := pairsI_len hi Fk
      by_cases hin : lo ≤ x ∧ x ≤ hi
      · have hin2 : inBd lo hi x = true := by simp [inBd, hin.1, hin.2]
        rw [if_pos hin2] at hfs
        have hsn := pairsI_snoc x hi Fk
        rw [← hfs] at hsn
        have hpl2 := pairsI_len (x - 1) Fk
        by_cases h0 : Fk = []
        · subst h0
          rw [show pairsI [] (x - 1) = [] from rfl, List.nil_append] at hsn
          repeat' (first | ((with_reducible apply wl_v (d := 37)); exact rfl; (with_reducible apply v_indexAddr (j := k)); exact rfl; exact rfl; exact hlk) | ((with_reducible apply wl_v (d := 38)); exact rfl; (with_reducible apply v_load_own); exact rfl; exact pK; exact hrd) | ((with_reducible apply wl_v); exact rfl; (with_reducible apply v_buildAr); (iterate 5 exact rfl)) | ((with_reducible apply wl_append (A := A2) (m := 1)); (iterate 3 exact rfl); exact pK; (intro w hm; exact hm.cells_own pK); exact rfl; (simp [Value.oneCell', sl]); omega; (simp only [maxLen]; omega); (intro A' cap' hA')) | refine sT ?_ | refine sS ?_ | refine sT2 ?_ | refine sN ?_ | refine sJ ?_ | refine sO ?_ | refine sM fun _ => ?_ | (refine sC ?_ ?_ <;> intro hb <;> try omega) | fail)
          all_goals first
            | (exfalso; omega)
            | (refine ⟨(k + 1, A', cap'), hlk, by dsimp only; omega, ?_, by exact sB, ?_⟩
               · dsimp only; rw [hsn]; exact sB
               · dsimp only; rw [hsn]; exact mS)
            | trace_state
        · have hpos : 0 < Fk.length := List.length_pos_iff.2 h0
          have hset := pairs_set (h := hi) (x := x) h0
          rw [hpl] at hset
          refine w_some (A := A2) pK (by omega) fun g2 hA => ?_
          subst hA
          rw [hpl]
          repeat' (first | ((with_reducible apply wl_v (d := 37)); exact rfl; (with_reducible apply v_indexAddr (j := k)); exact rfl; exact rfl; exact hlk) | ((with_reducible apply wl_v (d := 38)); exact rfl; (with_reducible apply v_load_own); exact rfl; exact pK; exact hrd) | ((with_reducible apply wl_v (d := 53)); exact rfl; (with_reducible apply v_predN (a := Fk.length)); exact rfl; exact rfl; omega; (simp only [maxLen]; omega)) | ((with_reducible apply wl_v (d := 56)); exact rfl; (with_reducible apply v_indexAddr (j := Fk.length - 1)); exact rfl; exact rfl; omega) | ((with_reducible apply wl_store_own (v := vInt (x - 1)) (off := 0 + (Fk.length - 1) * 2 + 1)); exact rfl; exact rfl; exact pK; exact rfl; (rw [flat_length' encBd_len, hpl]; omega); rw [hset]) | ((with_reducible apply wl_v); exact rfl; (with_reducible apply v_buildAr); (iterate 5 exact rfl)) | ((with_reducible apply wl_append (A := some g2) (m := 1)); (iterate 3 exact rfl); exact pK; (intro w hm; exact hm.cells_own pK); exact rfl; (simp [Value.oneCell', sl]); omega; (simp only [maxLen]; omega); (intro A' cap' hA')) | refine sT ?_ | refine sS ?_ | refine sT2 ?_ | refine sN ?_ | refine sJ ?_ | refine sO ?_ | refine sM fun _ => ?_ | (refine sC ?_ ?_ <;> intro hb <;> try omega) | fail)
          all_goals first
            | (exfalso; omega)
            | (refine ⟨(k + 1, A', cap'), hlk, by dsimp only; omega, ?_, by exact sB, ?_⟩
               · dsimp only; rw [hsn, List.length_append, hpl2]; exact sB
               · dsimp only; rw [hsn, List.length_append, hpl2, List.flatMap_append]; exact mS)
            | trace_state
      · have hin2 : ¬ inBd lo hi x = true := by simp only [inBd, Bool.and_eq_true, decide_eq_true_eq]; exact hin
        rw [if_neg hin2] at hfs
        repeat' (first | ((with_reducible apply wl_v (d := 37)); exact rfl; (with_reducible apply v_indexAddr (j := k)); exact rfl; exact rfl; exact hlk) | ((with_reducible apply wl_v (d := 38)); exact rfl; (with_reducible apply v_load_own); exact rfl; exact pK; exact hrd) | refine sT ?_ | refine sS ?_ | refine sT2 ?_ | refine sN ?_ | refine sJ ?_ | refine sO ?_ | refine sM fun _ => ?_ | (refine sC ?_ ?_ <;> intro hb <;> try omega) | fail)
        all_goals first
          | (exfalso; omega)
          | (refine ⟨(k + 1, A2, c2), hlk, by dsimp only; omega, ?_, by exact sB, ?_⟩
             · dsimp only; rw [hfs]; exact sB
             · dsimp only; rw [hfs]; exact mS)
          | trace_state
    · have e : k = C.length := by omega
      subst e
      rw [List.take_length]
      repeat' (first | refine sT ?_ | refine sS ?_ | refine sT2 ?_ | refine sM fun _ => ?_ | (refine sC ?_ ?_ <;> intro hb <;> try omega) | fail)
      all_goals first
        | (exfalso; omega)
        | (exact ret1 eIO rfl rfl mS ⟨A2, c2, rfl, rfl⟩)
        | trace_state
end Go.SL
namespace Go.SL
open Go Go.Proofs
def encII (p:Nat × Nat):List Value:= [.int .i64 (p.1:Int),.int .i64 (p.2:Int)]
theorem run_eqII (w:World) (d:Nat) (a b:Nat × Nat):(Op.equalIn (d+5) 143 (.agg (encII a).toArray) (.agg (encII b).toArray)).run Tryz.prog w= .ok (decide (a=b)) w:=by
 obtain ⟨i,h1,h2⟩:=(inferInstance:Size Tryz.prog 3 1).out
 have hc:Tryz.prog.cellsOf 3=1:=by kernel_rfl
 rw [run_equalIn_array w (d+4) (encII a).toArray (encII b).toArray Tryz.underlying143 h1,hc,show List.range 2= [0,1] from rfl]
 have hr: ∀ (a b:Int) w,(Op.equalIn (d+4) 3 (.int .i64 a) (.int .i64 b)).run Tryz.prog w= .ok (a==b) w:=fun a b w=>run_equalIn_int w (d+3) 3 .i64 .i64 a b Tryz.underlying3
 have hpa: ∀ (c:Nat × Nat) w,(part 3 (encII c).toArray 0).run Tryz.prog w= .ok (.int .i64 (c.1:Int)) w:=by
  intro c w
  simp [part,go_sem,encII]
 have hpb: ∀ (c:Nat × Nat) w,(part 3 (encII c).toArray 1).run Tryz.prog w= .ok (.int .i64 (c.2:Int)) w:=by
  intro c w
  simp [part,go_sem,encII]
 have he:decide (a=b)=((a.1:Int)==b.1 && (a.2:Int)==b.2):=by
  obtain ⟨a1,a2⟩:=a
  obtain ⟨b1,b2⟩:=b
  rw [Bool.eq_iff_iff]
  simp
  omega
 rw [he]
 by_cases h1:((a.1:Int)==b.1)=true<;>by_cases h2:((a.2:Int)==b.2)=true<;>simp [Op.eqItems,hpa,hpb,hr,h1,h2]
theorem v_eqlII {w0:World} {s:Slots} {H:List Blk} {ty t' :TypeId} {x y:Operand} {a b:Nat × Nat} {c:Bool} (hc:decide (a=b)=c) (hx:ev s x=some (.agg (encII a).toArray)) (hy:ev s y=some (.agg (encII b).toArray)):VOp Tryz.prog w0 s H (.binOp .eql 143 x y t') ty (.bool c):=fun ρ w _ _ _ _ hρ _=>by
 subst hc
 have h:=run_eqII w 9995 a b
 simp only [Nat.reduceAdd] at h
 simp only [execOp,hρ x _ hx,hρ y _ hy,Sem.run_bind,run_eqGuard_agg w _ _ _ _ _ _ Tryz.eqGuardType143,Result.andThen_ok,run_eql_struct,h,Sem.run_pure]
end Go.SL
namespace Go.SL
open Go Go.Proofs
attribute [local irreducible] W WL WQ WG WA WX WLI WR WT WC WE VOp RW thn blk cutP scp retP retPP endB FnAt FnIn FnP ceP
theorem meet_ok {a b:Rct} (h:(meetR a b).2=true):rectOk (meetR a b).1=true:=by
 unfold meetR at h ⊢
 split at h
 ·
  rename_i hall
  rw [if_pos hall]
  simp only [List.all_cons,List.all_nil,Bool.and_true,Bool.and_eq_true] at hall
  exact hall.2.2
 ·
  cases h
theorem colsOf_snoc (r:Rct) (L:List Rl) (x:Rl):colsOf r (L++ [x])=colsOf r L++if (meetR x.rect r).2=true then [((meetR x.rect r).1.c1,(meetR x.rect r).1.c2)] else []:=by
 unfold colsOf;simp
theorem rowsOf_snoc (r:Rct) (L:List Rl) (x:Rl):rowsOf r (L++ [x])=rowsOf r L++if (meetR x.rect r).2=true then [((meetR x.rect r).1.r1,(meetR x.rect r).1.r2)] else []:=by
 unfold rowsOf;simp
theorem colsOf_len (r:Rct): ∀ L:List Rl,(colsOf r L).length≤L.length
 | []=>Nat.le_refl _
 |x::L=>by
  have:=colsOf_len r L
  unfold colsOf at this ⊢
  rw [List.flatMap_cons,List.length_append]
  split<;>simp only [List.length_cons,List.length_nil]<;>omega
theorem rowsOf_len (r:Rct): ∀ L:List Rl,(rowsOf r L).length≤L.length
 | []=>Nat.le_refl _
 |x::L=>by
  have:=rowsOf_len r L
  unfold rowsOf at this ⊢
  rw [List.flatMap_cons,List.length_append]
  split<;>simp only [List.length_cons,List.length_nil]<;>omega
theorem colsOf_small {r:Rct} {L:List Rl}: ∀ p∈colsOf r L,0≤p.1∧p.1≤100000∧0≤p.2∧p.2≤100000:=fun p hp=>by
 obtain ⟨x,_,hx⟩:=List.mem_flatMap.1 hp
 split at hx
 ·
  rename_i h
  have:=rectOk_sides.1 (meet_ok h)
  rw [List.mem_singleton.1 hx]
  simp only;omega
 ·
  cases hx
theorem rowsOf_small {r:Rct} {L:List Rl}: ∀ p∈rowsOf r L,0≤p.1∧p.1≤100000∧0≤p.2∧p.2≤100000:=fun p hp=>by
 obtain ⟨x,_,hx⟩:=List.mem_flatMap.1 hp
 split at hx
 ·
  rename_i h
  have:=rectOk_sides.1 (meet_ok h)
  rw [List.mem_singleton.1 hx]
  simp only;omega
 ·
  cases hx
def pairB (g:Nat) (A:Option Nat) (c:Nat) (C:List (Int × Int)):List Blk:= [.box g 210 [sl A C.length c],.own A 143 2 C.length c (C.flatMap encBd)]
set_option maxHeartbeats 8000000 in
theorem note_in (r:Rct) (L:List Rl) (lv:Value) (gr gc gw:Nat) (A1 A2:Option Nat) (c1 c2:Nat) (C D:List (Int × Int)) (R:List Blk) (w0:World) (hl:Reads w0 lv L.length (L.flatMap encRl)) (hC:C.length+L.length≤100000) (hD:D.length+L.length≤100000):
  FnIn Tryz.prog 129 [lv,.pointer (some ⟨gr,0,none⟩),.pointer (some ⟨gc,0,none⟩),.pointer (some ⟨gw,0,none⟩)] w0 (.box gr 33 (encR r)::(pairB gc A1 c1 C++(pairB gw A2 c2 D++R))) fun v H=>
   v= .tuple #[]∧ ∃ A1' c1' A2' c2',H= .box gr 33 (encR r)::(pairB gc A1' c1' (C++colsOf r L)++(pairB gw A2' c2' (D++rowsOf r L)++R)):=by
 obtain ⟨Al,cl,rfl,hl1,hl2,hl3⟩:=hl
 refine fn_in Tryz.func129 rfl Tryz.ntmps129 rfl ?_
 simp only [pairB,List.append_eq,List.cons_append,List.nil_append]
 repeat' (first|refine sT ?_|refine sS ?_|refine sM fun _=> ?_|(refine sC ?_ ?_<;>intro hb<;>try omega)|fail)
 refine w_loopK [1,2,3,9,10] rfl (fun y:Nat × Option Nat × Nat × Option Nat × Nat=> [(11,.int .i64 (y.1:Int))]) (fun y=> .box gr 33 (encR r):: .box gc 210 [sl y.2.1 (C++colsOf r (L.take y.1)).length y.2.2.1]:: .own y.2.1 143 2 (C++colsOf r (L.take y.1)).length y.2.2.1 ((C++colsOf r (L.take y.1)).flatMap encBd):: .box gw 210 [sl y.2.2.2.1 (D++rowsOf r (L.take y.1)).length y.2.2.2.2]:: .own y.2.2.2.1 143 2 (D++rowsOf r (L.take y.1)).length y.2.2.2.2 ((D++rowsOf r (L.take y.1)).flatMap encBd)::R) (fun y=>y.1≤L.length) (fun y=>L.length - y.1) (0,A1,c1,A2,c2) (Nat.zero_le _) sB (by simp only [List.take_zero,colsOf,rowsOf,List.flatMap_nil,List.append_nil];exact mS) ?_
 rintro ⟨i,A1,c1,A2,c2⟩ hi
 dsimp only at hi ⊢
 by_cases hlt:i<L.length
 ·
  obtain ⟨gl,ol,rfl,hrl⟩:=hl3 (by omega)
  have he1:=hrl.elem encRl_len i hlt
  have hcs:=colsOf_snoc r (L.take i) L[i]
  have hws:=rowsOf_snoc r (L.take i) L[i]
  rw [← List.take_succ_eq_append_getElem hlt] at hcs hws
  have hcl:=colsOf_len r (L.take i)
  have hwl:=rowsOf_len r (L.take i)
  rw [List.length_take] at hcl hwl
  generalize L[i]=x at he1 hcs hws
  have hM:=fun w=>Meet_at x.rect r w
  generalize meetR x.rect r=mt at hM hcs hws
  obtain ⟨mr,mb⟩:=mt
  dsimp only at hM hcs hws
  generalize colsOf r (L.take i)=C1 at hcs hcl ⊢
  generalize rowsOf r (L.take i)=D1 at hws hwl ⊢
  have hCl:(C++C1).length≤200000:=by rw [List.length_append];omega
  have hDl:(D++D1).length≤200000:=by rw [List.length_append];omega
  have hC2:C++colsOf r (L.take (i+1))=(C++C1)++if mb=true then [(mr.c1,mr.c2)] else []:=by rw [hcs,List.append_assoc]
  have hD2:D++rowsOf r (L.take (i+1))=(D++D1)++if mb=true then [(mr.r1,mr.r2)] else []:=by rw [hws,List.append_assoc]
  generalize C++C1=C3 at hC2 hCl ⊢
  generalize D++D1=D3 at hD2 hDl ⊢
  cases mb
  ·
   rw [if_neg (by decide),List.append_nil] at hC2 hD2
   repeat' (first|((with_reducible apply wl_callp);exact rfl;exact rfl;(intro w hm;exact hM w))|refine sT ?_|refine sS ?_|refine sN ?_|refine sO ?_|refine sM fun _=> ?_|(refine sC ?_ ?_<;>intro hb<;>try omega)|fail)
   all_goals first
    |(exfalso;omega)
    |(refine ⟨(i+1,A1,c1,A2,c2),hlt,by dsimp only;omega,by exact sB,by exact sB,?_⟩;dsimp only;rw [hC2,hD2];exact mS)
    |trace_state
  ·
   rw [if_pos rfl] at hC2 hD2
   have hC4:(C3++ [(mr.c1,mr.c2)]).flatMap encBd=C3.flatMap encBd++ [.int .i64 mr.c1,.int .i64 mr.c2]:=by simp [encBd]
   have hD4:(D3++ [(mr.r1,mr.r2)]).flatMap encBd=D3.flatMap encBd++ [.int .i64 mr.r1,.int .i64 mr.r2]:=by simp [encBd]
   repeat' (first|((with_reducible apply wl_callp);exact rfl;exact rfl;(intro w hm;exact hM w))|((with_reducible apply wl_v);exact rfl;(with_reducible apply v_buildAr);(iterate 5 exact rfl))|((with_reducible apply wl_append (d:=30) (A:=A1) (m:=1));(iterate 3 exact rfl);exact pK;(intro w hm;exact hm.cells_own pK);exact rfl;(simp [Value.oneCell',sl]);omega;(simp only [maxLen];omega);(intro A3 c3 hA3))|((with_reducible apply wl_append (d:=38) (A:=A2) (m:=1));(iterate 3 exact rfl);exact pK;(intro w hm;exact hm.cells_own pK);exact rfl;(simp [Value.oneCell',sl]);omega;(simp only [maxLen];omega);(intro A4 c4 hA4))|refine sT ?_|refine sS ?_|refine sN ?_|refine sO ?_|refine sM fun _=> ?_|(refine sC ?_ ?_<;>intro hb<;>try omega)|fail)
   all_goals first
    |(exfalso;omega)
    |(refine ⟨(i+1,A3,c3,A4,c4),hlt,by dsimp only;omega,by exact sB,by exact sB,?_⟩;dsimp only;rw [hC2,hD2,hC4,hD4,List.length_append,List.length_append];exact mS)
    |trace_state
 ·
  have e:i=L.length:=by omega
  subst e
  rw [List.take_length]
  repeat' (first|refine sT ?_|refine sS ?_|refine sM fun _=> ?_|(refine sC ?_ ?_<;>intro hb<;>try omega)|fail)
  all_goals first
   |(exfalso;omega)
   |(exact ret0 eIO rfl (.refl _) ⟨rfl,A1,c1,A2,c2,rfl⟩)
   |trace_state
end Go.SL
namespace Go.SL
open Go Go.Proofs
attribute [local irreducible] W WL WQ WG WA WX WLI WR WT WC WE VOp RW thn blk cutP scp retP retPP endB FnAt FnIn FnP ceP
def cmpZ (p q:Pz):Int:=if p.rect.r1≠q.rect.r1 then p.rect.r1 - q.rect.r1 else p.rect.c1 - q.rect.c1
def smallZ (p:Pz):Prop:=0≤p.rect.r1∧p.rect.r1≤100000∧0≤p.rect.c1∧p.rect.c1≤100000
theorem cmpZ_at (p q:Pz) (hp:smallZ p) (hq:smallZ q) (w:World):Pure Tryz.prog 134 [.agg (encPz p).toArray,.agg (encPz q).toArray] w (.int .i64 (cmpZ p q)):=by
 refine fn_at Tryz.func134 rfl Tryz.ntmps134 rfl ?_
 obtain ⟨h1,h2,h3,h4⟩:=hp
 obtain ⟨h5,h6,h7,h8⟩:=hq
 repeat' (first|refine sT ?_|refine sJ ?_|refine sM fun _=> ?_|(refine sC ?_ ?_<;>intro hb<;>try omega)|fail)
 all_goals first
  |(exfalso;omega)
  |((refine rT1 ?_);rw [cmpZ,if_pos hb];done)
  |((refine rT1 ?_);rw [cmpZ,if_neg (fun h=>h hb)];done)
  |((refine rT1 ?_);rw [cmpZ,if_neg (fun h=>hb h)];done)
  |trace_state
structure InZ (L:List Pz):Prop where
 sort:L.Pairwise ltPz
 small: ∀ p∈L,smallZ p
 len:L.length≤1000000
theorem InZ.cmp {L:List Pz} (h:InZ L) {i j:Nat} (hij:i≤j) (hj:j<L.length): ∃ z:Int,0≤z∧ ∀ w,Pure Tryz.prog 134 [.agg (encPz L[j]).toArray,.agg (encPz (L[i]'(by omega))).toArray] w (.int .i64 z):=by
 refine ⟨_,?_,fun w=>cmpZ_at _ _ (h.small _ (List.getElem_mem hj)) (h.small _ (List.getElem_mem _)) w⟩
 by_cases e:i=j
 ·
  subst e;simp [cmpZ]
 ·
  have:=List.pairwise_iff_getElem.1 h.sort i j (by omega) hj (by omega)
  unfold cmpZ
  rcases this with h1|⟨h1,h2⟩
  ·
   rw [if_pos (by omega)];omega
  ·
   rw [if_neg (by omega)];omega
abbrev cmpV:Value:= .func (.func 134) #[] #[]
set_option maxHeartbeats 4000000 in
theorem insZ_at (L:List Pz) (hL:InZ L) (lv:Value) (w:World) (hl:Reads w lv L.length (L.flatMap encPz)) (a b:Nat) (hb:b≤L.length) (ha:a≤L.length):
  Pure Tryz.prog 213 [lv,.int .i64 (a:Int),.int .i64 (b:Int),cmpV] w (.tuple #[]):=by
 obtain ⟨Al,cl,rfl,hl1,hl2,hl3⟩:=hl
 refine fn_at Tryz.func213 rfl Tryz.ntmps213 rfl ?_
 have hlen:=hL.len
 repeat' (first|refine sT ?_|refine sS ?_|refine sN ?_|refine sM fun _=> ?_|(refine sC ?_ ?_<;>intro hb<;>try omega)|fail)
 refine w_loopK [0,1,2,3] rfl (fun i:Nat=> [(8,.int .i64 (i:Int))]) (fun _=> []) (fun i=>a+1≤i∧i≤max b (a+1)) (fun i=>max b (a+1) - i) (a+1) ⟨Nat.le_refl _,by omega⟩ sB mS ?_
 rintro i ⟨hi,hi2⟩
 by_cases hlt:i<b
 ·
  obtain ⟨gl,ol,rfl,hrl⟩:=hl3 (by omega)
  obtain ⟨z,hz,hc⟩:=hL.cmp (i:=i - 1) (j:=i) (by omega) (by omega)
  have h1:=hrl.elem encPz_len i (by omega)
  have h2:=hrl.elem encPz_len (i - 1) (by omega)
  generalize L[i]'(by omega)=p at h1 hc
  generalize L[i - 1]'(by omega)=q at h2 hc
  repeat' (first|refine sT ?_|refine sS ?_|refine sN ?_|refine sM fun _=> ?_|(refine sC ?_ ?_<;>intro hb<;>try omega)|fail)
  all_goals first|(exfalso;omega)|skip
  refine w_loopK [0,1,2,3,8] rfl (fun _:Unit=> [(9,.int .i64 (i:Int))]) (fun _=> []) (fun _=>True) (fun _=>0) () trivial sB mS ?_
  rintro _ _
  repeat' (first|((with_reducible apply w_draw (id:=4));kernel_rfl;kernel_rfl)|((with_reducible apply wq_v (d:=25));exact rfl;(with_reducible apply v_indexAddr (j:=i));exact rfl;exact rfl;omega)|((with_reducible apply wq_v (d:=30));exact rfl;(with_reducible apply v_indexAddr (j:=i - 1));exact rfl;exact rfl;omega)|((with_reducible apply wq_v (d:=26));exact rfl;(with_reducible apply v_loadw_ro (xs:=encPz p));exact rfl;exact h1;exact rfl)|((with_reducible apply wq_v (d:=31));exact rfl;(with_reducible apply v_loadw_ro (xs:=encPz q));exact rfl;exact h2;exact rfl)|((with_reducible apply wq_callvp);exact rfl;exact rfl;infer_instance;exact rfl;(intro w' _;exact hc w'))|refine sT ?_|refine sS ?_|refine sQ ?_|refine sN ?_|refine sNQ ?_|refine sO ?_|refine sOQ ?_|refine sD ?_|refine sM fun _=> ?_|(refine sC ?_ ?_<;>intro hb<;>try omega)|(refine sCQ ?_ ?_<;>intro hb<;>try omega)|fail)
  all_goals first
   |(exfalso;omega)
   |(refine ⟨i+1,⟨by omega,by omega⟩,by omega,by exact sB,by exact sB,by exact mS⟩;done)
   |trace_state
 ·
  repeat' (first|refine sT ?_|refine sS ?_|refine sM fun _=> ?_|(refine sC ?_ ?_<;>intro hb<;>try omega)|fail)
  all_goals first
   |(exfalso;omega)
   |(exact ret0 eIO rfl (MSub.nil _) rfl)
   |trace_state
end Go.SL
