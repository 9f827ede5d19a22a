/-
  Lemmas and walks, put together: Ij Ik Il Ii.
-/
import Derived.Test.YthefeclkaaocnaaGreatDoorKb20
set_option linter.unusedSimpArgs false
set_option linter.unusedVariables false
set_option maxRecDepth 20000
namespace Go.SL
open Go Go.Proofs
attribute [local irreducible] W WL WQ WG WA WX WLI WR WT WC WE VOp RW thn blk cutP scp retP retPP endB FnAt FnIn FnP ceP
theorem bkHas_at (o:Ox) (e:Et) (go:Nat) (w:World) (ho:Ro w go 0 (encOx o)):Pure Tryz.prog 58 [.agg (encEt e).toArray,.pointer (some ⟨go,0,none⟩)] w (.bool (hasR o.rect e.at_)):=by
 refine fn_at Tryz.func58 rfl Tryz.ntmps58 rfl ?_
 have h1:=fun w=>Has_at o.rect e.at_ w
 generalize hasR o.rect e.at_=c at h1 ⊢
 have ho2:=(Ox.ro ho).1
 repeat' (first|((with_reducible apply wl_callp);exact rfl;exact rfl;(intro w hm;exact h1 w))|refine sT ?_|refine sO ?_|refine sM fun _=> ?_|(refine sC ?_ ?_<;>intro hb<;>try omega)|fail)
 all_goals first|(exfalso;omega)|((refine rT1 ?_);rfl)|trace_state
theorem refE {L:List Et} {k:Nat} (h:k<L.length):((L.flatMap encEt).drop (0+k*3)).take 3=encEt L[k]:=by
 rw [Nat.zero_add];exact flat_elem encEt_len L k h
section
variable (L:List Et) (o:Ox) (go:Nat) (cap:Nat) (R:List Blk) (w0:World)
def delK (o:Ox) (e:Et):Bool:= !hasR o.rect e.at_
def idxE (o:Ox) (L:List Et):Int:=match L.findIdx? (fun e=>hasR o.rect e.at_) with|some i=>(i:Int)|none=> -1
theorem idxE_some {o:Ox} {L:List Et} {i:Nat} (h:i<L.length) (hq:hasR o.rect L[i].at_=true) (hno: ∀ j (h:j<L.length),j<i→hasR o.rect L[j].at_=false):idxE o L=(i:Int)∧L.filter (delK o)=L.take i++(L.drop (i+1)).filter (delK o):=by
 constructor
 ·
  have:L.findIdx? (fun e=>hasR o.rect e.at_)=some i:=by
   rw [List.findIdx?_eq_some_iff_getElem]
   exact ⟨h,hq,fun j hj=>by simpa using hno j (by omega) hj⟩
  unfold idxE;rw [this]
 ·
  have h1:(L.take i).filter (delK o)=L.take i:=List.filter_eq_self.2 fun e he=>by
   obtain ⟨j,hj,rfl⟩:=List.mem_iff_getElem.1 he
   rw [List.length_take] at hj
   rw [List.getElem_take]
   simp [delK,hno j (by omega) (by omega)]
  conv=>lhs;rw [← List.take_append_drop i L]
  rw [List.filter_append,h1,List.drop_eq_getElem_cons h,List.filter_cons,if_neg (by simp [delK,hq])]
theorem idxE_none {o:Ox} {L:List Et} (hno: ∀ j (h:j<L.length),hasR o.rect L[j].at_=false):idxE o L= -1∧L.filter (delK o)=L:=by
 constructor
 ·
  have:L.findIdx? (fun e=>hasR o.rect e.at_)=none:=by
   rw [List.findIdx?_eq_none_iff]
   intro e he
   obtain ⟨j,hj,rfl⟩:=List.mem_iff_getElem.1 he
   exact hno j hj
  unfold idxE;rw [this]
 ·
  refine List.filter_eq_self.2 fun e he=> ?_
  obtain ⟨j,hj,rfl⟩:=List.mem_iff_getElem.1 he
  simp [delK,hno j hj]
theorem idxF0_in (B:Option Addr) (cap:Nat) (fv:Value) (F:List Blk) (w0:World):
  FnIn Tryz.prog 123 [.slice B 0 cap,fv] w0 F fun v H=>v= .int .i64 (-1)∧H=F:=by
 refine fn_in Tryz.func123 rfl Tryz.ntmps123 rfl ?_
 repeat' (first|refine sT ?_|refine sS ?_|refine sM fun _=> ?_|(refine sC ?_ ?_<;>intro hb<;>try omega)|fail)
 refine w_loopK [7] rfl (fun _:Unit=> [(8,.int .i64 0)]) (fun _=>F) (fun _=>True) (fun _=>0) () trivial sB mS ?_
 rintro _ _
 repeat' (first|refine sT ?_|refine sS ?_|refine sM fun _=> ?_|(refine sC ?_ ?_<;>intro hb<;>try omega)|fail)
 all_goals first
  |(exfalso;omega)
  |(refine ret1 eIO rfl rfl (.refl _) ?_;exact ⟨rfl,rfl⟩)
  |trace_state
set_option maxHeartbeats 4000000 in
theorem idxF_in (g : Nat) (hL : L.length ≤ 1000000) (hgo : In (.box go 41 (encOx o)) R) :
    FnIn Tryz.prog 123 [.slice (some ⟨g, 0, none⟩) L.length cap, .func (.func 58) #[] #[.pointer (some ⟨go, 0, none⟩)]] w0 (.own (some g) 53 3 L.length cap (L.flatMap encEt) :: R) fun v H => v = .int .i64 (idxE o L) ∧ H = .own (some g) 53 3 L.length cap (L.flatMap encEt) :: R := by
  refine fn_in Tryz.func123 rfl Tryz.ntmps123 rfl ?_
  have hP := fun (e : Et) (w' : World) (H : List Blk) (hi : In (.box go 41 (encOx o)) H) (hm : Mem w0 w' H) => bkHas_at o e go w' (Ro.of_box hm hi)
  repeat' (first | refine sT ?_ | refine sS ?_ | refine sM fun _ => ?_ | (refine sC ?_ ?_ <;> intro hb <;> try omega) | fail)
  refine w_loopK [0, 1, 7] rfl (fun i : Nat => [(8, .int .i64 (i : Int))]) (fun _ => .own (some g) 53 3 L.length cap (L.flatMap encEt) :: R) (fun i => i ≤ L.length ∧ ∀ j (h : j < L.length), j < i → hasR o.rect L[j].at_ = false) (fun i => L.length - i) 0 ⟨by omega, fun j _ h => by omega⟩ sB mS ?_
  rintro i ⟨hi, hno⟩
  by_cases hlt : i < L.length
  · have hr1 := refE hlt
    have hP1 := hP L[i]
    obtain ⟨c, hc⟩ : ∃ c, hasR o.rect L[i].at_ = c := ⟨_, rfl⟩
    rw [hc] at hP1
    cases c
    · repeat' (first | ((with_reducible apply wl_v); exact rfl; (with_reducible apply v_indexAddr (j := i)); exact rfl; exact rfl; omega) | ((with_reducible apply wl_v); exact rfl; (with_reducible apply v_loads_own); exact rfl; exact pK; exact hr1; exact rfl) | ((with_reducible apply wl_callvp (f := 58)); exact rfl; exact rfl; infer_instance; exact rfl; (intro w' hm; exact hP1 w' _ (.tl hgo) hm)) | refine sT ?_ | refine sS ?_ | refine sN ?_ | refine sM fun _ => ?_ | (refine sC ?_ ?_ <;> intro hb <;> try omega) | fail)
      all_goals first
        | (exfalso; omega)
        | (refine ⟨i + 1, ⟨hlt, fun j hj hji => ?_⟩, by omega, by exact sB, by exact sB, by exact mS⟩
           rcases (by omega : j < i ∨ j = i) with h | rfl
           · exact hno j hj h
           · exact hc)
        | trace_state
    · repeat' (first | ((with_reducible apply wl_v); exact rfl; (with_reducible apply v_indexAddr (j := i)); exact rfl; exact rfl; omega) | ((with_reducible apply wl_v); exact rfl; (with_reducible apply v_loads_own); exact rfl; exact pK; exact hr1; exact rfl) | ((with_reducible apply wl_callvp (f := 58)); exact rfl; exact rfl; infer_instance; exact rfl; (intro w' hm; exact hP1 w' _ (.tl hgo) hm)) | refine sT ?_ | refine sS ?_ | refine sN ?_ | refine sM fun _ => ?_ | (refine sC ?_ ?_ <;> intro hb <;> try omega) | fail)
      all_goals first
        | (exfalso; omega)
        | (refine ret1 eIO rfl rfl (.refl _) ?_; rw [(idxE_some hlt hc hno).1]; exact ⟨rfl, rfl⟩)
        | trace_state
  · have e := (idxE_none (o := o) (L := L) fun j hj => hno j hj (by omega)).1
    repeat' (first | refine sT ?_ | refine sS ?_ | refine sM fun _ => ?_ | (refine sC ?_ ?_ <;> intro hb <;> try omega) | fail)
    all_goals first
      | (exfalso; omega)
      | (refine ret1 eIO rfl rfl (.refl _) ?_; rw [e]; exact ⟨rfl, rfl⟩)
      | trace_state
set_option maxHeartbeats 8000000 in
theorem delF_in (A : Option Nat) (hL : L.length ≤ 1000000) (hgo : In (.box go 41 (encOx o)) R) :
    FnIn Tryz.prog 57 [sl A L.length cap, .func (.func 58) #[] #[.pointer (some ⟨go, 0, none⟩)]] w0 (.own A 53 3 L.length cap (L.flatMap encEt) :: R) fun v H => v = sl A (L.filter (delK o)).length cap ∧ H = .own A 53 3 (L.filter (delK o)).length cap ((L.filter (delK o)).flatMap encEt) :: R := by
  refine fn_in Tryz.func57 rfl Tryz.ntmps57 rfl ?_
  refine w_le (A := A) .hd fun hle => ?_
  rcases Nat.eq_zero_or_pos L.length with h0 | hpos
  · have e : L = [] := List.eq_nil_of_length_eq_zero h0
    subst e
    have hI := idxF0_in (A.map fun g => ⟨g, 0, none⟩) cap (.func (.func 58) #[] #[.pointer (some ⟨go, 0, none⟩)]) (.own A 53 3 0 cap [] :: R) w0
    repeat' (first | ((with_reducible apply wl_callin (f := 123)); exact rfl; exact rfl; exact hI; rintro _ _ ⟨rfl, rfl⟩) | refine sT ?_ | refine sS ?_ | refine sN ?_ | refine sM fun _ => ?_ | (refine sC ?_ ?_ <;> intro hb <;> try omega) | fail)
    all_goals first
      | (exfalso; omega)
      | (refine ret1 eIO rfl rfl (.refl _) ?_; exact ⟨rfl, rfl⟩)
      | trace_state
  · refine w_some (A := A) .hd hpos fun g hA => ?_
    subst hA
    have hP := fun (e : Et) (w' : World) (H : List Blk) (hi : In (.box go 41 (encOx o)) H) (hm : Mem w0 w' H) => bkHas_at o e go w' (Ro.of_box hm hi)
    have hI := idxF_in L o go cap R w0 g hL hgo
    rcases hfi : L.findIdx? (fun e => hasR o.rect e.at_) with _ | k
    · have hno : ∀ j (h : j < L.length), hasR o.rect L[j].at_ = false := fun j hj => by
        simpa using List.findIdx?_eq_none_iff.1 hfi L[j] (List.getElem_mem hj)
      obtain ⟨e1, e2⟩ := idxE_none (o := o) (L := L) hno
      rw [e1] at hI
      rw [e2]
      repeat' (first | ((with_reducible apply wl_callin (f := 123)); exact rfl; exact rfl; exact hI; rintro _ _ ⟨rfl, rfl⟩) | refine sT ?_ | refine sS ?_ | refine sN ?_ | refine sM fun _ => ?_ | (refine sC ?_ ?_ <;> intro hb <;> try omega) | fail)
      all_goals first
        | (exfalso; omega)
        | (refine ret1 eIO rfl rfl (.refl _) ?_; exact ⟨rfl, rfl⟩)
        | trace_state
    · obtain ⟨hkl, hq, hno⟩ := List.findIdx?_eq_some_iff_getElem.1 hfi
      obtain ⟨e1, e2⟩ := idxE_some (o := o) (L := L) hkl hq fun j hj hjk => by simpa using hno j hjk
      rw [e1] at hI
      rw [e2]
      repeat' (first | ((with_reducible apply wl_callin (f := 123)); exact rfl; exact rfl; exact hI; rintro _ _ ⟨rfl, rfl⟩) | refine sT ?_ | refine sS ?_ | refine sN ?_ | refine sM fun _ => ?_ | (refine sC ?_ ?_ <;> intro hb <;> try omega) | fail)
      all_goals first | (exfalso; omega) | skip
      refine w_loopK [0, 1] rfl (fun y : Nat × Nat × List Et => [(6, .int .i64 (y.1 : Int)), (5, .int .i64 (y.2.1 : Int))]) (fun y => .own (some g) 53 3 L.length cap (y.2.2.flatMap encEt) :: R) (fun y => k + 1 ≤ y.1 ∧ y.1 ≤ L.length ∧ y.2.1 < y.1 ∧ y.2.2.length = L.length ∧ y.2.2.take y.2.1 = L.take k ++ ((L.drop (k + 1)).take (y.1 - (k + 1))).filter (delK o) ∧ ∀ j, y.1 ≤ j → y.2.2[j]? = L[j]?) (fun y => L.length - y.1) (k + 1, k, L) ⟨Nat.le_refl _, by omega, Nat.lt_succ_self k, rfl, by simp, fun _ _ => rfl⟩ sB mS ?_
      rintro ⟨j, i, ys⟩ ⟨hj1, hj2, hij, hyl, hyt, hyj⟩
      dsimp only at hj1 hj2 hij hyl hyt hyj ⊢
      by_cases hlt : j < L.length
      · have hjy : j < ys.length := by omega
        have hr1 := refE (L := ys) hjy
        have he1 : ys[j] = L[j] := by
          have := hyj j (by omega)
          rw [List.getElem?_eq_getElem hjy, List.getElem?_eq_getElem hlt] at this
          exact Option.some.inj this
        rw [he1] at hr1
        have hst : ((L.drop (k + 1)).take (j + 1 - (k + 1))).filter (delK o) = ((L.drop (k + 1)).take (j - (k + 1))).filter (delK o) ++ (if delK o L[j] then [L[j]] else []) := by
          rw [show j + 1 - (k + 1) = j - (k + 1) + 1 by omega, List.take_succ_eq_append_getElem (by rw [List.length_drop]; omega), List.filter_append, List.getElem_drop]
          congr 1
          rw [show L[k + 1 + (j - (k + 1))]'(by omega) = L[j] by congr 1; omega, List.filter_cons, List.filter_nil]
        have hP1 := hP L[j]
        obtain ⟨c, hc⟩ : ∃ c, hasR o.rect L[j].at_ = c := ⟨_, rfl⟩
        rw [hc] at hP1
        cases c with
        | true =>
          rw [if_neg (by simp [delK, hc]), List.append_nil] at hst
          repeat' (first | ((with_reducible apply wl_v); exact rfl; (with_reducible apply v_indexAddr (j := j)); exact rfl; exact rfl; omega) | ((with_reducible apply wl_v); exact rfl; (with_reducible apply v_loads_own); exact rfl; exact pK; exact hr1; exact rfl) | ((with_reducible apply wl_callvp (f := 58)); exact rfl; exact rfl; infer_instance; exact rfl; (intro w' hm; exact hP1 w' _ (.tl (.tl hgo)) hm)) | refine sT ?_ | refine sS ?_ | refine sN ?_ | refine sM fun _ => ?_ | (refine sC ?_ ?_ <;> intro hb <;> try omega) | fail)
          all_goals first
            | (exfalso; omega)
            | (refine ⟨(j + 1, i, ys), ⟨by dsimp only; omega, by dsimp only; omega, by dsimp only; omega, hyl, by dsimp only; rw [hyt, hst], fun t ht => hyj t (by dsimp only at ht; omega)⟩, by dsimp only; omega, by exact sB, by exact sB, by exact mS⟩; done)
            | trace_state
        | false =>
          rw [if_pos (by simp [delK, hc])] at hst
          have hput := flat_set encEt_len ys i (by omega) L[j]
          repeat' (first | ((with_reducible apply wl_v); exact rfl; (with_reducible apply v_indexAddr (j := j)); exact rfl; exact rfl; omega) | ((with_reducible apply wl_v); exact rfl; (with_reducible apply v_indexAddr (j := i)); exact rfl; exact rfl; omega) | ((with_reducible apply wl_v); exact rfl; (with_reducible apply v_loads_own); exact rfl; exact pK; exact hr1; exact rfl) | ((with_reducible apply wl_callvp (f := 58)); exact rfl; exact rfl; infer_instance; exact rfl; (intro w' hm; exact hP1 w' _ (.tl (.tl hgo)) hm)) | ((with_reducible apply wl_put_own (vs := encEt L[j]) (off := 0 + i * 3)); exact rfl; exact rfl; exact pK; exact rfl; exact rfl; (intro u hu; simp [encEt] at hu; rcases hu with rfl | rfl | rfl <;> rfl); (rw [flat_length' encEt_len, hyl]; omega); rw [Nat.zero_add, hput]) | refine sT ?_ | refine sS ?_ | refine sN ?_ | refine sM fun _ => ?_ | (refine sC ?_ ?_ <;> intro hb <;> try omega) | fail)
          all_goals first
            | (exfalso; omega)
            | (refine ⟨(j + 1, i + 1, ys.set i L[j]), ⟨by dsimp only; omega, by dsimp only; omega, by dsimp only; omega, by dsimp only; rw [List.length_set, hyl], ?_, fun t ht => ?_⟩, by dsimp only; omega, by exact sB, by exact sB, by exact mS⟩
               · dsimp only
                 rw [List.take_succ_eq_append_getElem (by rw [List.length_set]; omega), List.take_set_of_le (Nat.le_refl _), hyt, List.getElem_set_self, hst, List.append_assoc]
               · dsimp only at ht ⊢
                 rw [List.getElem?_set_ne (by omega)]
                 exact hyj t (by omega))
            | trace_state
      · have hjl : j = L.length := by omega
        have htk : (L.drop (k + 1)).take (L.length - (k + 1)) = L.drop (k + 1) := List.take_of_length_le (by rw [List.length_drop]; exact Nat.le_refl _)
        rw [hjl, htk] at hyt
        have hcl : (L.take k ++ (L.drop (k + 1)).filter (delK o)).length = i := by rw [← hyt, List.length_take, hyl]; omega
        have hiL : i < L.length := by omega
        repeat' (first | ((with_reducible apply wl_v); exact rfl; (with_reducible apply v_sliceLo (lo := i)); exact rfl; exact rfl; omega; exact hle) | ((with_reducible apply wl_clear (sz := 3) (k := i) (n' := L.length)); exact rfl; omega; exact pK; (intro u hu; simp [Value.cells] at hu; rcases hu with rfl | rfl <;> rfl); exact rfl) | ((with_reducible apply wl_v); exact rfl; (with_reducible apply v_sliceHi (hi := i)); exact rfl; exact rfl; omega) | refine sT ?_ | refine sS ?_ | refine sN ?_ | refine sM fun _ => ?_ | (refine sC ?_ ?_ <;> intro hb <;> try omega) | fail)
        all_goals first
          | (exfalso; omega)
          | (refine ret1 eIO rfl rfl (H' := .own (some g) 53 3 i cap ((ys.flatMap encEt).take (i * 3)) :: R) mS ?_
             rw [flat_take encEt_len, hyt, hcl]
             exact ⟨rfl, rfl⟩)
          | trace_state
end
structure Bo where
 e:Option Nat
 r:Option Nat
 g:Option Nat
 l:Option Nat
 s:Option Nat
 ce:Nat
 cr:Nat
 cg:Nat
 cl:Nat
 cs:Nat
def adr (A:Option Nat):Option Addr:=A.map fun g=>⟨g,0,none⟩
def Bo.v (a:Bo):Bv:=⟨adr a.e,adr a.r,adr a.g,adr a.l,adr a.s,a.ce,a.cr,a.cg,a.cl,a.cs⟩
def bkRows (b:Bk) (a:Bo):List Blk:= [.own a.e 53 3 b.ents.length a.ce (b.ents.flatMap encEt),.own a.r 38 7 b.rules.length a.cr (b.rules.flatMap encRl),.own a.g 56 8 b.grants.length a.cg (b.grants.flatMap encGn),.own a.l 48 9 b.log.length a.cl (b.log.flatMap encEv),.own a.s 70 11 b.rels.length a.cs (b.rels.flatMap encRv)]
theorem BRd.of_rows {w0 w:World} {H:List Blk} {b:Bk} {a:Bo} (hm:Mem w0 w H) (h1:In (.own a.e 53 3 b.ents.length a.ce (b.ents.flatMap encEt)) H) (h2:In (.own a.r 38 7 b.rules.length a.cr (b.rules.flatMap encRl)) H) (h3:In (.own a.g 56 8 b.grants.length a.cg (b.grants.flatMap encGn)) H) (h4:In (.own a.l 48 9 b.log.length a.cl (b.log.flatMap encEv)) H) (h5:In (.own a.s 70 11 b.rels.length a.cs (b.rels.flatMap encRv)) H):BRd w b a.v:=
 ⟨Reads.of_own (A:=a.e) hm h1,Reads.of_own (A:=a.r) hm h2,Reads.of_own (A:=a.g) hm h3,Reads.of_own (A:=a.l) hm h4,Reads.of_own (A:=a.s) hm h5⟩
structure Small (b:Bk):Prop where
 e:b.ents.length≤1000000
 r:b.rules.length≤1000000
 g:b.grants.length≤1000000
 l:b.log.length≤1000000
 s:b.rels.length≤1000000
set_option maxHeartbeats 4000000 in
theorem bkCopy_at (b:Bk) (x:Bv) (w:World) (h:BRd w b x) (hs:Small b):FnAt Tryz.prog 28 [.agg (encBk b x).toArray] w fun v H=> ∃ a:Bo,v= .agg (encBk b a.v).toArray∧H=bkRows b a:=by
 refine fn_at Tryz.func28 rfl Tryz.ntmps28 rfl ?_
 have h1:=fun (w' :World) (H:List Blk) (hm:Mem w w' H)=>CloneEt_at b.ents _ w' (h.e.of_w0 hm) hs.e
 have h2:=fun (w' :World) (H:List Blk) (hm:Mem w w' H)=>CloneRl_at b.rules _ w' (h.r.of_w0 hm) hs.r
 have h3:=fun (w' :World) (H:List Blk) (hm:Mem w w' H)=>CloneGn_at b.grants _ w' (h.g.of_w0 hm) hs.g
 have h4:=fun (w' :World) (H:List Blk) (hm:Mem w w' H)=>CloneEv_at b.log _ w' (h.l.of_w0 hm) hs.l
 have h5:=fun (w' :World) (H:List Blk) (hm:Mem w w' H)=>CloneRv_at b.rels _ w' (h.s.of_w0 hm) hs.s
 repeat' (first|((with_reducible apply wl_call (f:=76));exact rfl;exact rfl;(intro w' hm;exact h1 w' _ hm);rintro _ _ ⟨A1,c1,rfl,rfl⟩)|((with_reducible apply wl_call (f:=77));exact rfl;exact rfl;(intro w' hm;exact h2 w' _ hm);rintro _ _ ⟨A2,c2,rfl,rfl⟩)|((with_reducible apply wl_call (f:=78));exact rfl;exact rfl;(intro w' hm;exact h3 w' _ hm);rintro _ _ ⟨A3,c3,rfl,rfl⟩)|((with_reducible apply wl_call (f:=79));exact rfl;exact rfl;(intro w' hm;exact h4 w' _ hm);rintro _ _ ⟨A4,c4,rfl,rfl⟩)|((with_reducible apply wl_call (f:=80));exact rfl;exact rfl;(intro w' hm;exact h5 w' _ hm);rintro _ _ ⟨A5,c5,rfl,rfl⟩)|refine sT ?_|refine sS ?_|refine sM fun _=> ?_|(refine sC ?_ ?_<;>intro hb<;>try omega)|fail)
 exact retc (.inl rfl) rfl rfl pK rfl (H' :=bkRows b ⟨A1,A2,A3,A4,A5,c1,c2,c3,c4,c5⟩) (by unfold bkRows;exact mS) ⟨⟨A1,A2,A3,A4,A5,c1,c2,c3,c4,c5⟩,rfl,rfl⟩
def inpF (a:Rf) (L:List Et):ByteArray:=match L.find? (fun e=>decide (e.at_=a)) with|some e=>e.input|none=>emptyB
def inpE (b:Bk) (a:Rf):ByteArray × Int:=if bkE b≠0 then (emptyB,bkE b) else if a.valid=false then (emptyB,3) else (inpF a b.ents,0)
set_option maxHeartbeats 8000000 in
theorem bkInput_at (b:Bk) (x:Bv) (a:Rf) (w:World) (h:BRd w b x) (hW:Words w) (hlen:b.ents.length≤1000000):Pure Tryz.prog 19 [.agg (encBk b x).toArray,.agg (encF a).toArray] w (.tuple #[.string (inpE b a).1,.int .i64 (inpE b a).2]):=by
 refine fn_at Tryz.func19 rfl Tryz.ntmps19 rfl ?_
 have hC:=fun (w' :World) (H:List Blk) (hm:Mem w w' H)=>bkCheck_at b x w' (h.of_w0 hm) (hW.next hm) hlen
 have hV: ∀ w',Pure Tryz.prog 64 [.agg (encF a).toArray] w' (.bool a.valid):=fun w' =>valid_at a.col a.row w'
 unfold inpE
 generalize bkE b=e at hC ⊢
 by_cases he:e≠0
 ·
  rw [if_pos he]
  repeat' (first|((with_reducible apply wl_callp (f:=12));exact rfl;exact rfl;(intro w' hm;exact hC w' _ hm))|refine sT ?_|refine sS ?_|refine sM fun _=> ?_|(refine sC ?_ ?_<;>intro hb<;>try omega)|fail)
  all_goals first|(exfalso;omega)|((refine rT2 ?_);rfl)|trace_state
 rw [if_neg he]
 cases hv:a.valid
 ·
  rw [if_pos rfl]
  rw [hv] at hV
  repeat' (first|((with_reducible apply wl_callp (f:=12));exact rfl;exact rfl;(intro w' hm;exact hC w' _ hm))|((with_reducible apply wl_callp);exact rfl;exact rfl;(intro w hm;exact hV w))|refine sT ?_|refine sS ?_|refine sM fun _=> ?_|(refine sC ?_ ?_<;>intro hb<;>try omega)|fail)
  all_goals first|(exfalso;omega)|((refine rT2 ?_);rfl)|trace_state
 rw [if_neg (by decide)]
 rw [hv] at hV
 have hx:=h.e
 obtain ⟨us,E,RU,G,L,M,st⟩:=b
 obtain ⟨ae1,ar1,ag1,al1,as1,ce1,cr1,cg1,cl1,cs1⟩:=x
 dsimp only at*
 obtain ⟨Ae,ce2,ee,he1,he2,he3⟩:=hx
 cases ee
 simp only [encBk] at hC ⊢
 repeat' (first|((with_reducible apply wl_callp (f:=12));exact rfl;exact rfl;(intro w' hm;exact hC w' _ hm))|((with_reducible apply wl_callp);exact rfl;exact rfl;(intro w hm;exact hV w))|refine sT ?_|refine sS ?_|refine sM fun _=> ?_|(refine sC ?_ ?_<;>intro hb<;>try omega)|fail)
 all_goals first|(exfalso;omega)|skip
 rename_i g2 g3
 refine w_loopK [3,18,19] rfl (fun i:Nat=> [(20,.int .i64 (i:Int))]) (fun _=> [.box g3 51 (encF a)]) (fun i=>i≤E.length∧inpF a E=inpF a (E.drop i)) (fun i=>E.length - i) 0 ⟨by omega,rfl⟩ sB mS ?_
 rintro i ⟨hi,hrec⟩
 by_cases hlt:i<E.length
 ·
  obtain ⟨ge,oe,rfl,hre⟩:=he3 (by omega)
  have hre1:=hre.elem encEt_len i hlt
  have hin:inpF a (E.drop i)=if E[i].at_=a then E[i].input else inpF a (E.drop (i+1)):=by
   rw [List.drop_eq_getElem_cons hlt,inpF,List.find?_cons]
   by_cases hh:E[i].at_=a
   ·
    rw [decide_eq_true hh,if_pos hh]
   ·
    rw [decide_eq_false hh,if_neg hh];rfl
  rw [hin] at hrec
  clear hin
  generalize E[i]=y at hre1 hrec
  obtain ⟨c,hc⟩: ∃ c,decide (y.at_=a)=c:=⟨_,rfl⟩
  cases c with
  |true=>
   rw [if_pos (by simpa using hc)] at hrec
   rw [hrec]
   repeat' (first|((with_reducible apply wl_v);exact rfl;(with_reducible apply v_indexAddr (j:=i));exact rfl;exact rfl;exact hlt)|((with_reducible apply wl_v);exact rfl;(with_reducible apply v_loadw_ro);exact rfl;exact hre1;exact rfl)|((with_reducible apply wl_v);exact rfl;(with_reducible apply v_eqlF_to hc);exact rfl;exact rfl)|refine sT ?_|refine sS ?_|refine sN ?_|refine sM fun _=> ?_|(refine sC ?_ ?_<;>intro hb<;>try omega)|fail)
   all_goals first|(exfalso;omega)|((refine rT2 ?_);rfl)|trace_state
  |false=>
   rw [if_neg (by simpa using hc)] at hrec
   repeat' (first|((with_reducible apply wl_v);exact rfl;(with_reducible apply v_indexAddr (j:=i));exact rfl;exact rfl;exact hlt)|((with_reducible apply wl_v);exact rfl;(with_reducible apply v_loadw_ro);exact rfl;exact hre1;exact rfl)|((with_reducible apply wl_v);exact rfl;(with_reducible apply v_eqlF_to hc);exact rfl;exact rfl)|refine sT ?_|refine sS ?_|refine sN ?_|refine sM fun _=> ?_|(refine sC ?_ ?_<;>intro hb<;>try omega)|fail)
   all_goals first
    |(exfalso;omega)
    |(refine ⟨i+1,⟨hlt,hrec⟩,by omega,by exact sB,by exact sB,by exact mS⟩;done)
    |trace_state
 ·
  have e:i=E.length:=by omega
  subst e
  rw [List.drop_length] at hrec
  rw [hrec]
  repeat' (first|refine sT ?_|refine sS ?_|refine sM fun _=> ?_|(refine sC ?_ ?_<;>intro hb<;>try omega)|fail)
  all_goals first|(exfalso;omega)|((refine rT2 ?_);rfl)|trace_state
end Go.SL
namespace Go.SL
open Go Go.Proofs
attribute [local irreducible] W WL WQ WG WA WX WLI WR WT WC WE RW thn blk cutP scp retP retPP endB FnAt FnIn FnP ceP
section
variable {P:Program} {w0:World} {s:Slots} {H:List Blk} {ty:TypeId}
theorem v_slice3 {t e hi m c sz:Nat} {A:Option Nat} {x q r:Operand} {k k' :IntKind} [ht:Und P t (.slice e)] [hz:Size P e sz] (hx:ev s x=some (sl A m c)) (hq:ev s q=some (.int k (hi:Nat))) (hr:ev s r=some (.int k' (hi:Nat))) (h2:hi≤c):
  VOp P w0 s H (.slice t x none (some q) (some r)) ty (sl A hi hi):=fun ρ w _ _ _ _ hρ _=>by
 obtain ⟨i,hi1,hi2⟩:=hz.out
 have e2:((hi:Nat):Int)≤((c:Nat):Int):=by omega
 have e3:((0:Nat):Int)≤((hi:Nat):Int):=by omega
 have e4:(A.map fun g=>(⟨g,0,none⟩:Addr)).map (·.add 0)=A.map fun g=>⟨g,0,none⟩:=by cases A<;>simp [addr_add]
 unfold sl at hx ⊢
 simp [execOp,hρ x _ hx,hρ q _ hq,hρ r _ hr,Instr.sliceAt,run_underlying ht.out,Instr.slice,Instr.sliceBounds,Instr.sliceBound,asIntOf,sizeOf,typeInfo,hi1,h2]
 intro _
 cases A<;>simp [addr_add]
end
attribute [local irreducible] VOp
theorem readsTake {w0 w:World} {H:List Blk} {A:Option Nat} {cap i:Nat} {L:List Et} (hm:Mem w0 w H) (hi:In (.own A 53 3 L.length cap (L.flatMap encEt)) H) (h:i≤L.length):Reads w (sl A i i) i ((L.take i).flatMap encEt):=by
 have h1:=Reads.of_own hm hi
 obtain ⟨A',c',e,h2,h3,h4⟩:=h1
 unfold sl at e
 cases e
 refine ⟨_,_,rfl,Nat.le_refl _,by omega,fun hp=> ?_⟩
 obtain ⟨g,o,e,hr⟩:=h4 (by omega)
 refine ⟨g,o,e,?_⟩
 rw [← flat_take encEt_len]
 exact hr.take
set_option maxHeartbeats 8000000 in
theorem insert_in (L:List Et) (i:Nat) (hi:i≤L.length) (x:Et) (A:Option Nat) (cap:Nat) (hL:L.length≤1000000) (w0:World) (R:List Blk):
  FnIn Tryz.prog 61 [sl A L.length cap,.int .i64 (i:Int),.agg (encEt x).toArray] w0 (.own A 53 3 L.length cap (L.flatMap encEt)::R) fun v H=> ∃ A' c,v=sl A' (L.length+1) c∧H= .own A' 53 3 (L.length+1) c ((L.take i++x::L.drop i).flatMap encEt)::R:=by
 refine fn_in Tryz.func61 rfl Tryz.ntmps61 rfl ?_
 refine w_le (A:=A) .hd fun hle=> ?_
 repeat' (first|refine sT ?_|refine sS ?_|refine sM fun _=> ?_|(refine sC ?_ ?_<;>intro hb<;>try omega)|fail)
 rename_i g5
 have hrd:=fun (w:World) (H:List Blk) (hi2:In (.own A 53 3 L.length cap (L.flatMap encEt)) H) (hm:Mem w0 w H)=>readsTake hm hi2 hi
 have hdr:(((L.flatMap encEt).drop (i*3)).take ((L.length - i)*3))=(L.drop i).flatMap encEt:=by
  rw [flat_drop encEt_len]
  exact List.take_of_length_le (by rw [flat_length' encEt_len,List.length_drop];exact Nat.le_refl _)
 have hrd2:=fun (w:World) (H:List Blk) (hi2:In (.own A 53 3 L.length cap (L.flatMap encEt)) H) (hm:Mem w0 w H)=>hdr ▸ (Reads.of_own hm hi2).cut (lo:=i) (hi:=L.length) hi (Nat.le_refl _)
 refine w_drawC (id:=1) [5,6,10] [] [.box g5 53 (encEt x),.own A 53 3 L.length cap (L.flatMap encEt)] (by kernel_rfl) (by kernel_rfl) (by kernel_rfl) mS ?_
 repeat' (first|((with_reducible apply wc_v (d:=10));(iterate 3 exact rfl);(with_reducible apply v_slice3 (hi:=i));(iterate 3 exact rfl);omega)|((with_reducible apply wc_v (d:=16));(iterate 3 exact rfl);(with_reducible apply v_slice (lo:=i) (hi:=L.length));exact rfl;exact ⟨_,rfl⟩;exact rfl;exact hi;exact hle)|((with_reducible apply wl_appendG (d:=13) (n' :=i) (m:=1));(iterate 3 exact rfl);(intro w hm;exact hrd w _ pK hm);exact flat_length' encEt_len _|>.trans (by rw [List.length_take];congr 1;omega);(intro w hm;exact hm.cells_own pK);exact rfl;(intro u hu;simp [encEt] at hu;rcases hu with rfl|rfl|rfl<;>rfl);omega;omega;(simp only [maxLen];omega);intro g13 c13)|((with_reducible apply wl_appendR (d:=17) (n' :=i+1) (m:=L.length - i));(iterate 3 exact rfl);exact pK;(intro w hm;exact hrd2 w _ pK hm);(rw [flat_length' encEt_len,List.length_drop]);exact encEts_one _;omega;(simp only [maxLen];omega);intro A17 c17 h17)|refine sT ?_|refine sS ?_|refine sW ?_|refine sM fun _=> ?_|(refine sC ?_ ?_<;>intro hb<;>try omega)|(refine sCW ?_ ?_<;>intro hb<;>try omega)|fail)
 have e1:i+1+(L.length - i)=L.length+1:=by omega
 have e2:(L.take i++x::L.drop i).flatMap encEt=(L.take i).flatMap encEt++ [.int .i64 x.at_.col,.int .i64 x.at_.row,.string x.input]++(L.drop i).flatMap encEt:=by
  rw [List.flatMap_append,List.flatMap_cons,List.append_assoc]
  rfl
 rw [e2,e1]
 exact ret1 (.inl rfl) rfl rfl (H' := .own A17 53 3 (L.length+1) c17 ((L.take i).flatMap encEt++ [.int .i64 x.at_.col,.int .i64 x.at_.row,.string x.input]++(L.drop i).flatMap encEt)::R) mS ⟨A17,c17,rfl,rfl⟩
end Go.SL
namespace Go.SL
open Go Go.Proofs
attribute [local irreducible] W WL WQ WG WA WX WLI WR WT WC WE VOp RW thn blk cutP scp retP retPP endB FnAt FnIn FnP ceP
def tstC:Nat→Int
 |0=>1|1=>2|2=>4|3=>2|4=>8|5=>5|6=>6|_=>7
theorem cdE_at {b:Bk} {o:Ox} {i:Nat} (hi:i<8) (h:tst b o i=true) (hno: ∀ j,j<i→tst b o j=false):cdE b o=(tstC i,if i=6 then (ofP o.input).2.1 else 0):=by
 rcases (by omega:i=0∨i=1∨i=2∨i=3∨i=4∨i=5∨i=6∨i=7) with rfl|rfl|rfl|rfl|rfl|rfl|rfl|rfl
 ·
  unfold cdE;rw [h];rfl
 ·
  unfold cdE;rw [hno 0 (by omega),h];rfl
 ·
  unfold cdE;rw [hno 0 (by omega),hno 1 (by omega),h];rfl
 ·
  unfold cdE;rw [hno 0 (by omega),hno 1 (by omega),hno 2 (by omega),h];rfl
 ·
  unfold cdE;rw [hno 0 (by omega),hno 1 (by omega),hno 2 (by omega),hno 3 (by omega),h];rfl
 ·
  unfold cdE;rw [hno 0 (by omega),hno 1 (by omega),hno 2 (by omega),hno 3 (by omega),hno 4 (by omega),h];rfl
 ·
  unfold cdE;rw [hno 0 (by omega),hno 1 (by omega),hno 2 (by omega),hno 3 (by omega),hno 4 (by omega),hno 5 (by omega),h];rfl
 ·
  unfold cdE;rw [hno 0 (by omega),hno 1 (by omega),hno 2 (by omega),hno 3 (by omega),hno 4 (by omega),hno 5 (by omega),hno 6 (by omega),h];rfl
theorem cdE_no {b:Bk} {o:Ox} (hno: ∀ j,j<8→tst b o j=false):cdE b o=(0,0):=by
 unfold cdE
 rw [hno 0 (by omega),hno 1 (by omega),hno 2 (by omega),hno 3 (by omega),hno 4 (by omega),hno 5 (by omega),hno 6 (by omega),hno 7 (by omega)]
 rfl
theorem tst4 {b:Bk} {o:Ox} (h:tst b o 4=false) (h9:o.kind=9):0≤o.idx∧o.idx<(b.grants.length:Int):=by
 have ht:tst b o 4=(decide (o.kind=9) && (decide (o.idx<0)||decide ((b.grants.length:Int)≤o.idx)||revG b o)):=rfl
 rw [ht,decide_eq_true h9,Bool.true_and,Bool.or_eq_false_iff,Bool.or_eq_false_iff,decide_eq_false_iff_not,decide_eq_false_iff_not] at h
 omega
theorem code7_sel {b:Bk} {o:Ox} {go gat:Nat} {w0:World} {H T:List Blk} (hW:Words w0) (hs:Sel (.box gat 3 [.int .i64 0]) H T) (hgo:In (.box go 41 (encOx o)) T):
  FnIn Tryz.prog 119 [.pointer (some ⟨go,0,none⟩),.pointer (some ⟨gat,0,none⟩)] w0 H fun v H' =>v= .bool (tst b o 6)∧H' = .box gat 3 [.int .i64 (if tst b o 6 then (ofP o.input).2.1 else 0)]::T:=
 FnIn.msub (code7_in hW hgo) (MSub.pick hs (MSub.refl _))
set_option maxHeartbeats 16000000 in
theorem code_at (b:Bk) (x:Bv) (o:Ox) (gb:Nat) (w:World) (hbk:Ro w gb 0 (encBk b x)) (hr:BRd w b x) (hW:Words w):Pure Tryz.prog 54 [.pointer (some ⟨gb,0,none⟩),.agg (encOx o).toArray] w (.tuple #[.int .u8 (cdE b o).1,.int .i64 (cdE b o).2]):=by
 refine fn_at Tryz.func54 rfl Tryz.ntmps54 rfl ?_
 have hA:=fun w=>All_at b.users w
 have hT:=fun w=>Target_at o w
 have hbk' :=hbk
 simp only [encBk] at hbk
 repeat' (first|((with_reducible apply wl_v);exact rfl;(with_reducible apply v_loadf_ro);exact rfl;exact hbk;exact rfl)|((with_reducible apply wl_v);exact rfl;(with_reducible apply v_load_ro (o:=0) (off:=0));exact hbk;exact rfl;exact rfl)|((with_reducible apply wl_callp);exact rfl;exact rfl;(intro w hm;exact hA w))|((with_reducible apply wl_callp);exact rfl;exact rfl;(intro w hm;exact hT w))|refine sT ?_|refine sS ?_|refine sM fun _=> ?_|(refine sC ?_ ?_<;>intro hb<;>try omega)|fail)
 rename_i g2 g3 g6 g8 g9 g10 gs
 have hR:=fun (h5:tst b o 4=false) (w' :World) (H:List Blk) (hm:Mem w w' H)=>refused_at b x o gb w' (hbk'.next hm) (hr.of_w0 hm) (tst4 h5)
 refine w_loopK [2,3,6,8,9,10,42,43] rfl (fun i:Nat=> [(44,.int .i64 (i:Int))]) (fun _=> [.own (some gs) 200 2 8 8 [.int .u8 1,.func (.func 111) #[] #[.pointer (some ⟨g3,0,none⟩)],.int .u8 2,.func (.func 113) #[] #[.pointer (some ⟨g3,0,none⟩),.pointer (some ⟨g2,0,none⟩)],.int .u8 4,.func (.func 114) #[] #[.pointer (some ⟨g9,0,none⟩),.pointer (some ⟨g8,0,none⟩)],.int .u8 2,.func (.func 115) #[] #[.pointer (some ⟨g3,0,none⟩),.pointer (some ⟨g6,0,none⟩)],.int .u8 8,.func (.func 116) #[] #[.pointer (some ⟨g3,0,none⟩),.pointer (some ⟨g2,0,none⟩)],.int .u8 5,.func (.func 117) #[] #[.pointer (some ⟨g2,0,none⟩),.pointer (some ⟨g3,0,none⟩)],.int .u8 6,.func (.func 119) #[] #[.pointer (some ⟨g3,0,none⟩),.pointer (some ⟨g10,0,none⟩)],.int .u8 7,.func (.func 120) #[] #[.pointer (some ⟨g8,0,none⟩),.pointer (some ⟨g3,0,none⟩),.pointer (some ⟨g2,0,none⟩)]],.box g10 3 [.int .i64 0],.box g9 4 [.bool (tgtO o).2],.box g8 33 (encR (tgtO o).1),.box g6 34 [vS (allU b.users).1],.box g3 41 (encOx o),.box g2 123 [.pointer (some ⟨gb,0,none⟩)]]) (fun i=>i≤8∧ ∀ j,j<i→tst b o j=false) (fun i=>8 - i) 0 ⟨by omega,fun j h=>by omega⟩ sB mS ?_
 rintro i ⟨hi,hno⟩
 by_cases hlt:i<8
 ·
  obtain ⟨c,hc⟩: ∃ c,tst b o i=c:=⟨_,rfl⟩
  have hcd:c=true→cdE b o=(tstC i,if i=6 then (ofP o.input).2.1 else 0):=fun e=>cdE_at hlt (hc.trans e) hno
  have hnx:c=false→ ∀ j,j<i+1→tst b o j=false:=fun e j hj=>by
   rcases (by omega:j<i∨j=i) with h|rfl
   ·
    exact hno j h
   ·
    exact hc.trans e
  rcases (by omega:i=0∨i=1∨i=2∨i=3∨i=4∨i=5∨i=6∨i=7) with rfl|rfl|rfl|rfl|rfl|rfl|rfl|rfl
  ·
   cases c
   all_goals
    repeat' (first|((with_reducible apply wl_v);exact rfl;(with_reducible apply v_indexAddr (j:=0));exact rfl;exact rfl;omega)|((with_reducible apply wl_v);exact rfl;(with_reducible apply v_loads_own);exact rfl;exact pK;exact rfl;exact rfl)|((with_reducible apply wl_callvp (f:=111));exact rfl;exact rfl;infer_instance;exact rfl;(intro w' hm;exact hc ▸ code1_at (b:=b) (go:=g3) (Ro.of_box hm pK)))|refine sT ?_|refine sS ?_|refine sQ ?_|refine sN ?_|refine sNQ ?_|refine sD ?_|refine sM fun _=> ?_|(refine sC ?_ ?_<;>intro hb<;>try omega)|(refine sCQ ?_ ?_<;>intro hb<;>try omega)|fail)
   all_goals first
    |(exfalso;omega)
    |(refine ⟨1,⟨by omega,hnx rfl⟩,by omega,by exact sB,by exact sB,by exact mS⟩;done)
    |((refine rT2 ?_);rw [hcd rfl];rfl)
    |trace_state
  ·
   cases c
   all_goals
    repeat' (first|((with_reducible apply wl_v);exact rfl;(with_reducible apply v_indexAddr (j:=1));exact rfl;exact rfl;omega)|((with_reducible apply wl_v);exact rfl;(with_reducible apply v_loads_own);exact rfl;exact pK;exact rfl;exact rfl)|((with_reducible apply wl_callvp (f:=113));exact rfl;exact rfl;infer_instance;exact rfl;(intro w' hm;exact hc ▸ code2_at (go:=g3) (gp:=g2) (Ro.of_box hm pK) (Ro.of_box hm pK) (hbk'.next hm)))|refine sT ?_|refine sS ?_|refine sQ ?_|refine sN ?_|refine sNQ ?_|refine sD ?_|refine sM fun _=> ?_|(refine sC ?_ ?_<;>intro hb<;>try omega)|(refine sCQ ?_ ?_<;>intro hb<;>try omega)|fail)
   all_goals first
    |(exfalso;omega)
    |(refine ⟨2,⟨by omega,hnx rfl⟩,by omega,by exact sB,by exact sB,by exact mS⟩;done)
    |((refine rT2 ?_);rw [hcd rfl];rfl)
    |trace_state
  ·
   cases c
   all_goals
    repeat' (first|((with_reducible apply wl_v);exact rfl;(with_reducible apply v_indexAddr (j:=2));exact rfl;exact rfl;omega)|((with_reducible apply wl_v);exact rfl;(with_reducible apply v_loads_own);exact rfl;exact pK;exact rfl;exact rfl)|((with_reducible apply wl_callvp (f:=114));exact rfl;exact rfl;infer_instance;exact rfl;(intro w' hm;exact hc ▸ code3_at (b:=b) (go:=g3) (g8:=g8) (g9:=g9) (Ro.of_box hm pK) (Ro.of_box hm pK) (Ro.of_box hm pK)))|refine sT ?_|refine sS ?_|refine sQ ?_|refine sN ?_|refine sNQ ?_|refine sD ?_|refine sM fun _=> ?_|(refine sC ?_ ?_<;>intro hb<;>try omega)|(refine sCQ ?_ ?_<;>intro hb<;>try omega)|fail)
   all_goals first
    |(exfalso;omega)
    |(refine ⟨3,⟨by omega,hnx rfl⟩,by omega,by exact sB,by exact sB,by exact mS⟩;done)
    |((refine rT2 ?_);rw [hcd rfl];rfl)
    |trace_state
  ·
   cases c
   all_goals
    repeat' (first|((with_reducible apply wl_v);exact rfl;(with_reducible apply v_indexAddr (j:=3));exact rfl;exact rfl;omega)|((with_reducible apply wl_v);exact rfl;(with_reducible apply v_loads_own);exact rfl;exact pK;exact rfl;exact rfl)|((with_reducible apply wl_callvp (f:=115));exact rfl;exact rfl;infer_instance;exact rfl;(intro w' hm;exact hc ▸ code4_at (b:=b) (go:=g3) (g6:=g6) (Ro.of_box hm pK) (Ro.of_box hm pK)))|refine sT ?_|refine sS ?_|refine sQ ?_|refine sN ?_|refine sNQ ?_|refine sD ?_|refine sM fun _=> ?_|(refine sC ?_ ?_<;>intro hb<;>try omega)|(refine sCQ ?_ ?_<;>intro hb<;>try omega)|fail)
   all_goals first
    |(exfalso;omega)
    |(refine ⟨4,⟨by omega,hnx rfl⟩,by omega,by exact sB,by exact sB,by exact mS⟩;done)
    |((refine rT2 ?_);rw [hcd rfl];rfl)
    |trace_state
  ·
   cases c
   all_goals
    repeat' (first|((with_reducible apply wl_v);exact rfl;(with_reducible apply v_indexAddr (j:=4));exact rfl;exact rfl;omega)|((with_reducible apply wl_v);exact rfl;(with_reducible apply v_loads_own);exact rfl;exact pK;exact rfl;exact rfl)|((with_reducible apply wl_callvp (f:=116));exact rfl;exact rfl;infer_instance;exact rfl;(intro w' hm;exact hc ▸ code5_at (go:=g3) (gp:=g2) (Ro.of_box hm pK) (Ro.of_box hm pK) (hbk'.next hm) (hr.of_w0 hm)))|refine sT ?_|refine sS ?_|refine sQ ?_|refine sN ?_|refine sNQ ?_|refine sD ?_|refine sM fun _=> ?_|(refine sC ?_ ?_<;>intro hb<;>try omega)|(refine sCQ ?_ ?_<;>intro hb<;>try omega)|fail)
   all_goals first
    |(exfalso;omega)
    |(refine ⟨5,⟨by omega,hnx rfl⟩,by omega,by exact sB,by exact sB,by exact mS⟩;done)
    |((refine rT2 ?_);rw [hcd rfl];rfl)
    |trace_state
  ·
   cases c
   all_goals
    repeat' (first|((with_reducible apply wl_v);exact rfl;(with_reducible apply v_indexAddr (j:=5));exact rfl;exact rfl;omega)|((with_reducible apply wl_v);exact rfl;(with_reducible apply v_loads_own);exact rfl;exact pK;exact rfl;exact rfl)|((with_reducible apply wl_callvp (f:=117));exact rfl;exact rfl;infer_instance;exact rfl;(intro w' hm;exact hc ▸ code6_at (b:=b) (gb:=gb) (gp:=g2) (go:=g3) (Ro.of_box hm pK) (fun w2 H2 hm2=>refused_at b x o gb w2 ((hbk'.next hm).next hm2) ((hr.of_w0 hm).of_w0 hm2) (tst4 (hno 4 (by omega)))) (Ro.of_box hm pK)))|refine sT ?_|refine sS ?_|refine sQ ?_|refine sN ?_|refine sNQ ?_|refine sD ?_|refine sM fun _=> ?_|(refine sC ?_ ?_<;>intro hb<;>try omega)|(refine sCQ ?_ ?_<;>intro hb<;>try omega)|fail)
   all_goals first
    |(exfalso;omega)
    |(refine ⟨6,⟨by omega,hnx rfl⟩,by omega,by exact sB,by exact sB,by exact mS⟩;done)
    |((refine rT2 ?_);rw [hcd rfl];rfl)
    |trace_state
  ·
   cases c
   all_goals
    repeat' (first|((with_reducible apply wl_v);exact rfl;(with_reducible apply v_indexAddr (j:=6));exact rfl;exact rfl;omega)|((with_reducible apply wl_v);exact rfl;(with_reducible apply v_loads_own);exact rfl;exact pK;exact rfl;exact rfl)|((with_reducible apply wl_callv (f:=119));exact rfl;exact rfl;infer_instance;exact rfl;exact hc ▸ code7_sel (b:=b) (o:=o) (go:=g3) (gat:=g10) hW pK pK;rintro _ _ ⟨rfl,rfl⟩)|refine sT ?_|refine sS ?_|refine sQ ?_|refine sN ?_|refine sNQ ?_|refine sD ?_|refine sM fun _=> ?_|(refine sC ?_ ?_<;>intro hb<;>try omega)|(refine sCQ ?_ ?_<;>intro hb<;>try omega)|fail)
   all_goals first
    |(exfalso;omega)
    |(refine ⟨7,⟨by omega,hnx rfl⟩,by omega,by exact sB,by exact sB,by exact mS⟩;done)
    |((refine rT2 ?_);rw [hcd rfl];rfl)
    |trace_state
  ·
   cases c
   all_goals
    repeat' (first|((with_reducible apply wl_v);exact rfl;(with_reducible apply v_indexAddr (j:=7));exact rfl;exact rfl;omega)|((with_reducible apply wl_v);exact rfl;(with_reducible apply v_loads_own);exact rfl;exact pK;exact rfl;exact rfl)|((with_reducible apply wl_callvp (f:=120));exact rfl;exact rfl;infer_instance;exact rfl;(intro w' hm;exact hc ▸ code8_at (go:=g3) (gp:=g2) (g8:=g8) (Ro.of_box hm pK) (Ro.of_box hm pK) (hbk'.next hm) (hr.of_w0 hm) (Ro.of_box hm pK)))|refine sT ?_|refine sS ?_|refine sQ ?_|refine sN ?_|refine sNQ ?_|refine sD ?_|refine sM fun _=> ?_|(refine sC ?_ ?_<;>intro hb<;>try omega)|(refine sCQ ?_ ?_<;>intro hb<;>try omega)|fail)
   all_goals first
    |(exfalso;omega)
    |(refine ⟨8,⟨by omega,hnx rfl⟩,by omega,by exact sB,by exact sB,by exact mS⟩;done)
    |((refine rT2 ?_);rw [hcd rfl];rfl)
    |trace_state
 ·
  have e:i=8:=by omega
  subst e
  rw [cdE_no hno]
  repeat' (first|refine sT ?_|refine sS ?_|refine sM fun _=> ?_|(refine sC ?_ ?_<;>intro hb<;>try omega)|fail)
  all_goals first|(exfalso;omega)|((refine rT2 ?_);rfl)|trace_state
end Go.SL
