/-
  Lemmas and walks, put together: Rj Rk Pl4 Pl5 Pl6 Pl7.
-/
import Derived.Test.YtpohljcebgacjaaGreatDoorKr29
set_option linter.unusedSimpArgs false
set_option linter.unusedVariables false
set_option maxRecDepth 20000
namespace Go.SL
open Go Go.Proofs
attribute [local irreducible] W WL WQ WG WA WX WLI WR WT WC WE VOp RW thn blk cutP scp retP retPP endB FnAt FnIn FnP ceP
theorem put_set_mem {S:List Rf} {a:Rf} (h:a∈S):kput a (.bool true) S.length (setM S)=(setM S,S.length):=by
 have hl:=look_set S a
 rw [decide_eq_true h] at hl
 unfold kput
 cases hf:kfind a (setM S) 0 with
 |none=>rw [hf] at hl;cases hl
 |some x=>
  obtain ⟨i,v⟩:=x
  rw [hf] at hl
  simp only at hl
  obtain ⟨b,_,hb⟩:=kfind_get hf
  rw [Nat.sub_zero] at hb
  simp only [Prod.mk.injEq,and_true]
  apply List.ext_getElem?
  intro j
  rw [List.getElem?_modify]
  by_cases e:i=j
  ·
   subst e
   rw [hb,hl];simp
  ·
   simp [e]
def addS (S:List Rf) (c:Rf):List Rf:=if c∈S then S else S++ [c]
theorem addS_put (S:List Rf) (c:Rf):kput c (.bool true) S.length (setM S)=(setM (addS S c),(addS S c).length):=by
 unfold addS
 split
 ·
  rename_i h;exact put_set_mem h
 ·
  rename_i h;rw [put_set h,List.length_append,List.length_singleton]
theorem addS_nodup {S:List Rf} (h:S.Nodup) (c:Rf):(addS S c).Nodup:=by
 unfold addS
 split
 ·
  exact h
 ·
  rename_i hn
  exact List.nodup_append.2 ⟨h,by simp,fun a ha b hb e=>hn (by rw [← List.mem_singleton.1 hb,← e];exact ha)⟩
theorem mem_addS {S:List Rf} {c x:Rf}:x∈addS S c↔x=c∨x∈S:=by
 unfold addS
 split
 ·
  rename_i h
  exact ⟨.inr,fun h2=>h2.elim (fun e=>e ▸ h) id⟩
 ·
  rw [List.mem_append,List.mem_singleton,or_comm]
theorem addS_len (S:List Rf) (c:Rf):(addS S c).length≤S.length+1:=by
 unfold addS
 split
 ·
  omega
 ·
  rw [List.length_append,List.length_singleton];omega
def rectsV (G:Gr) (vis:List (Rf × Value × Nat)):List Rct:=vis.flatMap fun e=>(usesG G e.1).map fun u=>u.rect
theorem rectsV_snoc (G:Gr) (vis:List (Rf × Value × Nat)) (e:Rf × Value × Nat):rectsV G (vis++ [e])=rectsV G vis++(usesG G e.1).map fun u=>u.rect:=by simp [rectsV]
theorem rectsV_len {G:Gr} (h: ∀ d,(usesG G d).length≤1000): ∀ vis:List (Rf × Value × Nat),(rectsV G vis).length≤vis.length*1000
 | []=>Nat.zero_le _
 |e::vis=>by
  have h1:=rectsV_len h vis
  have h2:=h e.1
  simp only [rectsV,List.flatMap_cons,List.length_append,List.length_map,List.length_cons] at h1 ⊢
  omega
noncomputable def leavesR (G:Gr) (c:Rf):List Rct:=if checkR [c] []=0 then leavesF G c else []
set_option maxHeartbeats 4000000 in
theorem Leaves_in (gg : Nat) (G : Gr) (hG : GrOk G) (hGl : G.length ≤ 900) (c : Rf) (B F : List Blk) (hB : MSub B F) (w0 : World)
    (hFm : ∀ H, MSub B H → FnIn Tryz.prog 17 [.pointer (some ⟨gg, 0, none⟩)] w0 H fun v H' => ∃ A cap, v = sl A (keysG G).length cap ∧ H' = .own A 38 2 (keysG G).length cap ((keysG G).flatMap encF) :: H)
    (hUs : ∀ d H, MSub B H → FnIn Tryz.prog 21 [.pointer (some ⟨gg, 0, none⟩), keyF d] w0 H fun v H' => ∃ A cap, v = sl A (usesG G d).length cap ∧ H' = .own A 45 6 (usesG G d).length cap ((usesG G d).flatMap encU) :: H)
    (hUl : ∀ d, (usesG G d).length ≤ 1000) :
    FnIn Tryz.prog 48 [.pointer (some ⟨gg, 0, none⟩), keyF c] w0 F fun v H' => ∃ A cap, v = .tuple #[sl A (leavesR G c).length cap, .int .i64 (checkR [c] [])] ∧ H' = .own A 24 4 (leavesR G c).length cap ((leavesR G c).flatMap encR) :: F := by
  refine fn_in Tryz.func48 rfl Tryz.ntmps48 rfl ?_
  refine w_nilrow 24 4 ?_
  have hck := fun w (v : Value) (hr : Reads w v 1 (encF c)) => checkA_at gg [c] [] v (.slice none 0 0) w (by simpa using hr) (reads_nil w) (by simp) (by simp)
  have hbl := fun F hB => below_in gg G hG hGl c B F hB w0 hFm hUs hUl
  unfold leavesR
  by_cases hc0 : checkR [c] [] = 0
  · rw [if_pos hc0]
    rw [hc0] at hck ⊢
    repeat' (first | ((with_reducible apply wl_callp (f := 88)); exact rfl; exact rfl; (intro w' hm; exact hck w' _ (Reads.of_own (A := some _) hm pK))) | ((with_reducible apply wl_callin (f := 92)); exact rfl; exact rfl; exact hbl _ (MSub.trans hB mS); rintro _ _ ⟨gm, S, rfl, rfl, hI⟩) | ((with_reducible apply wl_mapPut (enc := keyF) (k := c)); (iterate 3 exact rfl); exact pK; rw [addS_put]) | ((with_reducible apply wl_range_map (enc := keyF)); exact rfl; exact rfl; exact pK; intro gi) | refine sT ?_ | refine sS ?_ | refine sM fun _ => ?_ | (refine sC ?_ ?_ <;> intro hb <;> try omega) | fail)
    have hTn := addS_nodup hI.nodup c
    have hTm := fun x => mem_addS (S := S) (c := c) (x := x)
    have hTl := addS_len S c
    have hSl := hI.len hG.sort
    have hdone := hI.done hG
    generalize addS S c = T at hTn hTm hTl ⊢
    have hok := set_ok hTn
    have hks := setM_keys T
    have hkl := setM_len T
    generalize setM T = es at hok hks hkl ⊢
    refine w_loopK [0, 25] rfl (fun y : List (Rf × Value × Nat) × Option Nat × Nat => [(8, sl y.2.1 (rectsV G y.1).length y.2.2)]) (fun y => .obj gi (mIter gm T.length (y.1.map fun e => e.2.2)) :: .own y.2.1 24 4 (rectsV G y.1).length y.2.2 ((rectsV G y.1).flatMap encR) :: .obj gm (mobj keyF es T.length) :: F) (fun y => Vis es y.1) (fun y => es.length - y.1.length) ([], none, 0) (Vis.nil es) sB mS ?_
    rintro ⟨vis, A, cap⟩ hv
    dsimp only at hv ⊢
    have hvl := hv.len
    have hrl := rectsV_len hUl vis
    have hS := fun R' => sortFuncC_in (rectsV G vis) A cap (by omega) R' w0
    have hsl : (sortRc (rectsV G vis)).length = (rectsV G vis).length := (sortRc_perm _).length_eq
    have hCp := fun A cap R' => Compact_in (sortRc (rectsV G vis)) A cap (by omega) R' w0
    rw [hsl] at hCp
    repeat' (first | ((with_reducible apply wl_next_map (enc := keyF)); exact rfl; exact rfl; exact pK; exact pK; exact hok; intro e he hne) | (intro hall) | ((with_reducible apply wl_v); exact rfl; (with_reducible apply v_entry (enc := keyF)); exact rfl; exact pK; exact pK; exact he; exact hok) | ((with_reducible apply wl_callin (f := 21)); exact rfl; exact rfl; exact hUs _ _ (MSub.trans hB mS); rintro _ _ ⟨Au, cu, rfl, rfl⟩) | ((with_reducible apply wl_callin (f := 93)); exact rfl; exact rfl; exact FnIn.msub (hS _) (MSub.pick pK (MSub.refl _)); rintro _ _ ⟨rfl, rfl⟩) | ((with_reducible apply wl_callin (f := 97)); exact rfl; exact rfl; exact FnIn.msub (hCp _ _ _) (MSub.pick pK (MSub.refl _)); rintro _ _ ⟨rfl, rfl⟩) | refine sT ?_ | refine sS ?_ | refine sM fun _ => ?_ | (refine sC ?_ ?_ <;> intro hb <;> try omega) | fail)
    · have hUx := hUl e.1
      have hsn := rectsV_snoc G vis e
      generalize usesG G e.1 = U at hUx hsn
      generalize rectsV G vis = M at hrl hsn
      refine w_loopK [0, 25, 32, 33] rfl (fun y : Nat × Option Nat × Nat => [(8, sl y.2.1 (M ++ (U.take y.1).map fun u => u.rect).length y.2.2), (34, .int .i64 (y.1 : Int))]) (fun y => .obj gi (mIter gm T.length (vis.map (fun e => e.2.2) ++ [e.2.2])) :: .own Au 45 6 U.length cu (U.flatMap encU) :: .own y.2.1 24 4 (M ++ (U.take y.1).map fun u => u.rect).length y.2.2 ((M ++ (U.take y.1).map fun u => u.rect).flatMap encR) :: .obj gm (mobj keyF es T.length) :: F) (fun y => y.1 ≤ U.length) (fun y => U.length - y.1) (0, A, cap) (Nat.zero_le _) (by simp only [List.take_zero, List.map_nil, List.append_nil]; exact sB) (by simp only [List.take_zero, List.map_nil, List.append_nil]; exact mS) ?_
      rintro ⟨i, A1, c1⟩ hi
      dsimp only at hi ⊢
      by_cases hlt : i < U.length
      · refine w_some (A := Au) pK (by omega) fun gk hA => ?_
        subst hA
        have hread := refUs hlt
        have htk : (M ++ (U.take (i + 1)).map fun u => u.rect) = (M ++ (U.take i).map fun u => u.rect) ++ [U[i].rect] := by rw [List.take_succ_eq_append_getElem hlt, List.map_append, ← List.append_assoc]; rfl
        have hml : (M ++ (U.take i).map fun u => u.rect).length ≤ 1000000 := by
          rw [List.length_append, List.length_map, List.length_take]; omega
        generalize U[i] = u at hread htk
        generalize (M ++ (U.take i).map fun u => u.rect) = M1 at htk hml
        repeat' (first | ((with_reducible apply wl_v); exact rfl; (with_reducible apply v_indexAddr (j := i)); exact rfl; exact rfl; exact hlt) | ((with_reducible apply wl_v); exact rfl; (with_reducible apply v_loads_own); exact rfl; exact pK; exact hread; exact rfl) | ((with_reducible apply wl_append); (iterate 3 exact rfl); (repeat first | exact .hd | apply Sel.tl | apply In.tl); (intro w hm; exact hm.cells_own (by (repeat first | exact .hd | apply Sel.tl | apply In.tl))); exact rfl; (simp [Value.oneCell', sl]); omega; (simp only [maxLen]; omega); (intro A2 cap2 hA2)) | refine sT ?_ | refine sS ?_ | refine sN ?_ | refine sM fun _ => ?_ | (refine sC ?_ ?_ <;> intro hb <;> try omega) | fail)
        all_goals first
          | (exfalso; omega)
          | (refine ⟨(i + 1, A2, cap2), hlt, by dsimp only; omega, ?_, ?_, ?_⟩
             · dsimp only; rw [htk, List.length_append]; exact sB
             · exact sB
             · dsimp only; rw [htk, List.length_append, List.flatMap_append, List.flatMap_cons, List.flatMap_nil, List.append_nil]; exact mS)
          | trace_state
      · have hi2 : i = U.length := by omega
        subst hi2
        rw [List.take_length, ← hsn]
        repeat' (first | refine sT ?_ | refine sS ?_ | refine sN ?_ | refine sM fun _ => ?_ | (refine sC ?_ ?_ <;> intro hb <;> try omega) | fail)
        all_goals first
          | (exfalso; omega)
          | (refine ⟨(vis ++ [e], A1, c1), hv.step he hne, ?_, sB, sB, ?_⟩
             · have := hv.lt he hne
               simp only [List.length_append, List.length_singleton]
               omega
             · simp only [List.map_append, List.map_cons, List.map_nil]
               exact mS)
          | trace_state
    · have hperm := hv.perm hok hall
      have hmem : ∀ r, r ∈ rectsV G vis ↔ ∃ x, (x = c ∨ x ∈ belowF G c) ∧ ∃ u ∈ usesG G x, u.rect = r := fun r => by
        unfold rectsV
        simp only [List.mem_flatMap, List.mem_map]
        constructor
        · rintro ⟨e, he, u, hu, rfl⟩
          have h1 : e.1 ∈ T := by
            rw [← hks]; exact List.mem_map.2 ⟨e, hv.sub e he, rfl⟩
          exact ⟨e.1, ((hTm e.1).1 h1).imp id (hdone _).1, u, hu, rfl⟩
        · rintro ⟨x, hx, u, hu, rfl⟩
          have h1 : x ∈ T := (hTm x).2 (hx.imp id (hdone _).2)
          rw [← hks] at h1
          obtain ⟨e, he, rfl⟩ := List.mem_map.1 h1
          exact ⟨e, hperm.mem_iff.2 he, u, hu, rfl⟩
      rw [leaves_of hmem]
      all_goals first
        | (exact ret2 eIO rfl rfl rfl (H' := .own A 24 4 (leavesF G c).length cap ((leavesF G c).flatMap encR) :: F) mS ⟨A, cap, rfl, rfl⟩)
        | trace_state
  · rw [if_neg hc0]
    repeat' (first | ((with_reducible apply wl_callp (f := 88)); exact rfl; exact rfl; (intro w' hm; exact hck w' _ (Reads.of_own (A := some _) hm pK))) | refine sT ?_ | refine sS ?_ | refine sM fun _ => ?_ | (refine sC ?_ ?_ <;> intro hb <;> try omega) | fail)
    all_goals first
      | (exfalso; omega)
      | (exact ret2 eIO rfl rfl rfl (H' := .own none 24 4 0 0 [] :: F) mS ⟨none, 0, rfl, rfl⟩)
      | trace_state
theorem reaches1_at (r:Rct) (b:Rf) (g:Nat) (w:World) (hr:Ro w g 0 (encF b)):Pure Tryz.prog 99 [.agg (encR r).toArray,.pointer (some ⟨g,0,none⟩)] w (.bool (hasR r b)):=by
 refine fn_at Tryz.func99 rfl Tryz.ntmps99 rfl ?_
 have hh:=fun w=>Has_at r b w
 repeat' (first|((with_reducible apply wl_v);exact rfl;(with_reducible apply v_loadw_ro (o:=0));exact rfl;exact hr;exact rfl)|((with_reducible apply wl_callp);exact rfl;exact rfl;(intro w hm;exact hh w))|refine sT ?_|refine sM fun _=> ?_|(refine sC ?_ ?_<;>intro hb<;>try omega)|fail)
 all_goals exact ret1 eIO rfl rfl (.nil _) rfl
theorem path1_at (u:Us) (b:Rf) (g:Nat) (w:World) (hr:Ro w g 0 (encF b)):Pure Tryz.prog 101 [.agg (encU u).toArray,.pointer (some ⟨g,0,none⟩)] w (.bool (hasR u.rect b)):=by
 refine fn_at Tryz.func101 rfl Tryz.ntmps101 rfl ?_
 have hh:=fun w=>Has_at u.rect b w
 repeat' (first|((with_reducible apply wl_v);exact rfl;(with_reducible apply v_loadw_ro (o:=0));exact rfl;exact hr;exact rfl)|((with_reducible apply wl_callp);exact rfl;exact rfl;(intro w hm;exact hh w))|refine sT ?_|refine sM fun _=> ?_|(refine sC ?_ ?_<;>intro hb<;>try omega)|fail)
 all_goals exact ret1 eIO rfl rfl (.nil _) rfl
def idxR (q:Rct→Bool) (L:List Rct):Int:=match L.findIdx? q with|some i=>(i:Int)|none=> -1
set_option maxHeartbeats 1000000 in
theorem IndexR_at (f:FuncId) [Callable Tryz.prog f] (caps:List Value) (q:Rct→Bool) (L:List Rct) (hlen:L.length≤1000000) (tv:Value) (w:World) (ht:Reads w tv L.length (L.flatMap encR))
  (hf: ∀ u w' H,Mem w w' H→Pure Tryz.prog f ([.agg (encR u).toArray]++caps) w' (.bool (q u))):
  Pure Tryz.prog 133 [tv,.func (.func f) #[] caps.toArray] w (.int .i64 (idxR q L)):=by
 obtain ⟨Al,cl,rfl,hl1,hl2,hl3⟩:=ht
 refine fn_at Tryz.func133 rfl Tryz.ntmps133 rfl ?_
 repeat' (first|refine sT ?_|refine sM fun _=> ?_|(refine sC ?_ ?_<;>intro hb<;>try omega)|fail)
 refine w_loop (fun i:Nat=> [(0,.slice Al L.length cl),(1,.func (.func f) #[] caps.toArray),(7,.int .i64 (L.length:Int)),(8,.int .i64 (i:Int))]) (fun _=> []) (fun i=>i≤L.length∧ ∀ j (h:j<L.length),j<i→q L[j]=false) (fun i=>L.length - i) 0 ⟨by omega,fun j _ h=>by omega⟩ sB (.refl _) ?_
 rintro i ⟨hi,hno⟩
 by_cases hlt:i<L.length
 ·
  obtain ⟨gl,ol,rfl,hrl⟩:=hl3 (by omega)
  have he:=hrl.elem encR_len' i hlt
  have hq:=fun w' H=>hf L[i] w' H
  have hnext:q L[i]=false→ ∀ j (h:j<L.length),j<i+1→q L[j]=false:=fun h0 j h hj=>by
   by_cases e:j=i
   ·
    subst e;exact h0
   ·
    exact hno j h (by omega)
  have hres:q L[i]=true→idxR q L=(i:Int):=fun h0=>by
   unfold idxR
   rw [List.findIdx?_eq_some_iff_getElem.2 ⟨hlt,h0,fun j hj=>by rw [hno j (by omega) hj];simp⟩]
  generalize L[i]=u at he hq hnext hres
  generalize q u=b at hq hnext hres
  repeat' (first|((with_reducible apply wl_callvp);exact rfl;exact rfl;infer_instance;exact rfl;(intro w' hm;exact hq w' _ hm))|refine sT ?_|refine sN ?_|refine sO ?_|refine sM fun _=> ?_|(refine sC ?_ ?_<;>intro hb<;>try omega)|fail)
  all_goals first
   |(refine ret1 eIO rfl rfl (.nil _) ?_;rw [hres (by assumption)];done)
   |(refine ⟨i+1,⟨hlt,hnext (by assumption)⟩,by omega,?_,.nil _⟩;exact sB;done)
 ·
  have e:i=L.length:=by omega
  subst e
  have hres:idxR q L= -1:=by
   unfold idxR
   rw [List.findIdx?_eq_none_iff.2 fun x hx=>by
    obtain ⟨j,hj,rfl⟩:=List.getElem_of_mem hx
    exact hno j hj hj]
  repeat' (first|refine sT ?_|refine sM fun _=> ?_|(refine sC ?_ ?_<;>intro hb<;>try omega)|fail)
  all_goals (refine ret1 eIO rfl rfl (.nil _) ?_;rw [hres])
theorem ContainsR_at (f:FuncId) [Callable Tryz.prog f] (caps:List Value) (q:Rct→Bool) (L:List Rct) (hlen:L.length≤1000000) (tv:Value) (w:World) (ht:Reads w tv L.length (L.flatMap encR))
  (hf: ∀ u w' H,Mem w w' H→Pure Tryz.prog f ([.agg (encR u).toArray]++caps) w' (.bool (q u))):
  Pure Tryz.prog 98 [tv,.func (.func f) #[] caps.toArray] w (.bool (L.any q)):=by
 refine fn_at Tryz.func98 rfl Tryz.ntmps98 rfl ?_
 have hI:=fun (w' :World) (H:List Blk) (hm:Mem w w' H)=>IndexR_at f caps q L hlen tv w' (ht.of_w0 hm) (fun u w2 H2 hm2=>hf u w2 _ (hm.call hm2))
 have hres:decide (0≤idxR q L)=L.any q:=by
  unfold idxR
  cases h:L.findIdx? q with
  |none=>
   rw [List.findIdx?_eq_none_iff] at h
   have:L.any q=false:=by rw [List.any_eq_false];exact fun x hx=>by rw [h x hx];simp
   rw [this];rfl
  |some i=>
   obtain ⟨h1,h2,_⟩:=List.findIdx?_eq_some_iff_getElem.1 h
   have:L.any q=true:=List.any_eq_true.2 ⟨_,List.getElem_mem h1,h2⟩
   rw [this];simp
 repeat' (first|((with_reducible apply wl_callp (f:=133));exact rfl;exact rfl;(intro w' hm;exact hI w' _ hm))|refine sT ?_|refine sM fun _=> ?_|(refine sC ?_ ?_<;>intro hb<;>try omega)|fail)
 all_goals (refine ret1 eIO rfl rfl (.nil _) ?_;rw [hres])
theorem check_fst {a b:Rf} (h:checkR [a,b] []=0):checkR [a] []=0∧a.valid=true∧b.valid=true:=by
 unfold checkR at h ⊢
 split at h
 ·
  rename_i h1
  simp only [List.all_cons,List.all_nil,Bool.and_true,Bool.and_eq_true] at h1
  refine ⟨?_,h1.1,h1.2⟩
  rw [if_pos]
  simp [h1.1]
 ·
  cases h
theorem leavesF_len {G:Gr} {c:Rf} (hG:SortG G) (h: ∀ d,(usesG G d).length≤1000):(leavesF G c).length≤(G.length+1)*1000:=by
 have h1: ∀ l:List Rf,(l.flatMap fun x=>(usesG G x).map fun u=>u.rect).length≤l.length*1000:=fun l=>by
  induction l with
  |nil=>exact Nat.zero_le _
  |cons a l ih=>
   have:=h a
   simp only [List.flatMap_cons,List.length_append,List.length_map,List.length_cons]
   omega
 have h2:=h1 (c::belowF G c)
 have h3:=cmpt_len (sortRc ((c::belowF G c).flatMap fun x=>(usesG G x).map fun u=>u.rect))
 rw [(sortRc_perm _).length_eq] at h3
 have h4:(belowF G c).length≤G.length:=by
  have:=List.length_filter_le (fun d=> @decide (Rc G c (oneA d.col d.row)) (Classical.propDecidable _)) (keysG G)
  rw [show (keysG G).length=G.length by rw [keysG,List.length_map]] at this
  exact this
 rw [List.length_cons] at h2
 unfold leavesF
 have:((belowF G c).length+1)*1000≤(G.length+1)*1000:=Nat.mul_le_mul_right _ (by omega)
 omega
noncomputable def reachesR (G:Gr) (a b:Rf):Bool:=decide (checkR [a,b] []=0) && reachF G a b
set_option maxHeartbeats 4000000 in
theorem Reaches_in (gg:Nat) (G:Gr) (hG:GrOk G) (hGl:G.length≤900) (a b:Rf) (B F:List Blk) (hB:MSub B F) (w0:World)
  (hFm: ∀ H,MSub B H→FnIn Tryz.prog 17 [.pointer (some ⟨gg,0,none⟩)] w0 H fun v H' => ∃ A cap,v=sl A (keysG G).length cap∧H' = .own A 38 2 (keysG G).length cap ((keysG G).flatMap encF)::H)
  (hUs: ∀ d H,MSub B H→FnIn Tryz.prog 21 [.pointer (some ⟨gg,0,none⟩),keyF d] w0 H fun v H' => ∃ A cap,v=sl A (usesG G d).length cap∧H' = .own A 45 6 (usesG G d).length cap ((usesG G d).flatMap encU)::H)
  (hUl: ∀ d,(usesG G d).length≤1000):
  FnIn Tryz.prog 49 [.pointer (some ⟨gg,0,none⟩),keyF a,keyF b] w0 F fun v H' =>v= .tuple #[.bool (reachesR G a b),.int .i64 (checkR [a,b] [])]∧H' =F:=by
 refine fn_in Tryz.func49 rfl Tryz.ntmps49 rfl ?_
 have hck:=fun w (v:Value) (hr:Reads w v 2 (encF a++encF b))=>checkA_at gg [a,b] [] v (.slice none 0 0) w (by simpa using hr) (reads_nil w) (by simp) (by simp)
 have hlv:=fun F hB=>Leaves_in gg G hG hGl a B F hB w0 hFm hUs hUl
 have hll:=leavesF_len (c:=a) hG.sort hUl
 unfold reachesR
 by_cases hc0:checkR [a,b] []=0
 ·
  obtain ⟨hca,_,hvb⟩:=check_fst hc0
  unfold leavesR at hlv
  rw [hca,if_pos rfl] at hlv
  rw [hc0] at hck ⊢
  rw [decide_eq_true rfl,Bool.true_and,← reach_leaves hG hvb]
  generalize leavesF G a=L at hlv hll ⊢
  repeat' (first|((with_reducible apply wl_callp (f:=88));exact rfl;exact rfl;(intro w' hm;exact hck w' _ (Reads.of_own (A:=some _) hm pK)))|((with_reducible apply wl_callin (f:=48));exact rfl;exact rfl;exact hlv _ (MSub.trans hB mS);rintro _ _ ⟨A9,c9,rfl,rfl⟩)|refine sT ?_|refine sS ?_|refine sM fun _=> ?_|(refine sC ?_ ?_<;>intro hb<;>try omega)|fail)
  all_goals first|(exfalso;omega)|skip
  rename_i g4 g5 g6
  have hct:=fun w' (hm:Mem w0 w' (.own A9 24 4 L.length c9 (L.flatMap encR):: .box g5 38 (encF b):: []))=>ContainsR_at 99 [.pointer (some ⟨g5,0,none⟩)] (fun r=>hasR r b) L (by omega) (sl A9 L.length c9) w' (Reads.of_own hm .hd) (fun u w2 H2 hm2=>reaches1_at u b g5 w2 (Ro.next (Ro.of_box hm (.tl .hd)) hm2))
  repeat' (first|((with_reducible apply wl_callp (f:=98));exact rfl;exact rfl;(intro w' hm;exact hct w' (MSub.use mS hm)))|refine sT ?_|refine sS ?_|refine sM fun _=> ?_|(refine sC ?_ ?_<;>intro hb<;>try omega)|fail)
  all_goals first
   |(exfalso;omega)
   |(exact ret2 eIO rfl rfl rfl (H' :=F) mS ⟨rfl,rfl⟩)
   |trace_state
 ·
  rw [decide_eq_false hc0,Bool.false_and]
  repeat' (first|((with_reducible apply wl_callp (f:=88));exact rfl;exact rfl;(intro w' hm;exact hck w' _ (Reads.of_own (A:=some _) hm pK)))|refine sT ?_|refine sS ?_|refine sM fun _=> ?_|(refine sC ?_ ?_<;>intro hb<;>try omega)|fail)
  all_goals first
   |(exfalso;omega)
   |(exact ret2 eIO rfl rfl rfl (H' :=F) mS ⟨rfl,rfl⟩)
   |trace_state
end Go.SL
namespace Go.SL
open Go
def hitF (G:Gr) (b:Rf) (f:Rf→Nat) (n:Nat) (c:Rf):Bool:=
 if n=0 then touchesU (usesG G c) (oneA b.col b.row) else (keysG G).any fun d=>decide (f d=n) && touchesU (usesG G c) (oneA d.col d.row)
def farN (G:Gr) (b:Rf):Nat→Rf→Nat
 |0,_=>0
 |n+1,c=>if farN G b n c≠0 then farN G b n c else if c∈keysG G∧hitF G b (farN G b n) n c=true then n+1 else 0
def disF (G:Gr) (b c:Rf):Nat:=farN G b (G.length+1) c
inductive Wy (G:Gr) (b:Rf):Nat→Rf→Prop
 |one {c:Rf} (hc:c∈keysG G) (h:touchesU (usesG G c) (oneA b.col b.row)=true):Wy G b 1 c
 |more {c d:Rf} {n:Nat} (hc:c∈keysG G) (hd:d∈keysG G) (h:touchesU (usesG G c) (oneA d.col d.row)=true) (k:Wy G b n d):Wy G b (n+1) c
section
variable {G:Gr} {b:Rf}
theorem Wy.key {n:Nat} {c:Rf} (h:Wy G b n c):c∈keysG G:=by cases h<;>assumption
theorem rc_wy {c:Rf}:Rc G c (oneA b.col b.row)↔ ∃ n,Wy G b n c:=by
 constructor
 ·
  intro h
  generalize hq:oneA b.col b.row=q at h
  induction h with
  |use hc h=>subst hq;exact ⟨1,.one hc h⟩
  |via hc hd h _ ih=>obtain ⟨n,hn⟩:=ih hq;exact ⟨n+1,.more hc hd h hn⟩
 ·
  rintro ⟨n,h⟩
  induction h with
  |one hc h=>exact .use hc h
  |more hc hd h _ ih=>exact .via hc hd h ih
theorem farN_keep {n:Nat} {c:Rf} (h:farN G b n c≠0):farN G b (n+1) c=farN G b n c:=by
 rw [farN,if_pos h]
theorem farN_keeps {n:Nat} {c:Rf} (h:farN G b n c≠0): ∀ m,n≤m→farN G b m c=farN G b n c:=fun m hm=>by
 induction m with
 |zero=>rw [Nat.le_zero.1 hm]
 |succ m ih=>
  rcases Nat.lt_or_ge m n with h1|h1
  ·
   rw [show m+1=n by omega]
  ·
   have:=ih h1
   rw [farN_keep (by rw [this];exact h),this]
theorem farN_le (n:Nat) (c:Rf):farN G b n c≤n:=by
 induction n with
 |zero=>exact Nat.le_refl _
 |succ n ih=>
  rw [farN]
  split
  ·
   omega
  ·
   split<;>omega
theorem farN_lev {n k:Nat} {c:Rf} (h:farN G b n c=k) (hk:k≠0):farN G b k c=k∧ ∀ j,j<k→farN G b j c=0:=by
 have hz: ∀ j,j<k→farN G b j c=0:=fun j hj=>by
  rcases Nat.eq_zero_or_pos (farN G b j c) with h1|h1
  ·
   exact h1
  ·
   have hle:=farN_le (G:=G) (b:=b) j c
   rcases Nat.lt_or_ge n j with h2|h2
   ·
    have h3:=farN_keeps (G:=G) (b:=b) (n:=n) (c:=c) (by omega) j (by omega)
    omega
   ·
    have h3:=farN_keeps (G:=G) (b:=b) (n:=j) (c:=c) (by omega) n h2
    omega
 refine ⟨?_,hz⟩
 have hkn:k≤n:=h ▸ farN_le n c
 rcases Nat.eq_zero_or_pos (farN G b k c) with h1|h1
 ·
  exfalso
  have hgo: ∀ m,k≤m→farN G b m c=k→ ∃ j,k≤j∧farN G b j c=0∧farN G b (j+1) c=k:=fun m hm hf=>by
   induction m with
   |zero=>rw [show k=0 by omega] at hk;exact absurd rfl hk
   |succ m ih=>
    rcases Nat.eq_zero_or_pos (farN G b m c) with h2|h2
    ·
     rcases Nat.lt_or_ge m k with h3|h3
     ·
      exact absurd (show k=m+1 by omega) (fun e=>by rw [e] at h1 hf;omega)
     ·
      exact ⟨m,h3,h2,hf⟩
    ·
     have h3:=farN_keep (G:=G) (b:=b) (n:=m) (c:=c) (by omega)
     refine ih ?_ (by rw [← h3];exact hf)
     have:=farN_le (G:=G) (b:=b) m c
     omega
  obtain ⟨j,h2,h3,h4⟩:=hgo n hkn h
  rw [farN,if_neg (by omega)] at h4
  split at h4<;>omega
 ·
  have h3:=farN_keeps (G:=G) (b:=b) (n:=k) (c:=c) (by omega) n hkn
  omega
theorem farN_hit {k:Nat} {c:Rf} (h:farN G b (k+1) c=k+1):c∈keysG G∧hitF G b (farN G b k) k c=true:=by
 have h0:=(farN_lev h (by omega)).2 k (by omega)
 rw [farN,if_neg (by omega)] at h
 split at h
 ·
  assumption
 ·
  omega
theorem hit_of {f:Rf→Nat} {n:Nat} {c:Rf}:hitF G b f n c=true↔(n=0∧touchesU (usesG G c) (oneA b.col b.row)=true)∨(n≠0∧ ∃ d∈keysG G,f d=n∧touchesU (usesG G c) (oneA d.col d.row)=true):=by
 unfold hitF
 by_cases h:n=0
 ·
  rw [if_pos h];simp [h]
 ·
  rw [if_neg h,List.any_eq_true]
  simp only [Bool.and_eq_true,decide_eq_true_eq,h,ne_eq,not_false_eq_true,true_and,false_and,false_or]
theorem wy_of_far: ∀ {k:Nat} {n:Nat} {c:Rf},farN G b n c=k→k≠0→Wy G b k c:=fun {k}=>by
 induction k with
 |zero=>intro _ _ _ h;exact absurd rfl h
 |succ k ih=>
  intro n c h _
  obtain ⟨hc,hh⟩:=farN_hit (farN_lev h (by omega)).1
  rcases hit_of.1 hh with ⟨rfl,h1⟩|⟨h0,d,hd,h1,h2⟩
  ·
   exact .one hc h1
  ·
   exact .more hc hd h2 (ih h1 h0)
theorem far_of_wy {k:Nat} {c:Rf} (h:Wy G b k c):farN G b k c≠0:=by
 induction h with
 |one hc h=>
  rw [farN]
  split
  ·
   assumption
  ·
   rw [if_pos ⟨hc,hit_of.2 (.inl ⟨rfl,h⟩)⟩];omega
 | @more c d n hc hd h k ih=>
  obtain ⟨j,hj⟩: ∃ j,farN G b n d=j:=⟨_,rfl⟩
  have hjn:j≤n:=hj ▸ farN_le n d
  have hj0:j≠0:=by rw [← hj];exact ih
  have hl:=(farN_lev hj hj0).1
  have h1:farN G b (j+1) c≠0:=by
   rw [farN]
   split
   ·
    assumption
   ·
    rw [if_pos ⟨hc,hit_of.2 (.inr ⟨hj0,d,hd,hl,h⟩)⟩];omega
  rw [farN_keeps h1 (n+1) (by omega)]
  exact h1
theorem far_least {n k j:Nat} {c:Rf} (h:farN G b n c=k) (hk:k≠0) (w:Wy G b j c):k≤j:=by
 rcases Nat.lt_or_ge j k with h1|h1
 ·
  exact absurd ((farN_lev h hk).2 j h1) (far_of_wy w)
 ·
  exact h1
theorem far_stop {n:Nat} (hn:n≠0) (h: ∀ c∈keysG G,farN G b n c≠n): ∀ m,n≤m→ ∀ c,farN G b m c=farN G b n c:=fun m hm=>by
 induction m with
 |zero=>intro c;rw [Nat.le_zero.1 hm]
 |succ m ih=>
  rcases Nat.lt_or_ge m n with h1|h1
  ·
   intro c;rw [show m+1=n by omega]
  ·
   intro c
   rw [← ih h1 c]
   by_cases h2:farN G b m c=0
   ·
    rw [farN,if_neg (by omega),h2]
    refine if_neg fun h3=> ?_
    rcases hit_of.1 h3.2 with ⟨h4,_⟩|⟨_,d,hd,h5,_⟩
    ·
     omega
    ·
     have h6:=ih h1 d
     rw [h5] at h6
     have h7:=farN_le (G:=G) (b:=b) n d
     exact h d hd (by omega)
   ·
    exact farN_keep h2
theorem countP_lt {α:Type} {p q:α→Bool}: ∀ {l:List α},(∀ x∈l,p x=true→q x=true)→(∃ x∈l,q x=true∧p x=false)→l.countP p+1≤l.countP q
 | [],_,h=>by obtain ⟨x,hx,_⟩:=h;cases hx
 |a::l,h1,h2=>by
  have hm:l.countP p≤l.countP q:=List.countP_mono_left fun x hx=>h1 x (List.mem_cons_of_mem _ hx)
  rw [List.countP_cons,List.countP_cons]
  obtain ⟨x,hx,h3,h4⟩:=h2
  rcases List.mem_cons.1 hx with rfl|hx
  ·
   rw [h3,h4];simp;exact hm
  ·
   have ih:=countP_lt (l:=l) (fun x hx=>h1 x (List.mem_cons_of_mem _ hx)) ⟨x,hx,h3,h4⟩
   have:=h1 a List.mem_cons_self
   cases hp:p a
   ·
    simp;split<;>omega
   ·
    rw [this hp];simp;exact ih
theorem far_count {n:Nat} (h: ∀ k,1≤k→k≤n→ ∃ c∈keysG G,farN G b k c=k):n≤(keysG G).countP fun c=>decide (farN G b n c≠0):=by
 induction n with
 |zero=>exact Nat.zero_le _
 |succ n ih=>
  refine Nat.le_trans (Nat.succ_le_succ (ih fun k h1 h2=>h k h1 (by omega))) (countP_lt (fun c _ h1=> ?_) ?_)
  ·
   simp only [decide_eq_true_eq] at h1 ⊢
   rw [farN_keep h1];exact h1
  ·
   obtain ⟨c,hc,h1⟩:=h (n+1) (by omega) (Nat.le_refl _)
   refine ⟨c,hc,?_,?_⟩
   ·
    simp only [decide_eq_true_eq];omega
   ·
    have:=(farN_lev h1 (by omega)).2 n (by omega)
    simp [this]
theorem far_levels {n:Nat} {c:Rf} (hc:c∈keysG G) (h:farN G b n c=n): ∀ k,1≤k→k≤n→ ∃ d∈keysG G,farN G b k d=k:=fun k h1 h2=>by
 induction n generalizing c with
 |zero=>omega
 |succ n ih=>
  rcases Nat.lt_or_ge n k with h3|h3
  ·
   rw [show k=n+1 by omega];exact ⟨c,hc,h⟩
  ·
   rcases hit_of.1 (farN_hit h).2 with ⟨h4,_⟩|⟨_,d,hd,h5,_⟩
   ·
    omega
   ·
    exact ih hd h5 h3
theorem far_end: ∀ c∈keysG G,farN G b (G.length+1) c≠G.length+1:=fun c hc h=>by
 have h1:=far_count (far_levels hc h)
 have h2:=List.countP_le_length (p:=fun c=>decide (farN G b (G.length+1) c≠0)) (l:=keysG G)
 rw [keysG,List.length_map] at h2
 rw [keysG] at h1
 omega
theorem far_full (m:Nat) (hm:G.length+1≤m) (c:Rf):farN G b m c=disF G b c:=far_stop (by omega) far_end m hm c
theorem farF_wy {c:Rf}:disF G b c≠0↔ ∃ n,Wy G b n c:=by
 constructor
 ·
  intro h;exact ⟨_,wy_of_far rfl h⟩
 ·
  rintro ⟨n,h⟩ h0
  have h1:=far_of_wy h
  have h2:=farN_keeps h1 (n+(G.length+1)) (by omega)
  rw [far_full _ (by omega),h0] at h2
  exact h1 h2.symm
theorem farF_rc {c:Rf}:disF G b c≠0↔Rc G c (oneA b.col b.row):=farF_wy.trans rc_wy.symm
theorem farF_least {j:Nat} {c:Rf} (w:Wy G b j c):disF G b c≤j:=far_least rfl (farF_wy.2 ⟨j,w⟩) w
theorem farF_way {c:Rf} (h:disF G b c≠0):Wy G b (disF G b c) c:=wy_of_far rfl h
def nxtF (G:Gr) (b:Rf) (n:Nat) (c:Rf):Option Rf:=(keysG G).find? fun d=>decide (disF G b d=n) && touchesU (usesG G c) (oneA d.col d.row)
def tailF (G:Gr) (b:Rf):Nat→Rf→List Rf
 |0,_=> []
 |n+1,c=>if n=0 then [] else match nxtF G b n c with
  |some d=>d::tailF G b n d
  |none=> []
theorem stepF_some {n:Nat} {c:Rf} (h:disF G b c=n+1) (hn:n≠0): ∃ d,nxtF G b n c=some d∧d∈keysG G∧disF G b d=n∧touchesU (usesG G c) (oneA d.col d.row)=true:=by
 have hw:=farF_way (G:=G) (b:=b) (c:=c) (by omega)
 rw [h] at hw
 cases hw with
 |one=>exact absurd rfl hn
 | @more _ d _ hc hd ht k=>
  have h1:=farF_least k
  have h2:n+1≤disF G b d+1:=by rw [← h];exact farF_least (.more hc hd ht (farF_way (farF_wy.2 ⟨n,k⟩)))
  have h3:disF G b d=n:=by omega
  unfold nxtF
  cases hf:(keysG G).find? fun d=>decide (disF G b d=n) && touchesU (usesG G c) (oneA d.col d.row) with
  |none=>
   have:=List.find?_eq_none.1 hf d hd
   simp [h3,ht] at this
  |some e=>
   have h4:=List.find?_some hf
   simp only [Bool.and_eq_true,decide_eq_true_eq] at h4
   exact ⟨e,rfl,List.mem_of_find?_eq_some hf,h4.1,h4.2⟩
end
section
variable {G:Gr} {b:Rf}
def wayF (G:Gr) (b:Rf) (n:Nat) (c:Rf):List Rf:=c::(tailF G b n c++ [b])
theorem tailF_one (c:Rf):tailF G b 1 c= []:=rfl
theorem wayF_one (c:Rf):wayF G b 1 c= [c,b]:=rfl
end
theorem rc_comp {G:Gr} {c:Rf} {r:Rct}:Rc G c r↔c∈keysG G∧(touchesU (usesG G c) r=true∨ ∃ d∈keysG G,disF G d c≠0∧touchesU (usesG G d) r=true):=by
 constructor
 ·
  intro h
  refine ⟨h.key,h.last.imp id ?_⟩
  rintro ⟨d,h1,h2,h3⟩
  exact ⟨d,h1,farF_rc.2 h2,h3⟩
 ·
  rintro ⟨h1,h2|⟨d,h2,h3,h4⟩⟩
  ·
   exact .use h1 h2
  ·
   exact Rc.trans (farF_rc.1 h3) h2 (.use h2 h4)
def aboveC (G:Gr) (l:List Rct):List Rf:=(keysG G).filter fun c=>l.any fun r=>touchesU (usesG G c) r||(keysG G).any fun d=> !decide (disF G d c=0) && touchesU (usesG G d) r
def belowC (G:Gr) (c:Rf):List Rf:=(keysG G).filter fun d=> !decide (disF G d c=0)
open Classical in
theorem above_comp (G:Gr) (l:List Rct):aboveF G l=aboveC G l:=by
 unfold aboveF aboveC
 refine List.filter_congr fun c hc=> ?_
 rw [Bool.eq_iff_iff,decide_eq_true_eq,List.any_eq_true]
 refine exists_congr fun r=>and_congr_right fun _=> ?_
 rw [rc_comp,Bool.or_eq_true,List.any_eq_true]
 simp only [hc,true_and,Bool.and_eq_true,Bool.not_eq_true',decide_eq_false_iff_not,ne_eq]
open Classical in
theorem below_comp (G:Gr) (c:Rf):belowF G c=belowC G c:=by
 unfold belowF belowC
 refine List.filter_congr fun d _=> ?_
 rw [Bool.eq_iff_iff,decide_eq_true_eq,← farF_rc]
 simp
open Classical in
theorem reach_comp (G:Gr) (a b:Rf):reachF G a b= !decide (disF G b a=0):=by
 unfold reachF
 rw [Bool.eq_iff_iff,decide_eq_true_eq,← farF_rc]
 simp
section
variable {G:Gr} (hG:GrOk G)
include hG
theorem users_iff {a b:Rf} (hb:b.valid=true):a∈usersG G (oneA b.col b.row)↔a∈keysG G∧touchesU (usesG G a) (oneA b.col b.row)=true:=by
 have hr:rectOk (oneA b.col b.row)=true:=by rw [rect_one];exact hb
 exact ⟨fun h=>⟨users_keys a h,(mem_users hG.sort hr (users_keys a h)).1 h⟩,fun h=>(mem_users hG.sort hr h.1).2 h.2⟩
theorem keys_len {M:List Rf} (hn:M.Nodup) (hM: ∀ c∈M,c∈keysG G):M.length≤G.length:=by
 have hp:M.Perm ((keysG G).filter fun a=>decide (a∈M)):=nodup_perm hn (hG.sort.nodup.filter _) fun a=>by
  rw [List.mem_filter,decide_eq_true_eq]
  exact ⟨fun ha=>⟨hM a ha,ha⟩,fun ha=>ha.2⟩
 have h1:=hp.length_eq
 have h2:=List.length_filter_le (fun a=>decide (a∈M)) (keysG G)
 have h3:(keysG G).length=G.length:=by rw [keysG,List.length_map]
 omega
open Classical in
theorem made_iff {a b:Rf} (hb:b∈keysG G):(decide (a∈usersG G (oneA b.col b.row))||(keysG G).any fun d=>decide (a∈usersG G (oneA d.col d.row)) && decide (b∈belowF G d))=reachF G a b:=by
 unfold reachF
 rw [Bool.eq_iff_iff]
 simp only [Bool.or_eq_true,decide_eq_true_eq,List.any_eq_true,Bool.and_eq_true]
 constructor
 ·
  rintro (h|⟨d,hd,h1,h2⟩)
  ·
   obtain ⟨h1,h2⟩:=(users_iff hG (key_valid hG hb)).1 h
   exact .use h1 h2
  ·
   obtain ⟨h3,h4⟩:=(users_iff hG (key_valid hG hd)).1 h1
   exact .via h3 hd h4 (mem_below.1 h2).2
 ·
  intro h
  cases h with
  |use h1 h2=>exact .inl ((users_iff hG (key_valid hG hb)).2 ⟨h1,h2⟩)
  | @via _ d _ h1 h2 h3 h4=>exact .inr ⟨d,h2,(users_iff hG (key_valid hG h2)).2 ⟨h1,h3⟩,mem_below.2 ⟨hb,h4⟩⟩
omit hG
theorem below_trans {a b c:Rf} (h1:b∈belowF G a) (h2:c∈belowF G b):c∈belowF G a:=by
 rw [mem_below] at*
 exact ⟨h2.1,Rc.trans h1.2 h1.1 h2.2⟩
open Classical in
theorem below_reach {a b:Rf} (hb:b∈keysG G):decide (b∈belowF G a)=reachF G a b:=by
 unfold reachF
 rw [Bool.eq_iff_iff,decide_eq_true_eq,decide_eq_true_eq,mem_below]
 exact ⟨fun h=>h.2,fun h=>⟨hb,h⟩⟩
open Classical in
theorem above_reach {a b:Rf}:decide (a∈aboveF G [oneA b.col b.row])=reachF G a b:=by
 unfold reachF
 rw [Bool.eq_iff_iff,decide_eq_true_eq,decide_eq_true_eq,mem_above]
 constructor
 ·
  rintro ⟨r,hr,h⟩;rw [← List.mem_singleton.1 hr];exact h
 ·
  intro h;exact ⟨_,List.mem_singleton.2 rfl,h⟩
open Classical in
end
def lookD (D:List (Rf × Nat)) (a:Rf):Nat:=match D.find? fun p=>decide (p.1=a) with|some p=>p.2|none=>0
def lenFrom (D:List (Rf × Nat)) (j:Nat):List (Rf × Value × Nat):=(D.zipIdx j).map fun x=>(x.1.1,.int .i64 (x.1.2:Int),x.2)
def lenM (D:List (Rf × Nat)):List (Rf × Value × Nat):=lenFrom D 0
theorem lenFrom_cons (p:Rf × Nat) (D:List (Rf × Nat)) (j:Nat):lenFrom (p::D) j=(p.1,.int .i64 (p.2:Int),j)::lenFrom D (j+1):=by simp [lenFrom,List.zipIdx_cons]
theorem lenFrom_app (p:Rf × Nat): ∀ (D:List (Rf × Nat)) (j:Nat),lenFrom (D++ [p]) j=lenFrom D j++ [(p.1,.int .i64 (p.2:Int),j+D.length)]
 | [],j=>rfl
 |q::D,j=>by
  rw [List.cons_append,lenFrom_cons,lenFrom_cons,lenFrom_app p D (j+1),List.cons_append,List.length_cons,show j+1+D.length=j+(D.length+1) by omega]
theorem look_lenFrom (a:Rf): ∀ (D:List (Rf × Nat)) (j i:Nat),(match kfind a (lenFrom D j) i with|some (_,v)=>v|none=>Value.int .i64 0)= .int .i64 (lookD D a:Int)
 | [],_,_=>rfl
 |p::D,j,i=>by
  rw [lenFrom_cons,kfind]
  by_cases h:a=p.1
  ·
   rw [if_pos h]
   simp [lookD,h]
  ·
   rw [if_neg h,look_lenFrom a D (j+1) (i+1)]
   have h2: ¬ p.1=a:=fun e=>h e.symm
   simp [lookD,h2]
theorem look_len (D:List (Rf × Nat)) (a:Rf):(match kfind a (lenM D) 0 with|some (_,v)=>v|none=>Value.int .i64 0)= .int .i64 (lookD D a:Int):=look_lenFrom a D 0 0
theorem kfind_lenFrom (a:Rf): ∀ (D:List (Rf × Nat)) (j i:Nat),(∀ p∈D,p.1≠a)→kfind a (lenFrom D j) i=none
 | [],_,_,_=>rfl
 |p::D,j,i,h=>by
  rw [lenFrom_cons,kfind,if_neg (fun e=>h p List.mem_cons_self e.symm)]
  exact kfind_lenFrom a D _ _ (fun q hq=>h q (List.mem_cons_of_mem _ hq))
theorem putD_len {D:List (Rf × Nat)} {a:Rf} {k:Nat} (h: ∀ p∈D,p.1≠a):kput a (.int .i64 (k:Int)) D.length (lenM D)=(lenM (D++ [(a,k)]),D.length+1):=by
 unfold kput lenM
 rw [kfind_lenFrom a D 0 0 h,lenFrom_app,Nat.zero_add]
theorem lookD_no {D:List (Rf × Nat)} (hp: ∀ p∈D,p.2≠0) {a:Rf} (h:lookD D a=0): ∀ p∈D,p.1≠a:=fun p hm e=>by
 unfold lookD at h
 cases hf:D.find? fun p=>decide (p.1=a) with
 |none=>
  have:=List.find?_eq_none.1 hf p hm
  simp [e] at this
 |some q=>
  rw [hf] at h
  exact hp q (List.mem_of_find?_eq_some hf) h
theorem lookD_app {D:List (Rf × Nat)} {a c:Rf} {k:Nat} (h: ∀ p∈D,p.1≠a):lookD (D++ [(a,k)]) c=if c=a then k else lookD D c:=by
 unfold lookD
 rw [List.find?_append]
 by_cases e:c=a
 ·
  subst e
  rw [List.find?_eq_none.2 (fun p hp=>by simp [h p hp])]
  simp
 ·
  rw [if_neg e]
  cases hf:D.find? fun p=>decide (p.1=c) with
  |some q=>simp
  |none=>
   have h2: ¬ a=c:=fun e2=>e e2.symm
   simp [h2]
structure BfI (G:Gr) (b:Rf) (m:Nat) (todo:List Rf) (D:List (Rf × Nat)):Prop where
 look: ∀ c,lookD D c=farN G b m c
 todo_: ∀ c,c∈todo↔(m=0∧c=b)∨(m≠0∧farN G b m c=m)
 nodup:(D.map fun p=>p.1).Nodup
 keys: ∀ p∈D,p.1∈keysG G
 pos: ∀ p∈D,p.2≠0
structure BfJ (G:Gr) (b:Rf) (m:Nat) (D:List (Rf × Nat)) (next:List Rf) (D' :List (Rf × Nat)):Prop where
 look: ∀ c,lookD D' c=if farN G b m c≠0 then farN G b m c else if c∈next then m+1 else 0
 sound: ∀ c∈next,c∈keysG G∧farN G b m c=0∧hitF G b (farN G b m) m c=true
 nodup:(D'.map fun p=>p.1).Nodup
 keys: ∀ p∈D',p.1∈keysG G
 pos: ∀ p∈D',p.2≠0
 len:D'.length=D.length+next.length
section
variable {G:Gr} {b:Rf} {m:Nat} {todo next:List Rf} {D D' :List (Rf × Nat)}
theorem BfI.start (G:Gr) (b:Rf):BfI G b 0 [b] []:=⟨fun _=>rfl,fun c=>by simp,List.nodup_nil,(fun _ h=>by cases h),(fun _ h=>by cases h)⟩
theorem BfI.valid (hG:GrOk G) (hb:b.valid=true) (h:BfI G b m todo D) {x:Rf} (hx:x∈todo):x.valid=true:=by
 rcases (h.todo_ x).1 hx with ⟨_,rfl⟩|⟨h0,h1⟩
 ·
  exact hb
 ·
  exact key_valid hG (wy_of_far h1 h0).key
theorem BfI.hit (h:BfI G b m todo D) {c:Rf}:hitF G b (farN G b m) m c=true↔ ∃ x∈todo,touchesU (usesG G c) (oneA x.col x.row)=true:=by
 rw [hit_of]
 constructor
 ·
  rintro (⟨h0,h1⟩|⟨h0,d,hd,h1,h2⟩)
  ·
   exact ⟨b,(h.todo_ b).2 (.inl ⟨h0,rfl⟩),h1⟩
  ·
   exact ⟨d,(h.todo_ d).2 (.inr ⟨h0,h1⟩),h2⟩
 ·
  rintro ⟨x,hx,h1⟩
  rcases (h.todo_ x).1 hx with ⟨h0,rfl⟩|⟨h0,h2⟩
  ·
   exact .inl ⟨h0,h1⟩
  ·
   exact .inr ⟨h0,x,(wy_of_far h2 h0).key,h2,h1⟩
theorem BfI.enter (h:BfI G b m todo D):BfJ G b m D [] D:=⟨fun c=>by
 rw [h.look]
 by_cases h0:farN G b m c=0<;>simp [h0],(fun _ h=>by cases h),h.nodup,h.keys,h.pos,rfl⟩
theorem BfJ.add (hI:BfI G b m todo D) (h:BfJ G b m D next D') {x c:Rf} (hx:x∈todo) (hc:c∈keysG G) (ht:touchesU (usesG G c) (oneA x.col x.row)=true) (h0:lookD D' c=0):
  BfJ G b m D (next++ [c]) (D' ++ [(c,m+1)]):=by
 have hn:=lookD_no h.pos h0
 have hl:=h.look c
 rw [h0] at hl
 have hf0:farN G b m c=0:=by
  by_cases h1:farN G b m c=0
  ·
   exact h1
  ·
   rw [if_pos h1] at hl;omega
 refine ⟨fun d=> ?_,fun d hd=> ?_,?_,fun p hp=> ?_,fun p hp=> ?_,?_⟩
 ·
  rw [lookD_app hn,h.look]
  by_cases e:d=c
  ·
   subst e
   simp [hf0]
  ·
   simp [e]
 ·
  rcases List.mem_append.1 hd with hd|hd
  ·
   exact h.sound d hd
  ·
   rw [List.mem_singleton.1 hd]
   exact ⟨hc,hf0,hI.hit.2 ⟨x,hx,ht⟩⟩
 ·
  rw [List.map_append,List.nodup_append]
  refine ⟨h.nodup,by simp,fun a ha d hd e=> ?_⟩
  obtain ⟨p,hp,rfl⟩:=List.mem_map.1 ha
  simp only [List.map_cons,List.map_nil,List.mem_singleton] at hd
  exact hn p hp (e.trans hd)
 ·
  rcases List.mem_append.1 hp with hp|hp
  ·
   exact h.keys p hp
  ·
   rw [List.mem_singleton.1 hp];exact hc
 ·
  rcases List.mem_append.1 hp with hp|hp
  ·
   exact h.pos p hp
  ·
   rw [List.mem_singleton.1 hp];simp
 ·
  rw [List.length_append,List.length_append,h.len];simp;omega
theorem BfJ.leave (hI:BfI G b m todo D) (h:BfJ G b m D next D') (hall: ∀ x∈todo,∀ c∈keysG G,touchesU (usesG G c) (oneA x.col x.row)=true→lookD D' c≠0):BfI G b (m+1) next D' :=by
 have hnext: ∀ c,c∈next↔farN G b m c=0∧c∈keysG G∧hitF G b (farN G b m) m c=true:=fun c=>by
  constructor
  ·
   intro hc;obtain ⟨h1,h2,h3⟩:=h.sound c hc;exact ⟨h2,h1,h3⟩
  ·
   rintro ⟨h1,h2,h3⟩
   obtain ⟨x,hx,ht⟩:=hI.hit.1 h3
   have h4:=hall x hx c h2 ht
   rw [h.look,if_neg (show ¬ farN G b m c≠0 by simp [h1])] at h4
   by_cases h5:c∈next
   ·
    exact h5
   ·
    rw [if_neg h5] at h4;exact absurd rfl h4
 refine ⟨fun c=> ?_,fun c=> ?_,h.nodup,h.keys,h.pos⟩
 ·
  rw [h.look,farN]
  by_cases h1:farN G b m c=0
  ·
   rw [if_neg (show ¬ farN G b m c≠0 by simp [h1]),if_neg (show ¬ farN G b m c≠0 by simp [h1])]
   by_cases h2:c∈next
   ·
    rw [if_pos h2,if_pos ((hnext c).1 h2).2]
   ·
    rw [if_neg h2,if_neg fun h3=>h2 ((hnext c).2 ⟨h1,h3⟩)]
  ·
   rw [if_pos h1,if_pos h1]
 ·
  rw [hnext]
  constructor
  ·
   rintro ⟨h1,h2,h3⟩
   refine .inr ⟨by omega,?_⟩
   rw [farN,if_neg (show ¬ farN G b m c≠0 by simp [h1]),if_pos ⟨h2,h3⟩]
  ·
   rintro (⟨h0,_⟩|⟨_,h1⟩)
   ·
    omega
   ·
    exact ⟨(farN_lev h1 (by omega)).2 m (by omega),farN_hit h1⟩
theorem BfI.done (h:BfI G b m [] D) (c:Rf):lookD D c=disF G b c:=by
 have hm:m≠0:=fun e=>by
  have:=(h.todo_ b).2 (.inl ⟨e,rfl⟩)
  cases this
 have hs:=far_stop (G:=G) (b:=b) hm (fun d _ e=>by
  have:=(h.todo_ d).2 (.inr ⟨hm,e⟩)
  cases this) (m+(G.length+1)) (by omega) c
 rw [h.look,← hs,far_full _ (by omega)]
theorem bf_len (hG:GrOk G) (hn:(D.map fun p=>p.1).Nodup) (hk: ∀ p∈D,p.1∈keysG G):D.length≤G.length:=by
 have:=keys_len hG hn fun c hc=>by
  obtain ⟨p,hp,rfl⟩:=List.mem_map.1 hc
  exact hk p hp
 rwa [List.length_map] at this
end
end Go.SL
