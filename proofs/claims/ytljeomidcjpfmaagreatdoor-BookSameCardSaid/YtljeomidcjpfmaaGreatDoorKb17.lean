/-
  Lemmas and walks, put together: Hh Hi He Hf Hg.
-/
import Derived.Test.YtljeomidcjpfmaaGreatDoorKb16
set_option linter.unusedSimpArgs false
set_option linter.unusedVariables false
set_option maxRecDepth 20000
namespace Go.SL
open Go Go.Proofs
attribute [local irreducible] W WL WQ WG WA WX WLI WR WT WC WE VOp RW thn blk cutP scp retP retPP endB FnAt FnIn FnP ceP
--
def encBd (p:Int × Int):List Value:= [.int .i64 p.1,.int .i64 p.2]
theorem encBd_len (p:Int × Int):(encBd p).length=2:=rfl
theorem begins_snoc (lo:Int) (ps:List (Int × Int)) (p:Int × Int):beginsI lo (ps++ [p])=beginsI lo ps++ [p.1,p.2+1]:=by
 unfold beginsI;simp
def inBd (lo hi x:Int):Bool:=decide (lo≤x) && decide (x≤hi)
theorem pairs_set {l:List Int} {h x:Int} (hl:l≠ []):((pairsI l h).flatMap encBd).set (0+((pairsI l h).length - 1)*2+1) (vInt (x - 1))=(pairsI l (x - 1)).flatMap encBd:=by
 obtain ⟨f,a,h1,h2⟩:=pairsI_last l h (x - 1) hl
 rw [h1,h2]
 simp only [List.flatMap_append,List.length_append,List.length_singleton,Nat.add_sub_cancel,List.flatMap_cons,List.flatMap_nil,List.append_nil,encBd]
 rw [List.set_append_right _ _ (by rw [flat_length' encBd_len];omega),flat_length' encBd_len]
 congr 1
 rw [show 0+f.length*2+1 - f.length*2=1 by omega]
 rfl
set_option maxHeartbeats 8000000 in
theorem bands_at (lo hi : Int) (ps : List (Int × Int)) (lv : Value) (w : World) (hl : Reads w lv ps.length (ps.flatMap encBd)) (hn : ps.length ≤ 100000) (hlo : 0 ≤ lo ∧ lo ≤ 100000) (hhi : 0 ≤ hi ∧ hi ≤ 100000) (hps : ∀ p ∈ ps, 0 ≤ p.1 ∧ p.1 ≤ 100000 ∧ 0 ≤ p.2 ∧ p.2 ≤ 100000) :
    FnAt Tryz.prog 280 [.int .i64 lo, .int .i64 hi, lv] w fun v H => ∃ A cap, v = sl A (bandsF lo hi ps).length cap ∧ H = [.own A 317 2 (bandsF lo hi ps).length cap ((bandsF lo hi ps).flatMap encBd)] := by
  obtain ⟨Al, cl, rfl, hl1, hl2, hl3⟩ := hl
  refine fn_at Tryz.func280 rfl Tryz.ntmps280 rfl ?_
  repeat' (first | refine sT ?_ | refine sS ?_ | refine sT2 ?_ | refine sM fun _ => ?_ | (refine sC ?_ ?_ <;> intro hb <;> try omega) | fail)
  rename_i gb
  refine w_loopK [0, 1, 15, 16] rfl (fun y : Nat × Option Nat × Nat => [(7, sl y.2.1 (1 + 2 * y.1) y.2.2), (17, .int .i64 (y.1 : Int))]) (fun y => [.own y.2.1 3 1 (1 + 2 * y.1) y.2.2 ((beginsI lo (ps.take y.1)).map vInt)]) (fun y => y.1 ≤ ps.length) (fun y => ps.length - y.1) (0, some gb, 1) (Nat.zero_le _) sB mS ?_
  rintro ⟨i, A, c⟩ hi0
  dsimp only at hi0 ⊢
  by_cases hlt : i < ps.length
  · obtain ⟨gl, ol, rfl, hrl⟩ := hl3 (by omega)
    have he1 := hrl.elem encBd_len i hlt
    have hbs : beginsI lo (ps.take (i + 1)) = beginsI lo (ps.take i) ++ [ps[i].1, ps[i].2 + 1] := by rw [List.take_succ_eq_append_getElem hlt, begins_snoc]
    have hpb := hps _ (List.getElem_mem hlt)
    generalize ps[i] = p at he1 hbs hpb
    repeat' (first | ((with_reducible apply wl_append (A := A) (m := 2)); (iterate 3 exact rfl); exact pK; (intro w hm; exact hm.cells_own pK); exact rfl; (simp [Value.oneCell', sl]); omega; (simp only [maxLen]; omega); (intro A' cap' hA')) | refine sT ?_ | refine sS ?_ | refine sT2 ?_ | refine sN ?_ | refine sJ ?_ | refine sO ?_ | refine sM fun _ => ?_ | (refine sC ?_ ?_ <;> intro hb <;> try omega) | fail)
    all_goals first
      | (exfalso; omega)
      | (refine ⟨(i + 1, A', cap'), hlt, by dsimp only; omega, by exact sB, by exact sB, ?_⟩
         dsimp only
         rw [hbs, List.map_append]
         exact mS)
      | trace_state
  · have e : i = ps.length := by omega
    subst e
    rw [List.take_length]
    have hbl := beginsI_len lo ps
    have hs1 := fun (R : List Blk) => sortInts_in (beginsI lo ps) A c (by omega) R w
    have hsl : (sortI (beginsI lo ps)).length = 1 + 2 * ps.length := by rw [(sortI_perm _).length_eq, hbl]
    have hs2 := fun (R : List Blk) => CompactI_in (sortI (beginsI lo ps)) A c (by omega) R w
    rw [hbl] at hs1
    rw [hsl] at hs2
    have hcl := cmpN_len (sortI (beginsI lo ps))
    rw [hsl] at hcl
    have hcut : cutsI lo hi ps = (cmpN (sortI (beginsI lo ps))).filter (inBd lo hi) := rfl
    have hbd : ∀ x ∈ cmpN (sortI (beginsI lo ps)), 0 ≤ x ∧ x ≤ 100001 := fun x hx => by
      rw [mem_cmpN, (sortI_perm _).mem_iff, beginsI, List.mem_cons, List.mem_flatMap] at hx
      rcases hx with rfl | ⟨p, hp, hx⟩
      · omega
      · have := hps p hp
        simp at hx
        omega
    unfold bandsF
    rw [hcut]
    generalize cmpN (sortI (beginsI lo ps)) = C at hs2 hcl hbd
    refine w_nilrow 317 2 ?_
    repeat' (first | ((with_reducible apply wl_callin (f := 106)); exact rfl; exact rfl; exact FnIn.msub (hs1 _) (MSub.pick pK (MSub.refl _)); rintro _ _ ⟨rfl, rfl⟩) | ((with_reducible apply wl_callin (f := 137)); exact rfl; exact rfl; exact FnIn.msub (hs2 _) (MSub.pick pK (MSub.refl _)); rintro _ _ ⟨rfl, rfl⟩) | refine sT ?_ | refine sS ?_ | refine sT2 ?_ | refine sN ?_ | refine sM fun _ => ?_ | (refine sC ?_ ?_ <;> intro hb <;> try omega) | fail)
    all_goals first | (exfalso; omega) | skip
    refine w_loopK [0, 1, 33, 34] rfl (fun y : Nat × Option Nat × Nat => [(10, sl y.2.1 (pairsI ((C.take y.1).filter (inBd lo hi)) hi).length y.2.2), (35, .int .i64 (y.1 : Int))]) (fun y => [.own y.2.1 317 2 (pairsI ((C.take y.1).filter (inBd lo hi)) hi).length y.2.2 ((pairsI ((C.take y.1).filter (inBd lo hi)) hi).flatMap encBd), .own A 3 1 C.length c (C.map vInt)]) (fun y => y.1 ≤ C.length) (fun y => C.length - y.1) (0, none, 0) (Nat.zero_le _) sB mS ?_
    rintro ⟨k, A2, c2⟩ hk
    dsimp only at hk ⊢
    by_cases hlk : k < C.length
    · refine w_some (A := A) pK (by omega) fun gc hA => ?_
      subst hA
      have hrd : (C.map vInt)[0 + k * 1]? = some (.int .i64 C[k]) := refI hlk
      have hxb := hbd _ (List.getElem_mem hlk)
      have hfs : (C.take (k + 1)).filter (inBd lo hi) = if inBd lo hi C[k] = true then (C.take k).filter (inBd lo hi) ++ [C[k]] else (C.take k).filter (inBd lo hi) := by
        rw [List.take_succ_eq_append_getElem hlk, List.filter_append]
        cases h : inBd lo hi C[k] <;> simp [h]
      have hfl : ((C.take k).filter (inBd lo hi)).length ≤ 300000 := Nat.le_trans (List.length_filter_le _ _) (by rw [List.length_take]; omega)
      generalize hx : C[k] = x at hrd hxb hfs
      generalize hF : (C.take k).filter (inBd lo hi) = Fk at hfs hfl
      have hpl := pairsI_len hi Fk
      by_cases hin : lo ≤ x ∧ x ≤ hi
      · have hin2 : inBd lo hi x = true := by simp [inBd, hin.1, hin.2]
        rw [if_pos hin2] at hfs
        have hsn := pairsI_snoc x hi Fk
        rw [← hfs] at hsn
        have hpl2 := pairsI_len (x - 1) Fk
        by_cases h0 : Fk = []
        · subst h0
          rw [show pairsI [] (x - 1) = [] from rfl, List.nil_append] at hsn
          repeat' (first | ((with_reducible apply wl_v (d := 37)); exact rfl; (with_reducible apply v_indexAddr (j := k)); exact rfl; exact rfl; exact hlk) | ((with_reducible apply wl_v (d := 38)); exact rfl; (with_reducible apply v_load_own); exact rfl; exact pK; exact hrd) | ((with_reducible apply wl_v); exact rfl; (with_reducible apply v_buildAr); (iterate 5 exact rfl)) | ((with_reducible apply wl_append (A := A2) (m := 1)); (iterate 3 exact rfl); exact pK; (intro w hm; exact hm.cells_own pK); exact rfl; (simp [Value.oneCell', sl]); omega; (simp only [maxLen]; omega); (intro A' cap' hA')) | refine sT ?_ | refine sS ?_ | refine sT2 ?_ | refine sN ?_ | refine sJ ?_ | refine sO ?_ | refine sM fun _ => ?_ | (refine sC ?_ ?_ <;> intro hb <;> try omega) | fail)
          all_goals first
            | (exfalso; omega)
            | (refine ⟨(k + 1, A', cap'), hlk, by dsimp only; omega, ?_, by exact sB, ?_⟩
               · dsimp only; rw [hsn]; exact sB
               · dsimp only; rw [hsn]; exact mS)
            | trace_state
        · have hpos : 0 < Fk.length := List.length_pos_iff.2 h0
          have hset := pairs_set (h := hi) (x := x) h0
          rw [hpl] at hset
          refine w_some (A := A2) pK (by omega) fun g2 hA => ?_
          subst hA
          rw [hpl]
          repeat' (first | ((with_reducible apply wl_v (d := 37)); exact rfl; (with_reducible apply v_indexAddr (j := k)); exact rfl; exact rfl; exact hlk) | ((with_reducible apply wl_v (d := 38)); exact rfl; (with_reducible apply v_load_own); exact rfl; exact pK; exact hrd) | ((with_reducible apply wl_v (d := 53)); exact rfl; (with_reducible apply v_predN (a := Fk.length)); exact rfl; exact rfl; omega; (simp only [maxLen]; omega)) | ((with_reducible apply wl_v (d := 56)); exact rfl; (with_reducible apply v_indexAddr (j := Fk.length - 1)); exact rfl; exact rfl; omega) | ((with_reducible apply wl_store_own (v := vInt (x - 1)) (off := 0 + (Fk.length - 1) * 2 + 1)); exact rfl; exact rfl; exact pK; exact rfl; (rw [flat_length' encBd_len, hpl]; omega); rw [hset]) | ((with_reducible apply wl_v); exact rfl; (with_reducible apply v_buildAr); (iterate 5 exact rfl)) | ((with_reducible apply wl_append (A := some g2) (m := 1)); (iterate 3 exact rfl); exact pK; (intro w hm; exact hm.cells_own pK); exact rfl; (simp [Value.oneCell', sl]); omega; (simp only [maxLen]; omega); (intro A' cap' hA')) | refine sT ?_ | refine sS ?_ | refine sT2 ?_ | refine sN ?_ | refine sJ ?_ | refine sO ?_ | refine sM fun _ => ?_ | (refine sC ?_ ?_ <;> intro hb <;> try omega) | fail)
          all_goals first
            | (exfalso; omega)
            | (refine ⟨(k + 1, A', cap'), hlk, by dsimp only; omega, ?_, by exact sB, ?_⟩
               · dsimp only; rw [hsn, List.length_append, hpl2]; exact sB
               · dsimp only; rw [hsn, List.length_append, hpl2, List.flatMap_append]; exact mS)
            | trace_state
      · have hin2 : ¬ inBd lo hi x = true := by simp only [inBd, Bool.and_eq_true, decide_eq_true_eq]; exact hin
        rw [if_neg hin2] at hfs
        repeat' (first | ((with_reducible apply wl_v (d := 37)); exact rfl; (with_reducible apply v_indexAddr (j := k)); exact rfl; exact rfl; exact hlk) | ((with_reducible apply wl_v (d := 38)); exact rfl; (with_reducible apply v_load_own); exact rfl; exact pK; exact hrd) | refine sT ?_ | refine sS ?_ | refine sT2 ?_ | refine sN ?_ | refine sJ ?_ | refine sO ?_ | refine sM fun _ => ?_ | (refine sC ?_ ?_ <;> intro hb <;> try omega) | fail)
        all_goals first
          | (exfalso; omega)
          | (refine ⟨(k + 1, A2, c2), hlk, by dsimp only; omega, ?_, by exact sB, ?_⟩
             · dsimp only; rw [hfs]; exact sB
             · dsimp only; rw [hfs]; exact mS)
          | trace_state
    · have e : k = C.length := by omega
      subst e
      rw [List.take_length]
      repeat' (first | refine sT ?_ | refine sS ?_ | refine sT2 ?_ | refine sM fun _ => ?_ | (refine sC ?_ ?_ <;> intro hb <;> try omega) | fail)
      all_goals first
        | (exfalso; omega)
        | (exact ret1 eIO rfl rfl mS ⟨A2, c2, rfl, rfl⟩)
        | trace_state
end Go.SL
namespace Go.SL
open Go Go.Proofs
def encII (p:Nat × Nat):List Value:= [.int .i64 (p.1:Int),.int .i64 (p.2:Int)]
theorem run_eqII (w:World) (d:Nat) (a b:Nat × Nat):(Op.equalIn (d+5) 317 (.agg (encII a).toArray) (.agg (encII b).toArray)).run Tryz.prog w= .ok (decide (a=b)) w:=by
 obtain ⟨i,h1,h2⟩:=(inferInstance:Size Tryz.prog 3 1).out
 have hc:Tryz.prog.cellsOf 3=1:=by kernel_rfl
 rw [run_equalIn_array w (d+4) (encII a).toArray (encII b).toArray Tryz.underlying317 h1,hc,show List.range 2= [0,1] from rfl]
 have hr: ∀ (a b:Int) w,(Op.equalIn (d+4) 3 (.int .i64 a) (.int .i64 b)).run Tryz.prog w= .ok (a==b) w:=fun a b w=>run_equalIn_int w (d+3) 3 .i64 .i64 a b Tryz.underlying3
 have hpa: ∀ (c:Nat × Nat) w,(part 3 (encII c).toArray 0).run Tryz.prog w= .ok (.int .i64 (c.1:Int)) w:=by
  intro c w
  simp [part,go_sem,encII]
 have hpb: ∀ (c:Nat × Nat) w,(part 3 (encII c).toArray 1).run Tryz.prog w= .ok (.int .i64 (c.2:Int)) w:=by
  intro c w
  simp [part,go_sem,encII]
 have he:decide (a=b)=((a.1:Int)==b.1 && (a.2:Int)==b.2):=by
  obtain ⟨a1,a2⟩:=a
  obtain ⟨b1,b2⟩:=b
  rw [Bool.eq_iff_iff]
  simp
  omega
 rw [he]
 by_cases h1:((a.1:Int)==b.1)=true<;>by_cases h2:((a.2:Int)==b.2)=true<;>simp [Op.eqItems,hpa,hpb,hr,h1,h2]
theorem v_eqlII {w0:World} {s:Slots} {H:List Blk} {ty t' :TypeId} {x y:Operand} {a b:Nat × Nat} {c:Bool} (hc:decide (a=b)=c) (hx:ev s x=some (.agg (encII a).toArray)) (hy:ev s y=some (.agg (encII b).toArray)):VOp Tryz.prog w0 s H (.binOp .eql 317 x y t') ty (.bool c):=fun ρ w _ _ _ _ hρ _=>by
 subst hc
 have h:=run_eqII w 9995 a b
 simp only [Nat.reduceAdd] at h
 simp only [execOp,hρ x _ hx,hρ y _ hy,Sem.run_bind,run_eqGuard_agg w _ _ _ _ _ _ Tryz.eqGuardType317,Result.andThen_ok,run_eql_struct,h,Sem.run_pure]
end Go.SL
namespace Go.SL
open Go Go.Proofs
attribute [local irreducible] W WL WQ WG WA WX WLI WR WT WC WE VOp RW thn blk cutP scp retP retPP endB FnAt FnIn FnP ceP
theorem meet_ok {a b:Rct} (h:(meetR a b).2=true):rectOk (meetR a b).1=true:=by
 unfold meetR at h ⊢
 split at h
 ·
  rename_i hall
  rw [if_pos hall]
  simp only [List.all_cons,List.all_nil,Bool.and_true,Bool.and_eq_true] at hall
  exact hall.2.2
 ·
  cases h
theorem colsOf_snoc (r:Rct) (L:List Rl) (x:Rl):colsOf r (L++ [x])=colsOf r L++if (meetR x.rect r).2=true then [((meetR x.rect r).1.c1,(meetR x.rect r).1.c2)] else []:=by
 unfold colsOf;simp
theorem rowsOf_snoc (r:Rct) (L:List Rl) (x:Rl):rowsOf r (L++ [x])=rowsOf r L++if (meetR x.rect r).2=true then [((meetR x.rect r).1.r1,(meetR x.rect r).1.r2)] else []:=by
 unfold rowsOf;simp
theorem colsOf_len (r:Rct): ∀ L:List Rl,(colsOf r L).length≤L.length
 | []=>Nat.le_refl _
 |x::L=>by
  have:=colsOf_len r L
  unfold colsOf at this ⊢
  rw [List.flatMap_cons,List.length_append]
  split<;>simp only [List.length_cons,List.length_nil]<;>omega
theorem rowsOf_len (r:Rct): ∀ L:List Rl,(rowsOf r L).length≤L.length
 | []=>Nat.le_refl _
 |x::L=>by
  have:=rowsOf_len r L
  unfold rowsOf at this ⊢
  rw [List.flatMap_cons,List.length_append]
  split<;>simp only [List.length_cons,List.length_nil]<;>omega
theorem colsOf_small {r:Rct} {L:List Rl}: ∀ p∈colsOf r L,0≤p.1∧p.1≤100000∧0≤p.2∧p.2≤100000:=fun p hp=>by
 obtain ⟨x,_,hx⟩:=List.mem_flatMap.1 hp
 split at hx
 ·
  rename_i h
  have:=rectOk_sides.1 (meet_ok h)
  rw [List.mem_singleton.1 hx]
  simp only;omega
 ·
  cases hx
theorem rowsOf_small {r:Rct} {L:List Rl}: ∀ p∈rowsOf r L,0≤p.1∧p.1≤100000∧0≤p.2∧p.2≤100000:=fun p hp=>by
 obtain ⟨x,_,hx⟩:=List.mem_flatMap.1 hp
 split at hx
 ·
  rename_i h
  have:=rectOk_sides.1 (meet_ok h)
  rw [List.mem_singleton.1 hx]
  simp only;omega
 ·
  cases hx
def pairB (g:Nat) (A:Option Nat) (c:Nat) (C:List (Int × Int)):List Blk:= [.box g 385 [sl A C.length c],.own A 317 2 C.length c (C.flatMap encBd)]
set_option maxHeartbeats 8000000 in
theorem note_in (r:Rct) (L:List Rl) (lv:Value) (gr gc gw:Nat) (A1 A2:Option Nat) (c1 c2:Nat) (C D:List (Int × Int)) (R:List Blk) (w0:World) (hl:Reads w0 lv L.length (L.flatMap encRl)) (hC:C.length+L.length≤100000) (hD:D.length+L.length≤100000):
  FnIn Tryz.prog 279 [lv,.pointer (some ⟨gr,0,none⟩),.pointer (some ⟨gc,0,none⟩),.pointer (some ⟨gw,0,none⟩)] w0 (.box gr 33 (encR r)::(pairB gc A1 c1 C++(pairB gw A2 c2 D++R))) fun v H=>
   v= .tuple #[]∧ ∃ A1' c1' A2' c2',H= .box gr 33 (encR r)::(pairB gc A1' c1' (C++colsOf r L)++(pairB gw A2' c2' (D++rowsOf r L)++R)):=by
 obtain ⟨Al,cl,rfl,hl1,hl2,hl3⟩:=hl
 refine fn_in Tryz.func279 rfl Tryz.ntmps279 rfl ?_
 simp only [pairB,List.append_eq,List.cons_append,List.nil_append]
 repeat' (first|refine sT ?_|refine sS ?_|refine sM fun _=> ?_|(refine sC ?_ ?_<;>intro hb<;>try omega)|fail)
 refine w_loopK [1,2,3,9,10] rfl (fun y:Nat × Option Nat × Nat × Option Nat × Nat=> [(11,.int .i64 (y.1:Int))]) (fun y=> .box gr 33 (encR r):: .box gc 385 [sl y.2.1 (C++colsOf r (L.take y.1)).length y.2.2.1]:: .own y.2.1 317 2 (C++colsOf r (L.take y.1)).length y.2.2.1 ((C++colsOf r (L.take y.1)).flatMap encBd):: .box gw 385 [sl y.2.2.2.1 (D++rowsOf r (L.take y.1)).length y.2.2.2.2]:: .own y.2.2.2.1 317 2 (D++rowsOf r (L.take y.1)).length y.2.2.2.2 ((D++rowsOf r (L.take y.1)).flatMap encBd)::R) (fun y=>y.1≤L.length) (fun y=>L.length - y.1) (0,A1,c1,A2,c2) (Nat.zero_le _) sB (by simp only [List.take_zero,colsOf,rowsOf,List.flatMap_nil,List.append_nil];exact mS) ?_
 rintro ⟨i,A1,c1,A2,c2⟩ hi
 dsimp only at hi ⊢
 by_cases hlt:i<L.length
 ·
  obtain ⟨gl,ol,rfl,hrl⟩:=hl3 (by omega)
  have he1:=hrl.elem encRl_len i hlt
  have hcs:=colsOf_snoc r (L.take i) L[i]
  have hws:=rowsOf_snoc r (L.take i) L[i]
  rw [← List.take_succ_eq_append_getElem hlt] at hcs hws
  have hcl:=colsOf_len r (L.take i)
  have hwl:=rowsOf_len r (L.take i)
  rw [List.length_take] at hcl hwl
  generalize L[i]=x at he1 hcs hws
  have hM:=fun w=>Meet_at x.rect r w
  generalize meetR x.rect r=mt at hM hcs hws
  obtain ⟨mr,mb⟩:=mt
  dsimp only at hM hcs hws
  generalize colsOf r (L.take i)=C1 at hcs hcl ⊢
  generalize rowsOf r (L.take i)=D1 at hws hwl ⊢
  have hCl:(C++C1).length≤200000:=by rw [List.length_append];omega
  have hDl:(D++D1).length≤200000:=by rw [List.length_append];omega
  have hC2:C++colsOf r (L.take (i+1))=(C++C1)++if mb=true then [(mr.c1,mr.c2)] else []:=by rw [hcs,List.append_assoc]
  have hD2:D++rowsOf r (L.take (i+1))=(D++D1)++if mb=true then [(mr.r1,mr.r2)] else []:=by rw [hws,List.append_assoc]
  generalize C++C1=C3 at hC2 hCl ⊢
  generalize D++D1=D3 at hD2 hDl ⊢
  cases mb
  ·
   rw [if_neg (by decide),List.append_nil] at hC2 hD2
   repeat' (first|((with_reducible apply wl_callp);exact rfl;exact rfl;(intro w hm;exact hM w))|refine sT ?_|refine sS ?_|refine sN ?_|refine sO ?_|refine sM fun _=> ?_|(refine sC ?_ ?_<;>intro hb<;>try omega)|fail)
   all_goals first
    |(exfalso;omega)
    |(refine ⟨(i+1,A1,c1,A2,c2),hlt,by dsimp only;omega,by exact sB,by exact sB,?_⟩;dsimp only;rw [hC2,hD2];exact mS)
    |trace_state
  ·
   rw [if_pos rfl] at hC2 hD2
   have hC4:(C3++ [(mr.c1,mr.c2)]).flatMap encBd=C3.flatMap encBd++ [.int .i64 mr.c1,.int .i64 mr.c2]:=by simp [encBd]
   have hD4:(D3++ [(mr.r1,mr.r2)]).flatMap encBd=D3.flatMap encBd++ [.int .i64 mr.r1,.int .i64 mr.r2]:=by simp [encBd]
   repeat' (first|((with_reducible apply wl_callp);exact rfl;exact rfl;(intro w hm;exact hM w))|((with_reducible apply wl_v);exact rfl;(with_reducible apply v_buildAr);(iterate 5 exact rfl))|((with_reducible apply wl_append (d:=30) (A:=A1) (m:=1));(iterate 3 exact rfl);exact pK;(intro w hm;exact hm.cells_own pK);exact rfl;(simp [Value.oneCell',sl]);omega;(simp only [maxLen];omega);(intro A3 c3 hA3))|((with_reducible apply wl_append (d:=38) (A:=A2) (m:=1));(iterate 3 exact rfl);exact pK;(intro w hm;exact hm.cells_own pK);exact rfl;(simp [Value.oneCell',sl]);omega;(simp only [maxLen];omega);(intro A4 c4 hA4))|refine sT ?_|refine sS ?_|refine sN ?_|refine sO ?_|refine sM fun _=> ?_|(refine sC ?_ ?_<;>intro hb<;>try omega)|fail)
   all_goals first
    |(exfalso;omega)
    |(refine ⟨(i+1,A3,c3,A4,c4),hlt,by dsimp only;omega,by exact sB,by exact sB,?_⟩;dsimp only;rw [hC2,hD2,hC4,hD4,List.length_append,List.length_append];exact mS)
    |trace_state
 ·
  have e:i=L.length:=by omega
  subst e
  rw [List.take_length]
  repeat' (first|refine sT ?_|refine sS ?_|refine sM fun _=> ?_|(refine sC ?_ ?_<;>intro hb<;>try omega)|fail)
  all_goals first
   |(exfalso;omega)
   |(exact ret0 eIO rfl (.refl _) ⟨rfl,A1,c1,A2,c2,rfl⟩)
   |trace_state
end Go.SL
namespace Go.SL
open Go Go.Proofs
attribute [local irreducible] W WL WQ WG WA WX WLI WR WT WC WE VOp RW thn blk cutP scp retP retPP endB FnAt FnIn FnP ceP
def cmpZ (p q:Pz):Int:=if p.rect.r1≠q.rect.r1 then p.rect.r1 - q.rect.r1 else p.rect.c1 - q.rect.c1
def smallZ (p:Pz):Prop:=0≤p.rect.r1∧p.rect.r1≤100000∧0≤p.rect.c1∧p.rect.c1≤100000
theorem cmpZ_at (p q:Pz) (hp:smallZ p) (hq:smallZ q) (w:World):Pure Tryz.prog 283 [.agg (encPz p).toArray,.agg (encPz q).toArray] w (.int .i64 (cmpZ p q)):=by
 refine fn_at Tryz.func283 rfl Tryz.ntmps283 rfl ?_
 obtain ⟨h1,h2,h3,h4⟩:=hp
 obtain ⟨h5,h6,h7,h8⟩:=hq
 repeat' (first|refine sT ?_|refine sJ ?_|refine sM fun _=> ?_|(refine sC ?_ ?_<;>intro hb<;>try omega)|fail)
 all_goals first
  |(exfalso;omega)
  |((refine rT1 ?_);rw [cmpZ,if_pos hb];done)
  |((refine rT1 ?_);rw [cmpZ,if_neg (fun h=>h hb)];done)
  |((refine rT1 ?_);rw [cmpZ,if_neg (fun h=>hb h)];done)
  |trace_state
structure InZ (L:List Pz):Prop where
 sort:L.Pairwise ltPz
 small: ∀ p∈L,smallZ p
 len:L.length≤1000000
theorem InZ.cmp {L:List Pz} (h:InZ L) {i j:Nat} (hij:i≤j) (hj:j<L.length): ∃ z:Int,0≤z∧ ∀ w,Pure Tryz.prog 283 [.agg (encPz L[j]).toArray,.agg (encPz (L[i]'(by omega))).toArray] w (.int .i64 z):=by
 refine ⟨_,?_,fun w=>cmpZ_at _ _ (h.small _ (List.getElem_mem hj)) (h.small _ (List.getElem_mem _)) w⟩
 by_cases e:i=j
 ·
  subst e;simp [cmpZ]
 ·
  have:=List.pairwise_iff_getElem.1 h.sort i j (by omega) hj (by omega)
  unfold cmpZ
  rcases this with h1|⟨h1,h2⟩
  ·
   rw [if_pos (by omega)];omega
  ·
   rw [if_neg (by omega)];omega
abbrev cmpV:Value:= .func (.func 283) #[] #[]
set_option maxHeartbeats 4000000 in
theorem insZ_at (L:List Pz) (hL:InZ L) (lv:Value) (w:World) (hl:Reads w lv L.length (L.flatMap encPz)) (a b:Nat) (hb:b≤L.length) (ha:a≤L.length):
  Pure Tryz.prog 383 [lv,.int .i64 (a:Int),.int .i64 (b:Int),cmpV] w (.tuple #[]):=by
 obtain ⟨Al,cl,rfl,hl1,hl2,hl3⟩:=hl
 refine fn_at Tryz.func383 rfl Tryz.ntmps383 rfl ?_
 have hlen:=hL.len
 repeat' (first|refine sT ?_|refine sS ?_|refine sN ?_|refine sM fun _=> ?_|(refine sC ?_ ?_<;>intro hb<;>try omega)|fail)
 refine w_loopK [0,1,2,3] rfl (fun i:Nat=> [(8,.int .i64 (i:Int))]) (fun _=> []) (fun i=>a+1≤i∧i≤max b (a+1)) (fun i=>max b (a+1) - i) (a+1) ⟨Nat.le_refl _,by omega⟩ sB mS ?_
 rintro i ⟨hi,hi2⟩
 by_cases hlt:i<b
 ·
  obtain ⟨gl,ol,rfl,hrl⟩:=hl3 (by omega)
  obtain ⟨z,hz,hc⟩:=hL.cmp (i:=i - 1) (j:=i) (by omega) (by omega)
  have h1:=hrl.elem encPz_len i (by omega)
  have h2:=hrl.elem encPz_len (i - 1) (by omega)
  generalize L[i]'(by omega)=p at h1 hc
  generalize L[i - 1]'(by omega)=q at h2 hc
  repeat' (first|refine sT ?_|refine sS ?_|refine sN ?_|refine sM fun _=> ?_|(refine sC ?_ ?_<;>intro hb<;>try omega)|fail)
  all_goals first|(exfalso;omega)|skip
  refine w_loopK [0,1,2,3,8] rfl (fun _:Unit=> [(9,.int .i64 (i:Int))]) (fun _=> []) (fun _=>True) (fun _=>0) () trivial sB mS ?_
  rintro _ _
  repeat' (first|((with_reducible apply w_draw (id:=4));kernel_rfl;kernel_rfl)|((with_reducible apply wq_v (d:=25));exact rfl;(with_reducible apply v_indexAddr (j:=i));exact rfl;exact rfl;omega)|((with_reducible apply wq_v (d:=30));exact rfl;(with_reducible apply v_indexAddr (j:=i - 1));exact rfl;exact rfl;omega)|((with_reducible apply wq_v (d:=26));exact rfl;(with_reducible apply v_loadw_ro (xs:=encPz p));exact rfl;exact h1;exact rfl)|((with_reducible apply wq_v (d:=31));exact rfl;(with_reducible apply v_loadw_ro (xs:=encPz q));exact rfl;exact h2;exact rfl)|((with_reducible apply wq_callvp);exact rfl;exact rfl;infer_instance;exact rfl;(intro w' _;exact hc w'))|refine sT ?_|refine sS ?_|refine sQ ?_|refine sN ?_|refine sNQ ?_|refine sO ?_|refine sOQ ?_|refine sD ?_|refine sM fun _=> ?_|(refine sC ?_ ?_<;>intro hb<;>try omega)|(refine sCQ ?_ ?_<;>intro hb<;>try omega)|fail)
  all_goals first
   |(exfalso;omega)
   |(refine ⟨i+1,⟨by omega,by omega⟩,by omega,by exact sB,by exact sB,by exact mS⟩;done)
   |trace_state
 ·
  repeat' (first|refine sT ?_|refine sS ?_|refine sM fun _=> ?_|(refine sC ?_ ?_<;>intro hb<;>try omega)|fail)
  all_goals first
   |(exfalso;omega)
   |(exact ret0 eIO rfl (MSub.nil _) rfl)
   |trace_state
section
variable {P:Program} {n:Fr} {w0:World} {Q:Post} {s:Slots} {H:List Blk} {l rest:List Oper} {ty:TypeId} {p:String} {af:Array Edge}
theorem v_toU {x:Operand} {a:Nat} {t t' :TypeId} {d:TypeDesc} [hs:Und P t d] [hd:Und P t' (.int .u64)] (hx:ev s x=some (.int .i64 (a:Nat))) (h:a≤maxLen):VOp P w0 s H (.convert t t' x) ty (.int .u64 (a:Nat)):=
 v_conv_to (k:= .i64) hx (by rw [IntKind.wrap_u64];simp only [maxLen] at h;omega)
theorem v_toI {x:Operand} {a:Nat} {t t' :TypeId} {d:TypeDesc} [hs:Und P t d] [hd:Und P t' (.int .i64)] (hx:ev s x=some (.int .u64 (a:Nat))) (h:a≤maxLen):VOp P w0 s H (.convert t t' x) ty (.int .i64 (a:Nat)):=
 v_conv_to (k:= .u64) hx (I64.wrap ⟨by omega,by simp only [maxLen] at h;omega⟩)
theorem v_half {x y:Operand} {a:Nat} {t t' :TypeId} (hx:ev s x=some (.int .u64 (a:Nat))) (hy:ev s y=some (.int .u64 1)):VOp P w0 s H (.binOp .shr t x y t') ty (.int .u64 ((a / 2:Nat):Int)):=by
 have h:=v_shr (P:=P) (w0:=w0) (H:=H) (ty:=ty) (t:=t) (t' :=t') (m:=1) hx hy rfl
 have e:((a:Int) / 2 ^ 1)=((a / 2:Nat):Int):=by omega
 rwa [e] at h
theorem v_mulN {x y:Operand} {a b:Nat} {t t' :TypeId} (hx:ev s x=some (.int .i64 (a:Nat))) (hy:ev s y=some (.int .i64 (b:Nat))) (ha:a*b≤maxLen):VOp P w0 s H (.binOp .mul t x y t') ty (.int .i64 ((a*b:Nat):Int)):=by
 rw [Int.natCast_mul]
 have e:((a:Int)*b)=((a*b:Nat):Int):=(Int.natCast_mul a b).symm
 exact v_mul hx hy ⟨by rw [e];omega,by rw [e];simp only [maxLen] at ha;omega⟩
end
set_option maxHeartbeats 16000000 in
theorem symZ_at (L:List Pz) (hL:InZ L) (lv:Value) (w:World) (hl:Reads w lv L.length (L.flatMap encPz)): ∀ (k a m b:Nat),b - a≤k→a<m→m<b→b≤L.length→ ∀ w',(∃ H',Mem w w' H')→
  Pure Tryz.prog 384 [lv,.int .i64 (a:Int),.int .i64 (m:Int),.int .i64 (b:Int),cmpV] w' (.tuple #[])
 |0,a,m,b,hk,h1,h2,_=>by omega
 |k+1,a,m,b,hk,h1,h2,h3=>by
  intro w' ⟨H',hm'⟩
  have hl' :=hl.of_w0 hm'
  have IH:=fun (a m b:Nat) (g1:b - a≤k) (g2:a<m) (g3:m<b) (g4:b≤L.length) (w2:World) (H2:List Blk) (hm2:Mem w' w2 H2)=>symZ_at L hL lv w' hl' k a m b g1 g2 g3 g4 w2 ⟨H2,hm2⟩
  have hl0:=hl'
  obtain ⟨Al,cl,rfl,hl1,hl2,hl3⟩:=hl'
  refine fn_at Tryz.func384 rfl Tryz.ntmps384 rfl ?_
  have hlen:=hL.len
  obtain ⟨gl,ol,rfl,hrl⟩:=hl3 (by omega)
  by_cases c1:m - a=1
  ·
   repeat' (first|refine sT ?_|refine sS ?_|refine sN ?_|refine sM fun _=> ?_|(refine sC ?_ ?_<;>intro hb<;>try omega)|fail)
   all_goals first|(exfalso;omega)|skip
   refine w_loopK [0,1,2,3,4,10] rfl (fun j:Nat=> [(11,.int .i64 (j:Int))]) (fun _=> []) (fun j=>m≤j∧j≤b) (fun j=>j - m) b ⟨by omega,by omega⟩ sB mS ?_
   rintro j ⟨hj1,hj2⟩
   by_cases hlt:m<j
   ·
    obtain ⟨z,hz,hc⟩:=hL.cmp (i:=a) (j:=(m+j) / 2) (by omega) (by omega)
    have r1:=hrl.elem encPz_len ((m+j) / 2) (by omega)
    have r2:=hrl.elem encPz_len a (by omega)
    generalize L[(m+j) / 2]'(by omega)=p at r1 hc
    generalize L[a]'(by omega)=q at r2 hc
    repeat' (first|((with_reducible apply wl_v);exact rfl;(with_reducible apply v_toU (a:=m+j));exact rfl;(simp only [maxLen];omega))|((with_reducible apply wl_v);exact rfl;(with_reducible apply v_half (a:=m+j));exact rfl;exact rfl)|((with_reducible apply wl_v);exact rfl;(with_reducible apply v_toI (a:=(m+j) / 2));exact rfl;(simp only [maxLen];omega))|((with_reducible apply w_draw (id:=5));kernel_rfl;kernel_rfl)|((with_reducible apply wq_v (d:=43));exact rfl;(with_reducible apply v_indexAddr (j:=(m+j) / 2));exact rfl;exact rfl;omega)|((with_reducible apply wq_v (d:=47));exact rfl;(with_reducible apply v_indexAddr (j:=a));exact rfl;exact rfl;omega)|((with_reducible apply wq_v (d:=44));exact rfl;(with_reducible apply v_loadw_ro (xs:=encPz p));exact rfl;exact r1;exact rfl)|((with_reducible apply wq_v (d:=48));exact rfl;(with_reducible apply v_loadw_ro (xs:=encPz q));exact rfl;exact r2;exact rfl)|((with_reducible apply wq_callvp);exact rfl;exact rfl;infer_instance;exact rfl;(intro w' _;exact hc w'))|refine sT ?_|refine sS ?_|refine sQ ?_|refine sN ?_|refine sNQ ?_|refine sD ?_|refine sM fun _=> ?_|(refine sC ?_ ?_<;>intro hb<;>try omega)|(refine sCQ ?_ ?_<;>intro hb<;>try omega)|fail)
    all_goals first
     |(exfalso;omega)
     |(refine ⟨(m+j) / 2,⟨by omega,by omega⟩,by omega,by exact sB,by exact sB,by exact mS⟩;done)
     |trace_state
   ·
    have e:j=m:=by omega
    subst e
    repeat' (first|refine sT ?_|refine sS ?_|refine sN ?_|refine sM fun _=> ?_|(refine sC ?_ ?_<;>intro hb<;>try omega)|fail)
    all_goals first|(exfalso;omega)|skip
    refine w_loopK [0,1,2,3,4,10] rfl (fun _:Unit=> [(13,.int .i64 (a:Int))]) (fun _=> []) (fun _=>True) (fun _=>0) () trivial sB mS ?_
    rintro _ _
    repeat' (first|refine sT ?_|refine sS ?_|refine sN ?_|refine sM fun _=> ?_|(refine sC ?_ ?_<;>intro hb<;>try omega)|fail)
    all_goals first
     |(exfalso;omega)
     |(exact ret0 eIO rfl (MSub.nil _) rfl)
     |trace_state
  by_cases c2:b - m=1
  ·
   repeat' (first|refine sT ?_|refine sS ?_|refine sN ?_|refine sM fun _=> ?_|(refine sC ?_ ?_<;>intro hb<;>try omega)|fail)
   all_goals first|(exfalso;omega)|skip
   refine w_loopK [0,1,2,3,4,15] rfl (fun i:Nat=> [(14,.int .i64 (i:Int))]) (fun _=> []) (fun i=>a≤i∧i≤m) (fun i=>m - i) a ⟨by omega,by omega⟩ sB mS ?_
   rintro i ⟨hi1,hi2⟩
   by_cases hlt:i<m
   ·
    obtain ⟨z,hz,hc⟩:=hL.cmp (i:=(i+m) / 2) (j:=m) (by omega) (by omega)
    have r1:=hrl.elem encPz_len m (by omega)
    have r2:=hrl.elem encPz_len ((i+m) / 2) (by omega)
    generalize L[m]'(by omega)=p at r1 hc
    generalize L[(i+m) / 2]'(by omega)=q at r2 hc
    repeat' (first|((with_reducible apply wl_v);exact rfl;(with_reducible apply v_toU (a:=i+m));exact rfl;(simp only [maxLen];omega))|((with_reducible apply wl_v);exact rfl;(with_reducible apply v_half (a:=i+m));exact rfl;exact rfl)|((with_reducible apply wl_v);exact rfl;(with_reducible apply v_toI (a:=(i+m) / 2));exact rfl;(simp only [maxLen];omega))|((with_reducible apply w_draw (id:=17));kernel_rfl;kernel_rfl)|((with_reducible apply wq_v (d:=95));exact rfl;(with_reducible apply v_indexAddr (j:=m));exact rfl;exact rfl;omega)|((with_reducible apply wq_v (d:=99));exact rfl;(with_reducible apply v_indexAddr (j:=(i+m) / 2));exact rfl;exact rfl;omega)|((with_reducible apply wq_v (d:=96));exact rfl;(with_reducible apply v_loadw_ro (xs:=encPz p));exact rfl;exact r1;exact rfl)|((with_reducible apply wq_v (d:=100));exact rfl;(with_reducible apply v_loadw_ro (xs:=encPz q));exact rfl;exact r2;exact rfl)|((with_reducible apply wq_callvp);exact rfl;exact rfl;infer_instance;exact rfl;(intro w' _;exact hc w'))|refine sT ?_|refine sS ?_|refine sQ ?_|refine sN ?_|refine sNQ ?_|refine sD ?_|refine sM fun _=> ?_|(refine sC ?_ ?_<;>intro hb<;>try omega)|(refine sCQ ?_ ?_<;>intro hb<;>try omega)|fail)
    all_goals first
     |(exfalso;simp at hb;omega)
     |(exfalso;omega)
     |(refine ⟨(i+m) / 2+1,⟨by omega,by omega⟩,by omega,by exact sB,by exact sB,by exact mS⟩;done)
     |trace_state
   ·
    have e:i=m:=by omega
    subst e
    repeat' (first|refine sT ?_|refine sS ?_|refine sN ?_|refine sM fun _=> ?_|(refine sC ?_ ?_<;>intro hb<;>try omega)|fail)
    all_goals first|(exfalso;omega)|skip
    refine w_loopK [0,1,2,3,4,14] rfl (fun _:Unit=> [(17,.int .i64 (i:Int))]) (fun _=> []) (fun _=>True) (fun _=>0) () trivial sB mS ?_
    rintro _ _
    repeat' (first|refine sT ?_|refine sS ?_|refine sN ?_|refine sM fun _=> ?_|(refine sC ?_ ?_<;>intro hb<;>try omega)|fail)
    all_goals first
     |(exfalso;omega)
     |(exact ret0 eIO rfl (MSub.nil _) rfl)
     |trace_state
  obtain ⟨d,hd⟩: ∃ d,d=(a+b) / 2:=⟨_,rfl⟩
  by_cases c3:d<m
  ·
   repeat' (first|((with_reducible apply wl_v (d:=132));exact rfl;(with_reducible apply v_toU (a:=a+b));exact rfl;(simp only [maxLen];omega))|((with_reducible apply wl_v (d:=133));exact rfl;(with_reducible apply v_half (a:=a+b));exact rfl;exact rfl)|((with_reducible apply wl_v (d:=134));exact rfl;(rw [← hd];(with_reducible apply v_toI (a:=d)));exact rfl;(simp only [maxLen];omega))|refine sT ?_|refine sS ?_|refine sN ?_|refine sM fun _=> ?_|(refine sC ?_ ?_<;>intro hb<;>try omega)|fail)
   all_goals first|(exfalso;omega)|skip
   refine w_loopK [0,1,2,3,4,18,19,21,22] rfl (fun st:Nat=> [(20,.int .i64 (st:Int))]) (fun _=> []) (fun st=>d+m - b≤st∧st≤d) (fun st=>d - st) (d+m - b) ⟨by omega,by omega⟩ sB mS ?_
   rintro st ⟨hs1,hs2⟩
   by_cases hlt:st<d
   ·
    obtain ⟨z,hz,hc⟩:=hL.cmp (i:=(st+d) / 2) (j:=d+m - 1 - (st+d) / 2) (by omega) (by omega)
    have r1:=hrl.elem encPz_len (d+m - 1 - (st+d) / 2) (by omega)
    have r2:=hrl.elem encPz_len ((st+d) / 2) (by omega)
    generalize L[d+m - 1 - (st+d) / 2]'(by omega)=p at r1 hc
    generalize L[(st+d) / 2]'(by omega)=q at r2 hc
    repeat' (first|((with_reducible apply wl_v);exact rfl;(with_reducible apply v_toU (a:=st+d));exact rfl;(simp only [maxLen];omega))|((with_reducible apply wl_v);exact rfl;(with_reducible apply v_half (a:=st+d));exact rfl;exact rfl)|((with_reducible apply wl_v);exact rfl;(with_reducible apply v_toI (a:=(st+d) / 2));exact rfl;(simp only [maxLen];omega))|((with_reducible apply w_draw (id:=35));kernel_rfl;kernel_rfl)|((with_reducible apply wq_v (d:=163));exact rfl;(with_reducible apply v_indexAddr (j:=d+m - 1 - (st+d) / 2));exact rfl;exact rfl;omega)|((with_reducible apply wq_v (d:=167));exact rfl;(with_reducible apply v_indexAddr (j:=(st+d) / 2));exact rfl;exact rfl;omega)|((with_reducible apply wq_v (d:=164));exact rfl;(with_reducible apply v_loadw_ro (xs:=encPz p));exact rfl;exact r1;exact rfl)|((with_reducible apply wq_v (d:=168));exact rfl;(with_reducible apply v_loadw_ro (xs:=encPz q));exact rfl;exact r2;exact rfl)|((with_reducible apply wq_callvp);exact rfl;exact rfl;infer_instance;exact rfl;(intro w' _;exact hc w'))|refine sT ?_|refine sS ?_|refine sQ ?_|refine sN ?_|refine sNQ ?_|refine sD ?_|refine sM fun _=> ?_|(refine sC ?_ ?_<;>intro hb<;>try omega)|(refine sCQ ?_ ?_<;>intro hb<;>try omega)|fail)
    all_goals first
     |(exfalso;simp at hb;omega)
     |(exfalso;omega)
     |(refine ⟨(st+d) / 2+1,⟨by omega,by omega⟩,by omega,by exact sB,by exact sB,by exact mS⟩;done)
     |trace_state
   ·
    have e:st=d:=by omega
    subst e
    repeat' (first|((with_reducible apply wl_v (d:=177));exact rfl;(with_reducible apply v_subN (a:=st+m) (b:=st));exact rfl;exact rfl;omega;(simp only [maxLen];omega))|((with_reducible apply wl_callp (f:=384));exact rfl;exact rfl;(intro w2 hm2;(first|exact IH st (st+m - st) b (by omega) (by omega) (by omega) h3 w2 _ hm2)))|refine sT ?_|refine sS ?_|refine sN ?_|refine sM fun _=> ?_|(refine sC ?_ ?_<;>intro hb<;>try omega)|fail)
    all_goals first
     |(exfalso;omega)
     |(exact ret0 eIO rfl (MSub.nil _) rfl)
     |trace_state
  ·
   repeat' (first|((with_reducible apply wl_v (d:=132));exact rfl;(with_reducible apply v_toU (a:=a+b));exact rfl;(simp only [maxLen];omega))|((with_reducible apply wl_v (d:=133));exact rfl;(with_reducible apply v_half (a:=a+b));exact rfl;exact rfl)|((with_reducible apply wl_v (d:=134));exact rfl;(rw [← hd];(with_reducible apply v_toI (a:=d)));exact rfl;(simp only [maxLen];omega))|refine sT ?_|refine sS ?_|refine sN ?_|refine sM fun _=> ?_|(refine sC ?_ ?_<;>intro hb<;>try omega)|fail)
   all_goals first|(exfalso;omega)|skip
   refine w_loopK [0,1,2,3,4,18,19,21,22] rfl (fun st:Nat=> [(20,.int .i64 (st:Int))]) (fun _=> []) (fun st=>a≤st∧st≤m) (fun st=>m - st) a ⟨by omega,by omega⟩ sB mS ?_
   rintro st ⟨hs1,hs2⟩
   by_cases hlt:st<m
   ·
    obtain ⟨z,hz,hc⟩:=hL.cmp (i:=(st+m) / 2) (j:=d+m - 1 - (st+m) / 2) (by omega) (by omega)
    have r1:=hrl.elem encPz_len (d+m - 1 - (st+m) / 2) (by omega)
    have r2:=hrl.elem encPz_len ((st+m) / 2) (by omega)
    generalize L[d+m - 1 - (st+m) / 2]'(by omega)=p at r1 hc
    generalize L[(st+m) / 2]'(by omega)=q at r2 hc
    repeat' (first|((with_reducible apply wl_v);exact rfl;(with_reducible apply v_toU (a:=st+m));exact rfl;(simp only [maxLen];omega))|((with_reducible apply wl_v);exact rfl;(with_reducible apply v_half (a:=st+m));exact rfl;exact rfl)|((with_reducible apply wl_v);exact rfl;(with_reducible apply v_toI (a:=(st+m) / 2));exact rfl;(simp only [maxLen];omega))|((with_reducible apply w_draw (id:=35));kernel_rfl;kernel_rfl)|((with_reducible apply wq_v (d:=163));exact rfl;(with_reducible apply v_indexAddr (j:=d+m - 1 - (st+m) / 2));exact rfl;exact rfl;omega)|((with_reducible apply wq_v (d:=167));exact rfl;(with_reducible apply v_indexAddr (j:=(st+m) / 2));exact rfl;exact rfl;omega)|((with_reducible apply wq_v (d:=164));exact rfl;(with_reducible apply v_loadw_ro (xs:=encPz p));exact rfl;exact r1;exact rfl)|((with_reducible apply wq_v (d:=168));exact rfl;(with_reducible apply v_loadw_ro (xs:=encPz q));exact rfl;exact r2;exact rfl)|((with_reducible apply wq_callvp);exact rfl;exact rfl;infer_instance;exact rfl;(intro w' _;exact hc w'))|refine sT ?_|refine sS ?_|refine sQ ?_|refine sN ?_|refine sNQ ?_|refine sD ?_|refine sM fun _=> ?_|(refine sC ?_ ?_<;>intro hb<;>try omega)|(refine sCQ ?_ ?_<;>intro hb<;>try omega)|fail)
    all_goals first
     |(exfalso;simp at hb;omega)
     |(exfalso;omega)
     |(refine ⟨(st+m) / 2+1,⟨by omega,by omega⟩,by omega,by exact sB,by exact sB,by exact mS⟩;done)
     |trace_state
   ·
    have e:st=m:=by omega
    subst e
    by_cases c4:st<d
    ·
     repeat' (first|((with_reducible apply wl_v (d:=177));exact rfl;(with_reducible apply v_subN (a:=d+st) (b:=st));exact rfl;exact rfl;omega;(simp only [maxLen];omega))|((with_reducible apply wl_callp (f:=384));exact rfl;exact rfl;(intro w2 hm2;exact IH a st d (by omega) (by omega) (by omega) (by omega) w2 _ hm2))|refine sT ?_|refine sS ?_|refine sN ?_|refine sM fun _=> ?_|(refine sC ?_ ?_<;>intro hb<;>try omega)|fail)
     all_goals first
      |(exfalso;omega)
      |(exact ret0 eIO rfl (MSub.nil _) rfl)
      |trace_state
    ·
     repeat' (first|((with_reducible apply wl_v (d:=177));exact rfl;(with_reducible apply v_subN (a:=d+st) (b:=st));exact rfl;exact rfl;omega;(simp only [maxLen];omega))|refine sT ?_|refine sS ?_|refine sN ?_|refine sM fun _=> ?_|(refine sC ?_ ?_<;>intro hb<;>try omega)|fail)
     all_goals first
      |(exfalso;omega)
      |(exact ret0 eIO rfl (MSub.nil _) rfl)
      |trace_state
set_option maxHeartbeats 16000000 in
theorem stableZ_at (L:List Pz) (hL:InZ L) (lv:Value) (w:World) (hl:Reads w lv L.length (L.flatMap encPz)):
  Pure Tryz.prog 336 [lv,.int .i64 (L.length:Int),cmpV] w (.tuple #[]):=by
 have hI:=fun (a b:Nat) (h1:b≤L.length) (h2:a≤L.length) (w2:World) (H2:List Blk) (hm:Mem w w2 H2)=>insZ_at L hL lv w2 (hl.of_w0 hm) a b h1 h2
 have hM:=fun (a m b:Nat) (h1:a<m) (h2:m<b) (h3:b≤L.length) (w2:World) (H2:List Blk) (hm:Mem w w2 H2)=>symZ_at L hL lv w hl (b - a) a m b (Nat.le_refl _) h1 h2 h3 w2 ⟨H2,hm⟩
 obtain ⟨Al,cl,rfl,hl1,hl2,hl3⟩:=hl
 refine fn_at Tryz.func336 rfl Tryz.ntmps336 rfl ?_
 have hlen:=hL.len
 repeat' (first|refine sT ?_|refine sS ?_|refine sN ?_|refine sM fun _=> ?_|(refine sC ?_ ?_<;>intro hb<;>try omega)|fail)
 refine w_loopK [0,1,2,6] rfl (fun a:Nat=> [(7,.int .i64 (a:Int)),(8,.int .i64 ((a+20:Nat):Int))]) (fun _=> []) (fun a=>a≤L.length) (fun a=>L.length - a) 0 (Nat.zero_le _) sB mS ?_
 rintro a ha
 by_cases hlt:a+20≤L.length
 ·
  repeat' (first|((with_reducible apply wl_callp (f:=383));exact rfl;exact rfl;(intro w2 hm2;exact hI a (a+20) hlt (by omega) w2 _ hm2))|((with_reducible apply wl_v (d:=22));exact rfl;(with_reducible apply v_addN (a:=a+20) (b:=20));exact rfl;exact rfl;(simp only [maxLen];omega))|refine sT ?_|refine sS ?_|refine sN ?_|refine sM fun _=> ?_|(refine sC ?_ ?_<;>intro hb<;>try omega)|fail)
  all_goals first
   |(exfalso;omega)
   |(refine ⟨a+20,hlt,by omega,by exact sB,by exact sB,by exact mS⟩;done)
   |trace_state
 ·
  repeat' (first|((with_reducible apply wl_callp (f:=383));exact rfl;exact rfl;(intro w2 hm2;exact hI a L.length (Nat.le_refl _) ha w2 _ hm2))|refine sT ?_|refine sS ?_|refine sN ?_|refine sM fun _=> ?_|(refine sC ?_ ?_<;>intro hb<;>try omega)|fail)
  all_goals first|(exfalso;omega)|skip
  refine w_loopK [0,1,2] rfl (fun s:Nat=> [(6,.int .i64 (s:Int))]) (fun _=> []) (fun s=>20≤s∧s≤2*L.length+20) (fun s=>2*L.length+20 - s) 20 ⟨by omega,by omega⟩ sB mS ?_
  rintro s ⟨hs1,hs2⟩
  by_cases hsl:s<L.length
  ·
   repeat' (first|((with_reducible apply wl_v (d:=32));exact rfl;(with_reducible apply v_mulN (a:=2) (b:=s));exact rfl;exact rfl;(simp only [maxLen];omega))|refine sT ?_|refine sS ?_|refine sN ?_|refine sM fun _=> ?_|(refine sC ?_ ?_<;>intro hb<;>try omega)|fail)
   all_goals first|(exfalso;omega)|skip
   refine w_loopK [0,1,2,6] rfl (fun a:Nat=> [(7,.int .i64 (a:Int)),(8,.int .i64 ((a+2*s:Nat):Int))]) (fun _=> []) (fun a=>a≤L.length) (fun a=>L.length - a) 0 (Nat.zero_le _) (by rw [Nat.zero_add];exact sB) mS ?_
   rintro a ha
   by_cases hla:a+2*s≤L.length
   ·
    repeat' (first|((with_reducible apply wl_v (d:=40));exact rfl;(with_reducible apply v_addN (a:=a) (b:=s));exact rfl;exact rfl;(simp only [maxLen];omega))|((with_reducible apply wl_callp (f:=384));exact rfl;exact rfl;(intro w2 hm2;exact hM a (a+s) (a+2*s) (by omega) (by omega) hla w2 _ hm2))|((with_reducible apply wl_v (d:=47));exact rfl;(with_reducible apply v_mulN (a:=2) (b:=s));exact rfl;exact rfl;(simp only [maxLen];omega))|((with_reducible apply wl_v (d:=48));exact rfl;(with_reducible apply v_addN (a:=a+2*s) (b:=2*s));exact rfl;exact rfl;(simp only [maxLen];omega))|refine sT ?_|refine sS ?_|refine sN ?_|refine sM fun _=> ?_|(refine sC ?_ ?_<;>intro hb<;>try omega)|fail)
    all_goals first
     |(exfalso;omega)
     |(refine ⟨a+2*s,hla,by omega,by exact sB,by exact sB,by exact mS⟩;done)
     |trace_state
   ·
    by_cases hlm:a+s<L.length
    ·
     repeat' (first|((with_reducible apply wl_v (d:=51));exact rfl;(with_reducible apply v_addN (a:=a) (b:=s));exact rfl;exact rfl;(simp only [maxLen];omega))|((with_reducible apply wl_callp (f:=384));exact rfl;exact rfl;(intro w2 hm2;exact hM a (a+s) L.length (by omega) hlm (Nat.le_refl _) w2 _ hm2))|((with_reducible apply wl_v (d:=62));exact rfl;(with_reducible apply v_mulN (a:=s) (b:=2));exact rfl;exact rfl;(simp only [maxLen];omega))|refine sT ?_|refine sS ?_|refine sN ?_|refine sM fun _=> ?_|(refine sC ?_ ?_<;>intro hb<;>try omega)|fail)
     all_goals first
      |(exfalso;omega)
      |(refine ⟨s*2,⟨by omega,by omega⟩,by omega,by exact sB,by exact sB,by exact mS⟩;done)
      |trace_state
    ·
     repeat' (first|((with_reducible apply wl_v (d:=51));exact rfl;(with_reducible apply v_addN (a:=a) (b:=s));exact rfl;exact rfl;(simp only [maxLen];omega))|((with_reducible apply wl_v (d:=62));exact rfl;(with_reducible apply v_mulN (a:=s) (b:=2));exact rfl;exact rfl;(simp only [maxLen];omega))|refine sT ?_|refine sS ?_|refine sN ?_|refine sM fun _=> ?_|(refine sC ?_ ?_<;>intro hb<;>try omega)|fail)
     all_goals first
      |(exfalso;omega)
      |(refine ⟨s*2,⟨by omega,by omega⟩,by omega,by exact sB,by exact sB,by exact mS⟩;done)
      |trace_state
  ·
   repeat' (first|refine sT ?_|refine sS ?_|refine sM fun _=> ?_|(refine sC ?_ ?_<;>intro hb<;>try omega)|fail)
   all_goals first
    |(exfalso;omega)
    |(exact ret0 eIO rfl (MSub.nil _) rfl)
    |trace_state
theorem sortStable_at (L:List Pz) (hL:InZ L) (lv:Value) (w:World) (hl:Reads w lv L.length (L.flatMap encPz)):
  Pure Tryz.prog 282 [lv,cmpV] w (.tuple #[]):=by
 have hS:=fun (w2:World) (H2:List Blk) (hm:Mem w w2 H2)=>stableZ_at L hL lv w2 (hl.of_w0 hm)
 obtain ⟨Al,cl,rfl,hl1,hl2,hl3⟩:=hl
 refine fn_at Tryz.func282 rfl Tryz.ntmps282 rfl ?_
 repeat' (first|((with_reducible apply wl_callp (f:=336));exact rfl;exact rfl;(intro w2 hm2;exact hS w2 _ hm2))|refine sT ?_|refine sM fun _=> ?_|(refine sC ?_ ?_<;>intro hb<;>try omega)|fail)
 exact ret0 eIO rfl (MSub.nil _) rfl
end Go.SL
