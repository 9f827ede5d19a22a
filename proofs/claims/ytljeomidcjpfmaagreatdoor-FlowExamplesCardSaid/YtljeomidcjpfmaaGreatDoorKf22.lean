/-
  Lemmas and walks, put together: Hm Sl35 Hn Ho Pl4 Pl5 Pl6 Pf Sl36 Rj Rk Pl7 Rl Rm Rn Ro Hp.
-/
import Derived.Test.YtljeomidcjpfmaaGreatDoorKf21
set_option linter.unusedSimpArgs false
set_option linter.unusedVariables false
set_option maxRecDepth 20000
namespace Go.SL
open Go Go.Proofs
attribute [local irreducible] W WL WQ WG WA WX WLI WR WT WC WE VOp RW thn blk cutP scp retP retPP endB FnAt FnIn FnP ceP bodyB assignQ roundQ
def liveF (g:Gn) (L:List Rl):Bool:= !g.rev && hasS (ovE g.rect L).1.2.2 g.by_
theorem live_at (g:Gn) (L:List Rl) (lv:Value) (w:World) (hl:Reads w lv L.length (L.flatMap encRl)):Pure Tryz.prog 316 [.agg (encGn g).toArray,lv] w (.bool (liveF g L)):=by
 refine fn_at Tryz.func316 rfl Tryz.ntmps316 rfl ?_
 have h1:=fun (w' :World) (H:List Blk) (hm:Mem w w' H)=>Over_at g.rect L lv w' (hl.of_w0 hm)
 have h2:=fun w=>Has18_at (ovE g.rect L).1.2.2 g.by_ w
 unfold liveF
 generalize (ovE g.rect L).2=e at h1
 generalize (ovE g.rect L).1.1=s1 at h1
 generalize (ovE g.rect L).1.2.1=s2 at h1
 generalize (ovE g.rect L).1.2.2=s3 at h1 h2 ⊢
 generalize hasS s3 g.by_=b at h2
 repeat' (first|((with_reducible apply wl_callp (f:=160));exact rfl;exact rfl;(intro w' hm;exact h1 w' _ hm))|((with_reducible apply wl_callp);exact rfl;exact rfl;(intro w hm;exact h2 w))|refine sT ?_|refine sM fun _=> ?_|(refine sC ?_ ?_<;>intro hb<;>try omega)|fail)
 all_goals first
  |(exfalso;omega)
  |((refine rT1 ?_);rw [hb];rfl)
  |trace_state
def relOk (fn:Int) (r:Rct) (L:List Rl) (g:Gn):Bool:=decide (g.rect=r) && (namesF g.fns fn && liveF g L)
def relFrom (fn:Int) (r:Rct) (L:List Rl):List Gn→Nat→List (Nat × Gn)
 | [],_=> []
 |g::G,i=>bif relOk fn r L g then (i,g)::relFrom fn r L G (i+1) else relFrom fn r L G (i+1)
def encIG (x:Nat × Gn):List Value:= [.int .i64 (x.1:Int),.agg (encGn x.2).toArray]
theorem relFrom_len (fn:Int) (r:Rct) (L:List Rl): ∀ (G:List Gn) (i:Nat),(relFrom fn r L G i).length≤G.length
 | [],_=>Nat.le_refl _
 |g::G,i=>by
  have:=relFrom_len fn r L G (i+1)
  rw [relFrom]
  cases relOk fn r L g<;>simp<;>omega
set_option maxHeartbeats 8000000 in
theorem rel_seq (fn:Int) (r:Rct) (L:List Rl) (G:List Gn) (gv lv:Value) (w0:World) (hg:Reads w0 gv G.length (G.flatMap encGn)) (hl:Reads w0 lv L.length (L.flatMap encRl)) (hn:G.length≤1000000) (gg gr gf gl:Nat):
  Seqs Tryz.prog 314 [.pointer (some ⟨gg,0,none⟩),.pointer (some ⟨gr,0,none⟩),.pointer (some ⟨gf,0,none⟩),.pointer (some ⟨gl,0,none⟩)] w0
   [.box gg 24 [gv],.box gr 33 (encR r),.box gf 5 [.int .u8 fn],.box gl 23 [lv]] (relFrom fn r L G 0) encIG:=by
 obtain ⟨Ag,cg,rfl,hg1,hg2,hg3⟩:=hg
 intro l I J H0 hy h0
 refine FnIn.msub (H' := [.box gg 24 [.slice Ag G.length cg],.box gr 33 (encR r),.box gf 5 [.int .u8 fn],.box gl 23 [lv]]++H0) ?_ (MSub.appC H0 [] _)
 refine fn_in Tryz.func314 rfl Tryz.ntmps314 rfl ?_
 repeat' (first|refine sT ?_|refine sS ?_|refine sM fun _=> ?_|(refine sC ?_ ?_<;>intro hb<;>try omega)|fail)
 refine w_loopK [0,1,2,3,4,8,9] rfl (fun y:Nat × List (Nat × Gn) × List Blk=> [(10,.int .i64 (y.1:Int))]) (fun y=> [.box gg 24 [.slice Ag G.length cg],.box gr 33 (encR r),.box gf 5 [.int .u8 fn],.box gl 23 [lv]]++y.2.2) (fun y=>y.1≤G.length∧relFrom fn r L G 0=y.2.1++relFrom fn r L (G.drop y.1) y.1∧I y.2.1 y.2.2) (fun y=>G.length - y.1) (0,[],H0) ⟨Nat.zero_le _,rfl,h0⟩ sB (by exact MSub.refl _) ?_
 rintro ⟨i,pre,H1⟩ ⟨hi,hus,hI⟩
 dsimp only at hi hus hI ⊢
 simp only [List.cons_append,List.nil_append]
 by_cases hlt:i<G.length
 ·
  obtain ⟨ga,oa,rfl,hrl⟩:=hg3 (by omega)
  have he:=hrl.elem encGn_len i hlt
  rw [List.drop_eq_getElem_cons hlt,relFrom] at hus
  generalize G[i]=g at hus he
  have hN:=fun w=>Names_at g.fns fn w
  have hL:=fun (w' :World) (H:List Blk) (hm:Mem w0 w' H)=>live_at g L lv w' (hl.of_w0 hm)
  unfold relOk at hus
  obtain ⟨c1,hc1⟩: ∃ c,decide (g.rect=r)=c:=⟨_,rfl⟩
  rw [hc1] at hus
  generalize namesF g.fns fn=c2 at hN hus
  generalize liveF g L=c3 at hL hus
  repeat' (first|((with_reducible apply w_regionI (id:=3)))|((with_reducible apply wli_v (d:=18));exact rfl;exact rfl;(with_reducible apply v_eqlR_to hc1);exact rfl;exact rfl)|((with_reducible apply wli_gyes);exact rfl;exact rfl)|((with_reducible apply wli_gno);(iterate 4 exact rfl))|((with_reducible apply wli_gsplit)<;>first|exact rfl|(intro hb;replace hb:=Tidy.out hb;try (exfalso;omega)))|((with_reducible apply wli_callp (f:=315));(iterate 3 exact rfl);(intro w' hm;exact hN w'))|((with_reducible apply wli_callp (f:=316));(iterate 3 exact rfl);(intro w' hm;exact hL w' _ hm))|refine sT ?_|refine sS ?_|refine sI ?_|refine sN ?_|refine sO ?_|refine sM fun _=> ?_|(refine sC ?_ ?_<;>intro hb<;>try omega)|fail)
  ·
   have hus2:relFrom fn r L G 0=pre++(i,g)::relFrom fn r L (G.drop (i+1)) (i+1):=by rw [hus];simp [*]
   rename_i g7 _ _
   (with_reducible apply wli_yieldB)
   ·
    exact rfl
   ·
    exact rfl
   ·
    exact rfl
   ·
    exact MSub.appC [.box g7 56 (encGn g)] [.box gg 24 [.slice (some ⟨ga,oa,none⟩) G.length cg],.box gr 33 (encR r),.box gf 5 [.int .u8 fn],.box gl 23 [lv]] H1
   ·
    exact fun w hm=>hy pre (i,g) _ hus2 H1 _ hI w hm
   intro bb H3 hq
   cases bb
   ·
    repeat' (first|((with_reducible apply wli_gyes);exact rfl;exact rfl)|((with_reducible apply wli_gno);(iterate 4 exact rfl))|refine sT ?_|refine sS ?_|refine sI ?_|refine sM fun _=> ?_|(refine sC ?_ ?_<;>intro hb<;>try omega)|fail)
    exact ret0 eIO rfl (MSub.appE [.box g7 56 (encGn g)] [.box gg 24 [.slice (some ⟨ga,oa,none⟩) G.length cg],.box gr 33 (encR r),.box gf 5 [.int .u8 fn],.box gl 23 [lv]] H3) ⟨H3,.inr ⟨_,hq⟩,MSub.refl _⟩
   ·
    repeat' (first|((with_reducible apply wli_gyes);exact rfl;exact rfl)|((with_reducible apply wli_gno);(iterate 4 exact rfl))|refine sT ?_|refine sS ?_|refine sI ?_|refine sN ?_|refine sM fun _=> ?_|(refine sC ?_ ?_<;>intro hb<;>try omega)|fail)
    refine ⟨(i+1,_,H3),⟨hlt,hus2.trans (by rw [List.append_assoc];rfl),hq⟩,(by dsimp only;omega),sB,sB,?_⟩
    dsimp only
    exact MSub.trans (MSub.drop .hd (MSub.refl _)) (MSub.appD [.box g7 56 (encGn g)] [.box gg 24 [.slice (some ⟨ga,oa,none⟩) G.length cg],.box gr 33 (encR r),.box gf 5 [.int .u8 fn],.box gl 23 [lv]] H3)
  all_goals
   refine ⟨(i+1,pre,H1),⟨hlt,by rw [hus];simp [*],hI⟩,(by dsimp only;omega),sB,sB,?_⟩
   exact MSub.drop .hd (MSub.refl _)
 ·
  have e:i=G.length:=by omega
  subst e
  rw [List.drop_length,relFrom,List.append_nil] at hus
  repeat' (first|refine sT ?_|refine sS ?_|refine sM fun _=> ?_|(refine sC ?_ ?_<;>intro hb<;>try omega)|fail)
  exact ret0 eIO rfl (.refl _) ⟨H1,.inl (hus ▸ hI),MSub.appS [.box gg 24 [.slice Ag G.length cg],.box gr 33 (encR r),.box gf 5 [.int .u8 fn],.box gl 23 [lv]] H1⟩
end Go.SL
namespace Go.SL
open Go Go.RowKit
section
variable {P:Program} {n:Fr} {w0:World} {s:Slots} {H:List Blk}
theorem ret11t {fn:Func} {R:Value→List Blk→Prop} {e:Exit} {t u q T U T' U' g h:Nat} {v x y:Value} (he:e= .ret∨e= .normal) (hr:fn.results= #[.cell t T,.cell u U,.tmp q]) [One P T] [One P U] (ht:look s t=some (.pointer (some ⟨g,0,none⟩))) (hi:In (.box g T' [v]) H)
  (hu:look s u=some (.pointer (some ⟨h,0,none⟩))) (hi' :In (.box h U' [x]) H) (hq:look s q=some y) {H' :List Blk} (hs:MSub H' H) (hR:R (.tuple #[v,x,y]) H'):retP P fn n w0 R e s H:=
 ⟨he,_,H',hs,fun a w hst hm=>by
  have h1:=res_cell1 (P:=P) (T:=T) hst hm ht hi
  have h2:=res_cell1 (P:=P) (T:=U) hst hm hu hi'
  have h3:=hst.has q _ hq
  simp only [results,hr]
  simp only [List.mapM_toArray,List.mapM_cons,List.mapM_nil,Sem.run_bind,Sem.run_map] at h1 h2 ⊢
  simp only [h1,h2,Result.andThen_ok,Sem.run_pure]
  simp only [Array.getD_eq_getD_getElem?,h3,Option.getD_some]
  rfl,hR⟩
end
end Go.SL
namespace Go.SL
open Go Go.Proofs
attribute [local irreducible] W WL WQ WG WA WX WLI WR WT WC WE VOp RW thn blk cutP scp retP retPP endB FnAt FnIn FnP ceP bodyB assignQ roundQ
def orS (l:List (BitVec 64)):BitVec 64:=l.foldl (· ||| ·) 0#64
theorem orS_snoc {l:List (BitVec 64)} {x:BitVec 64}:orS (l++ [x])=orS l|||x:=by unfold orS;rw [List.foldl_append];rfl
def forE (fn:Int) (r:Rct) (L:List Rl) (G:List Gn):BitVec 64 × List Nat × Int:=
 if fn<46∨50<fn then (0#64,[],2) else if rectE r≠0 then (0#64,[],3) else if (aclE 64 L).2≠0 then (0#64,[],(aclE 64 L).2) else if (gntE 64 G).2≠0 then (0#64,[],(gntE 64 G).2)
 else (orS ((relFrom fn r L G 0).map fun x=>x.2.to),(relFrom fn r L G 0).map fun x=>x.1,0)
theorem releasing_at (fn:Int) (r:Rct) (lv gv:Value) (w:World) {m1 m2:Nat} {x1 x2:List Value} (hl:Reads w lv m1 x1) (hg:Reads w gv m2 x2):FnAt Tryz.prog 263 [.int .u8 fn,.agg (encR r).toArray,lv,gv] w fun v H=> ∃ gg gr gf gl,v= .func (.func 314) #[] #[.pointer (some ⟨gg,0,none⟩),.pointer (some ⟨gr,0,none⟩),.pointer (some ⟨gf,0,none⟩),.pointer (some ⟨gl,0,none⟩)]∧H= [.box gg 24 [gv],.box gr 33 (encR r),.box gf 5 [.int .u8 fn],.box gl 23 [lv]]:=by
 obtain ⟨Al,cl,rfl,_⟩:=hl
 obtain ⟨Ag,cg,rfl,_⟩:=hg
 refine fn_at Tryz.func263 rfl Tryz.ntmps263 rfl ?_
 repeat' (first|refine sT ?_|refine sM fun _=> ?_|(refine sC ?_ ?_<;>intro hb<;>try omega)|fail)
 rename_i gf gr gl gg
 exact ret1 eIO rfl rfl (H' := [.box gg 24 [_],.box gr 33 (encR r),.box gf 5 [.int .u8 fn],.box gl 23 [_]]) mS ⟨gg,gr,gf,gl,rfl,rfl⟩
set_option maxHeartbeats 8000000 in
theorem For_at (fn : Int) (r : Rct) (L : List Rl) (G : List Gn) (lv gv : Value) (w : World) (hl : Reads w lv L.length (L.flatMap encRl)) (hg : Reads w gv G.length (G.flatMap encGn)) (hn : G.length ≤ 1000000) :
    FnAt Tryz.prog 184 [.int .u8 fn, .agg (encR r).toArray, lv, gv] w fun v H => ∃ A cap, v = .tuple #[vS (forE fn r L G).1, sl A (forE fn r L G).2.1.length cap, .int .i64 (forE fn r L G).2.2] ∧ H = [.own A 3 1 (forE fn r L G).2.1.length cap (intsV (forE fn r L G).2.1)] := by
  refine fn_range_at Tryz.func184 rfl Tryz.ntmps184 (by rfl) ?_
  have h1 := fun w => rect_at r w
  have h2 := fun (w' : World) (H : List Blk) (hm : Mem w w' H) => aclCheck_at 64 L lv w' (hl.of_w0 hm)
  have h3 := fun (w' : World) (H : List Blk) (hm : Mem w w' H) => gntCheck_at 64 G gv w' (hg.of_w0 hm)
  have h4 := fun (w' : World) (H : List Blk) (hm : Mem w w' H) => releasing_at fn r lv gv w' (hl.of_w0 hm) (hg.of_w0 hm)
  have h5 := fun gg gr gf gl => rel_seq fn r L G gv lv w hg hl hn gg gr gf gl
  have hrl := relFrom_len fn r L G 0
  unfold forE
  generalize rectE r = e1 at h1
  generalize (aclE 64 L).2 = e2 at h2
  generalize (gntE 64 G).2 = e3 at h3
  generalize relFrom fn r L G 0 = us at h5 hrl
  refine wt_seq_r ?_
  refine w_nilrow 3 1 ?_
  repeat' (first | ((with_reducible apply wl_callp); exact rfl; exact rfl; (intro w hm; exact h1 w)) | ((with_reducible apply wl_callp (f := 73)); exact rfl; exact rfl; (intro w' hm; exact h2 w' _ hm)) | ((with_reducible apply wl_callp (f := 74)); exact rfl; exact rfl; (intro w' hm; exact h3 w' _ hm)) | ((with_reducible apply wl_call (f := 263)); exact rfl; exact rfl; (intro w' hm; exact h4 w' _ hm); rintro _ _ ⟨gg, gr, gf, gl, rfl, rfl⟩) | refine sT ?_ | refine sS ?_ | refine sR ?_ | refine sM fun _ => ?_ | (refine sC ?_ ?_ <;> intro hb <;> try omega) | (refine sCR ?_ ?_ <;> intro hb <;> try omega) | fail)
  all_goals first
    | (exfalso; omega)
    | (refine end_ret ?_
       exact ret11t eIO rfl rfl pK rfl pK rfl (H' := [.own none 3 1 0 0 []]) mS ⟨none, 0, by first | (rw [if_pos (by omega)]; exact ⟨rfl, rfl⟩) | (rw [if_neg (by omega), if_pos hb]; exact ⟨rfl, rfl⟩) | (rw [if_neg (by omega), if_neg (by omega), if_pos hb]; exact ⟨rfl, rfl⟩) | (rw [if_neg (by omega), if_neg (by omega), if_neg (by omega), if_pos hb]; exact ⟨rfl, rfl⟩)⟩)
    | skip
  rename_i g5 g8 g9 k1 k2 k3 k4
  rw [if_neg (by omega), if_neg (by omega), if_neg (by omega), if_neg (by omega)]
  refine wt_range (ps := [47, 48]) (us := us) (encs := encIG) (Hc := [.box gg 24 [gv], .box gr 33 (encR r), .box gf 5 [.int .u8 fn], .box gl 23 [lv]]) (HU0 := [.box g8 34 [vS 0#64], .box g9 90 [.slice none 0 0], .own none 3 1 0 0 []]) rfl (fun _ => rfl) rfl (h5 gg gr gf gl)
    (fun pre HU => ∃ A cap, HU = [.box g8 34 [vS (orS (pre.map fun x => x.2.to))], .box g9 90 [sl A pre.length cap], .own A 3 1 pre.length cap (intsV (pre.map fun x => x.1))]) (fun _ => False) ?_ ⟨none, 0, rfl⟩ ?_ ?_ ?_
  · exact mS
  · rintro l pre ⟨i, g⟩ post hus _ ⟨A, cap, rfl⟩ F F'
    have hlu := congrArg List.length hus
    simp only [List.length_append, List.length_cons] at hlu
    change WR _ _ _ l _ _ ((48, Value.agg (encGn g).toArray) :: (47, Value.int .i64 (i : Int)) :: _) (.box g8 34 [vS (orS (pre.map fun x => x.2.to))] :: .box g9 90 [sl A pre.length cap] :: .own A 3 1 pre.length cap (intsV (pre.map fun x => x.1)) :: F)
    repeat' (first | refine sT ?_ | refine sR ?_ | refine sM fun _ => ?_ | (refine sC ?_ ?_ <;> intro hb <;> try omega) | (refine sCR ?_ ?_ <;> intro hb <;> try omega) | fail)
    rename_i g16
    refine assign_n ⟨[.box g16 56 (encGn g), .box g8 34 [vS (orS (pre.map fun x => x.2.to))], .box g9 90 [sl A pre.length cap], .own A 3 1 pre.length cap (intsV (pre.map fun x => x.1))], MSub.refl _, ?_⟩
    change WR _ _ _ l _ _ _ (.box g16 56 (encGn g) :: .box g8 34 [vS (orS (pre.map fun x => x.2.to))] :: .box g9 90 [sl A pre.length cap] :: .own A 3 1 pre.length cap (intsV (pre.map fun x => x.1)) :: F')
    repeat' (first | ((with_reducible apply wl_v); exact rfl; (with_reducible apply v_or64 (b := g.to)); exact rfl; exact rfl) | ((with_reducible apply wl_append); (iterate 3 exact rfl); (repeat first | exact .hd | apply Sel.tl | apply In.tl); (intro w hm; exact hm.cells_own (by (repeat first | exact .hd | apply Sel.tl | apply In.tl))); exact rfl; (simp [Value.oneCell', sl]); omega; (simp only [maxLen]; omega); (intro A' cap' hA')) | refine sT ?_ | refine sR ?_ | refine sM fun _ => ?_ | (refine sC ?_ ?_ <;> intro hb <;> try omega) | (refine sCR ?_ ?_ <;> intro hb <;> try omega) | fail)
    refine round_n [.box g8 34 [vS (orS (pre.map fun x => x.2.to) ||| g.to)], .box g9 90 [sl A' (pre.length + 1) cap'], .own A' 3 1 (pre.length + 1) cap' (intsV (pre.map fun x => x.1) ++ [.int .i64 (i : Int)])] ?_ ⟨A', cap', ?_⟩
    · change MSub (_ :: _ :: _ :: F') _
      exact mS
    · simp only [List.map_append, List.map_cons, List.map_nil, orS_snoc, List.length_append, List.length_singleton, intsV]
  · rintro D _ ⟨A, cap, rfl⟩
    change endB _ _ _ _ _ (dObj D :: .box g8 34 [vS (orS (us.map fun x => x.2.to))] :: .box g9 90 [sl A us.length cap] :: .own A 3 1 us.length cap (intsV (us.map fun x => x.1)) :: _)
    repeat' (first | refine sT ?_ | refine sS ?_ | refine sR ?_ | refine sM fun _ => ?_ | (refine sC ?_ ?_ <;> intro hb <;> try omega) | (refine sCR ?_ ?_ <;> intro hb <;> try omega) | fail)
    generalize orS (us.map fun x => x.2.to) = o
    refine w_drawBs (id := 16) [⟨2, g8, 34, vS o, vS o⟩, ⟨3, g9, 90, sl A us.length cap, sl A us.length cap⟩] [dObj D, .own A 3 1 us.length cap (intsV (us.map fun x => x.1))] (by kernel_rfl) (by kernel_rfl) rfl mS ?_
    repeat' (first | (refine wg_getB ⟨2, g8, 34, vS o, vS o⟩ (.head _) (f := 60) (j := 2) rfl (by decide +kernel) rfl rfl rfl ?_) | (refine wg_getB ⟨3, g9, 90, sl A us.length cap, sl A us.length cap⟩ (.tail _ (.head _)) (f := 60) (j := 3) rfl (by decide +kernel) rfl rfl rfl ?_) | (refine wg_putB [] [⟨3, g9, 90, sl A us.length cap, sl A us.length cap⟩] ⟨2, g8, 34, vS o, vS o⟩ rfl rfl rfl rfl rfl rfl ?_) | (refine wg_putB [⟨2, g8, 34, vS o, vS o⟩] [] ⟨3, g9, 90, sl A us.length cap, sl A us.length cap⟩ rfl rfl rfl rfl rfl rfl ?_) | ((with_reducible apply wg_valB); exact rfl; exact rfl; (exact vC)) | refine sT ?_ | refine sS ?_ | refine sR ?_ | refine sG ?_ | refine sM fun _ => ?_ | (refine sC ?_ ?_ <;> intro hb <;> try omega) | (refine sCR ?_ ?_ <;> intro hb <;> try omega) | fail)
    refine end_mark pK ?_
    exact ret11t eIO rfl rfl pK rfl pK rfl (H' := [.own A 3 1 us.length cap (intsV (us.map fun x => x.1))]) mS ⟨A, cap, by dsimp only; rw [List.length_map], by dsimp only; rw [List.length_map]⟩
  · rintro D HU h
    exact h.elim
end Go.SL
namespace Go.SL
open Go Go.Proofs
@[reducible] def keyR (r:Rct):Value:= .agg (encR r).toArray
structure Ak where
 fn:Int
 rect:Rct
def encAk (a:Ak):List Value:= [.int .u8 a.fn,.int .i64 a.rect.c1,.int .i64 a.rect.r1,.int .i64 a.rect.c2,.int .i64 a.rect.r2]
@[reducible] def keyA (a:Ak):Value:= .agg (encAk a).toArray
def eqAk (a b:Ak):Bool:=decide (a.fn=b.fn) && eqR a.rect b.rect
theorem eqAk_iff {a b:Ak}:eqAk a b=true↔a=b:=by
 obtain ⟨a1,a2⟩:=a
 obtain ⟨b1,b2⟩:=b
 simp [eqAk,eqR_iff]
instance:DecidableEq Ak:=fun a b=>decidable_of_iff (eqAk a b=true) eqAk_iff
theorem eqAk_dec (a b:Ak):eqAk a b=decide (a=b):=by rw [Bool.eq_iff_iff,eqAk_iff];simp
theorem run_eqAk (w:World) (d:Nat) (a b:Ak):(Op.equalIn (d+5) 287 (.agg (encAk a).toArray) (.agg (encAk b).toArray)).run Tryz.prog w= .ok (eqAk a b) w:=by
 rw [run_equalIn_agg w (d+4) 287 _ _ (by rw [Program.fieldsOf,Tryz.underlying287]) Tryz.stoodInHeld287]
 simp only [Program.fieldsOf,Tryz.underlying287]
 have hr: ∀ w,(Op.equalIn (d+4) 33 (.agg #[.int .i64 a.rect.c1,.int .i64 a.rect.r1,.int .i64 a.rect.c2,.int .i64 a.rect.r2]) (.agg #[.int .i64 b.rect.c1,.int .i64 b.rect.r1,.int .i64 b.rect.c2,.int .i64 b.rect.r2])).run Tryz.prog w= .ok (eqR a.rect b.rect) w:=fun w=>run_eqR w (d+1) a.rect b.rect
 simp [Op.eqFields,encAk,part,go_sem,beqL,beqI,eqAk,hr]
 by_cases h1:a.fn=b.fn<;>by_cases h2:eqR a.rect b.rect=true<;>simp [h1,h2]
theorem findK {K:TypeId} {κ:Type} [DecidableEq κ] {enc:κ→Value} {td:TypeDesc} (hu:Tryz.prog.underlying K=some td) (hns: ∀ (k e:κ) w,(Op.equalIn Op.maxDepth K (enc k) (enc e)).run Tryz.prog w= .ok (decide (k=e)) w)
  (hnow: ∀ (k:κ) (es:List (κ × Value × Nat)) w,(Instr.findAsking K (enc k) (es.map (ment enc)) 0).run Tryz.prog w= .ok (kfind k es 0) w→(Instr.findKey K (enc k) (es.map (ment enc))).run Tryz.prog w= .ok (kfind k es 0) w) (k:κ) (es:List (κ × Value × Nat)) (w:World):
  (Instr.findKey K (enc k) (es.map (ment enc))).run Tryz.prog w= .ok (kfind k es 0) w:=by
 refine hnow k es w ?_
 have hask: ∀ (es:List (κ × Value × Nat)) (i:Nat),(Instr.findAsking K (enc k) (es.map (ment enc)) i).run Tryz.prog w= .ok (kfind k es i) w:=by
  intro es
  induction es with
  |nil=>intro i;rfl
  |cons e es ih=>
   intro i
   have h:=hns k e.1 w
   simp only [List.map_cons,Instr.findAsking,ment,Op.equal,Sem.run_bind,h,Result.andThen_ok,kfind]
   by_cases hk:k=e.1
   ·
    simp only [hk,decide_true,if_true,Sem.run_pure]
   ·
    simp only [hk,decide_false,if_false,Bool.false_eq_true]
    exact ih _
 exact hask es 0
instance klaw_R:KLaw Tryz.prog 33 keyR:={
 check:=fun e k w=>by
  have h: ∀ m,(Instr.checkKey e (m+2) 33 (.agg (encR k).toArray)).run Tryz.prog w= .ok () w:=fun m=>by
   simp [Instr.checkKey,encR,part,go_sem,Tryz.underlying33]
  exact h 9998
 find:=fun k es w=>by
  refine findK Tryz.underlying33 (fun k e w=>by have h:=run_eqR w 9997 k e;rw [eqR_dec] at h;exact h) (fun k es w h=> ?_) k es w
  have hu:=run_underlying (P:=Tryz.prog) (w:=w) Tryz.underlying33
  cases es with
  |nil=>simp only [Instr.findKey,List.map_nil,Instr.findNow,Sem.run_bind,hu,Result.andThen_ok,Sem.run_pure,kfind]
  |cons e es=>
   simp only [List.map_cons] at h ⊢
   simp only [Instr.findKey,Instr.findNow,ment,Instr.sameNow,Sem.run_bind,hu,Result.andThen_ok]
   exact h
 stays:=fun k w=>by
  have h:Instr.sameBits 10000 (.agg (encR k).toArray) (.agg (encR k).toArray)=true:=by
   have h: ∀ m,Instr.sameBits (m+1) (.agg (encR k).toArray) (.agg (encR k).toArray)=true:=fun m=>by simp [Instr.sameBits,encR]
   exact h 9999
  simp only [Instr.keyThatStays,h,if_true,Sem.run_pure] }
instance klaw_A:KLaw Tryz.prog 287 keyA:={
 check:=fun e k w=>by
  have h: ∀ m,(Instr.checkKey e (m+3) 287 (.agg (encAk k).toArray)).run Tryz.prog w= .ok () w:=fun m=>by
   simp [Instr.checkKey,encAk,part,go_sem,Tryz.underlying287,Tryz.underlying33]
  exact h 9997
 find:=fun k es w=>by
  refine findK Tryz.underlying287 (fun k e w=>by have h:=run_eqAk w 9995 k e;rw [eqAk_dec] at h;exact h) (fun k es w h=> ?_) k es w
  have hu:=run_underlying (P:=Tryz.prog) (w:=w) Tryz.underlying287
  cases es with
  |nil=>simp only [Instr.findKey,List.map_nil,Instr.findNow,Sem.run_bind,hu,Result.andThen_ok,Sem.run_pure,kfind]
  |cons e es=>
   simp only [List.map_cons] at h ⊢
   simp only [Instr.findKey,Instr.findNow,ment,Instr.sameNow,Sem.run_bind,hu,Result.andThen_ok]
   exact h
 stays:=fun k w=>by
  have h:Instr.sameBits 10000 (.agg (encAk k).toArray) (.agg (encAk k).toArray)=true:=by
   have h: ∀ m,Instr.sameBits (m+1) (.agg (encAk k).toArray) (.agg (encAk k).toArray)=true:=fun m=>by simp [Instr.sameBits,encAk]
   exact h 9999
  simp only [Instr.keyThatStays,h,if_true,Sem.run_pure] }
end Go.SL
namespace Go.SL
open Go
section
variable {G:Gr} (hG:GrOk G)
include hG
theorem users_iff {a b:Rf} (hb:b.valid=true):a∈usersG G (oneA b.col b.row)↔a∈keysG G∧touchesU (usesG G a) (oneA b.col b.row)=true:=by
 have hr:rectOk (oneA b.col b.row)=true:=by rw [rect_one];exact hb
 exact ⟨fun h=>⟨users_keys a h,(mem_users hG.sort hr (users_keys a h)).1 h⟩,fun h=>(mem_users hG.sort hr h.1).2 h.2⟩
theorem keys_len {M:List Rf} (hn:M.Nodup) (hM: ∀ c∈M,c∈keysG G):M.length≤G.length:=by
 have hp:M.Perm ((keysG G).filter fun a=>decide (a∈M)):=nodup_perm hn (hG.sort.nodup.filter _) fun a=>by
  rw [List.mem_filter,decide_eq_true_eq]
  exact ⟨fun ha=>⟨hM a ha,ha⟩,fun ha=>ha.2⟩
 have h1:=hp.length_eq
 have h2:=List.length_filter_le (fun a=>decide (a∈M)) (keysG G)
 have h3:(keysG G).length=G.length:=by rw [keysG,List.length_map]
 omega
open Classical in
open Classical in
open Classical in
open Classical in
end
structure Lw where
 rd:Rf→BitVec 64
 ov:Rct→BitVec 64
 to:Us→BitVec 64
def seesP (G:Gr) (w:Lw) (u:Nat) (c:Rf):Prop:=
 ∃ p:Rf→Prop,p c∧ ∀ d,p d→(w.rd d).getLsbD u=true∧ ∀ x∈usesG G d,(w.to x).getLsbD u=true∨((w.ov x.rect).getLsbD u=true∧ ∀ f∈keysG G,hasR x.rect f=true→p f)
theorem seesP.out {G:Gr} {w:Lw} {u:Nat} {c:Rf} (h:seesP G w u c):(w.rd c).getLsbD u=true∧ ∀ x∈usesG G c,(w.to x).getLsbD u=true∨((w.ov x.rect).getLsbD u=true∧ ∀ f∈keysG G,hasR x.rect f=true→seesP G w u f):=by
 obtain ⟨p,hc,hp⟩:=h
 refine ⟨(hp c hc).1,fun x hx=> ?_⟩
 rcases (hp c hc).2 x hx with h1|⟨h1,h2⟩
 ·
  exact .inl h1
 ·
  exact .inr ⟨h1,fun f hf hh=>⟨p,h2 f hf hh,hp⟩⟩
theorem seesP_iff {G:Gr} {w:Lw} {u:Nat} {c:Rf}:seesP G w u c↔(w.rd c).getLsbD u=true∧ ∀ x∈usesG G c,(w.to x).getLsbD u=true∨((w.ov x.rect).getLsbD u=true∧ ∀ f∈keysG G,hasR x.rect f=true→seesP G w u f):=by
 refine ⟨seesP.out,fun h=>⟨fun d=>seesP G w u d∨d=c,.inr rfl,fun d hd=> ?_⟩⟩
 have h2:(w.rd d).getLsbD u=true∧ ∀ x∈usesG G d,(w.to x).getLsbD u=true∨((w.ov x.rect).getLsbD u=true∧ ∀ f∈keysG G,hasR x.rect f=true→seesP G w u f):=by
  rcases hd with hd|rfl
  ·
   exact hd.out
  ·
   exact h
 refine ⟨h2.1,fun x hx=> ?_⟩
 rcases h2.2 x hx with h3|⟨h3,h4⟩
 ·
  exact .inl h3
 ·
  exact .inr ⟨h3,fun f hf hh=> .inl (h4 f hf hh)⟩
def andK (K:List Rf) (lab:Rf→BitVec 64) (r:Rct) (s:BitVec 64):BitVec 64:=K.foldl (fun s c=>if hasR r c=true then s &&& lab c else s) s
theorem andK_bit {lab:Rf→BitVec 64} {r:Rct} {i:Nat}: ∀ {K:List Rf} {s:BitVec 64},(andK K lab r s).getLsbD i=true↔s.getLsbD i=true∧ ∀ c∈K,hasR r c=true→(lab c).getLsbD i=true
 | [],s=>by simp [andK]
 |c::K,s=>by
  have h:andK (c::K) lab r s=andK K lab r (if hasR r c=true then s &&& lab c else s):=rfl
  rw [h,andK_bit]
  by_cases hc:hasR r c=true
  ·
   rw [if_pos hc,BitVec.getLsbD_and,Bool.and_eq_true]
   simp only [List.mem_cons,forall_eq_or_imp,hc,forall_const,and_assoc]
  ·
   rw [if_neg hc]
   simp only [List.mem_cons,forall_eq_or_imp]
   exact ⟨fun h=>⟨h.1,fun h2=>absurd h2 hc,h.2⟩,fun h=>⟨h.1,h.2.2⟩⟩
def ovL (G:Gr) (w:Lw) (lab:Rf→BitVec 64) (r:Rct):BitVec 64:=andK (keysG G) lab r (w.ov r)
def stepL (G:Gr) (w:Lw) (lab:Rf→BitVec 64) (U:List Us) (s:BitVec 64):BitVec 64:=U.foldl (fun s x=>s &&& (ovL G w lab x.rect|||w.to x)) s
theorem stepL_snoc {G:Gr} {w:Lw} {lab:Rf→BitVec 64} {U:List Us} {x:Us} {s:BitVec 64}:stepL G w lab (U++ [x]) s=stepL G w lab U s &&& (ovL G w lab x.rect|||w.to x):=by
 unfold stepL;rw [List.foldl_append];rfl
theorem stepL_bit {G:Gr} {w:Lw} {lab:Rf→BitVec 64} {i:Nat}: ∀ {U:List Us} {s:BitVec 64},(stepL G w lab U s).getLsbD i=true↔s.getLsbD i=true∧ ∀ x∈U,(w.to x).getLsbD i=true∨((w.ov x.rect).getLsbD i=true∧ ∀ f∈keysG G,hasR x.rect f=true→(lab f).getLsbD i=true)
 | [],s=>by simp [stepL]
 |x::U,s=>by
  have h:stepL G w lab (x::U) s=stepL G w lab U (s &&& (ovL G w lab x.rect|||w.to x)):=rfl
  rw [h,stepL_bit,BitVec.getLsbD_and,BitVec.getLsbD_or,Bool.and_eq_true,Bool.or_eq_true,ovL,andK_bit]
  simp only [List.mem_cons,forall_eq_or_imp]
  constructor
  ·
   rintro ⟨⟨h1,h2⟩,h3⟩;exact ⟨h1,h2.symm,h3⟩
  ·
   rintro ⟨h1,h2,h3⟩;exact ⟨⟨h1,h2.symm⟩,h3⟩
theorem bits_ext {x y:BitVec 64} (h: ∀ i,x.getLsbD i=true↔y.getLsbD i=true):x=y:=
 BitVec.eq_of_getLsbD_eq fun i _=>Bool.eq_iff_iff.2 (h i)
theorem stepL_idem {G:Gr} {w:Lw} {lab:Rf→BitVec 64} {U:List Us} {s:BitVec 64}:stepL G w lab U (stepL G w lab U s)=stepL G w lab U s:=bits_ext fun i=>by
 rw [stepL_bit,stepL_bit]
 exact ⟨fun h=>h.1,fun h=>⟨h,h.2⟩⟩
def updL (lab:Rf→BitVec 64) (c:Rf) (s:BitVec 64):Rf→BitVec 64:=fun d=>if d=c then s else lab d
theorem updL_same {lab:Rf→BitVec 64} {c:Rf} {s:BitVec 64}:updL lab c s c=s:=if_pos rfl
theorem updL_other {lab:Rf→BitVec 64} {c d:Rf} {s:BitVec 64} (h:d≠c):updL lab c s d=lab d:=if_neg h
structure FlI (G:Gr) (w:Lw) (lab:Rf→BitVec 64) (todo:List Rf):Prop where
 up: ∀ i,∀ c∈keysG G,seesP G w i c→(lab c).getLsbD i=true
 st: ∀ c∈keysG G,c∉todo→stepL G w lab (usesG G c) (lab c)=lab c
 rd: ∀ c∈keysG G,∀ i,(lab c).getLsbD i=true→(w.rd c).getLsbD i=true
 nd:todo.Nodup
 sub: ∀ c∈todo,c∈keysG G
theorem FlI.start {G:Gr} (hG:GrOk G) (w:Lw):FlI G w w.rd (keysG G):=
 ⟨fun _ _ _ h=>h.out.1,fun c hc hn=>absurd hc hn,fun _ _ _ h=>h,hG.sort.nodup,fun _ h=>h⟩
theorem uses_nokey {G:Gr} {c:Rf} (h:c∉keysG G):usesG G c= []:=by
 have h1:lookG G c=none:=lookG_none.2 fun e he h2=>h (mem_keysG.2 ⟨e,he,h2⟩)
 rw [usesG,h1];rfl
theorem FlI.done {G:Gr} {w:Lw} {lab:Rf→BitVec 64} (h:FlI G w lab []) {c:Rf} (hc:c∈keysG G) (i:Nat):(lab c).getLsbD i=true↔seesP G w i c:=by
 refine ⟨fun hi=>⟨fun d=>d∈keysG G∧(lab d).getLsbD i=true,⟨hc,hi⟩,fun d hd=>⟨h.rd d hd.1 i hd.2,fun x hx=> ?_⟩⟩,h.up i c hc⟩
 have h1:=h.st d hd.1 (by simp)
 have h2:=hd.2
 rw [← h1,stepL_bit] at h2
 rcases h2.2 x hx with h3|⟨h3,h4⟩
 ·
  exact .inl h3
 ·
  exact .inr ⟨h3,fun f hf hh=>⟨hf,h4 f hf hh⟩⟩
theorem sees_other {G:Gr} {w:Lw} {i:Nat} {c:Rf} (h:c∉keysG G):seesP G w i c↔(w.rd c).getLsbD i=true:=by
 rw [seesP_iff,uses_nokey h]
 simp
theorem FlI.skip {G:Gr} {w:Lw} {lab:Rf→BitVec 64} {x:Rf} {todo:List Rf} (h:FlI G w lab (x::todo)) (he:stepL G w lab (usesG G x) (lab x)=lab x):FlI G w lab todo:=by
 refine ⟨h.up,fun c hc hn=> ?_,h.rd,(List.nodup_cons.1 h.nd).2,fun c hc=>h.sub c (List.mem_cons_of_mem _ hc)⟩
 by_cases e:c=x
 ·
  subst e;exact he
 ·
  exact h.st c hc fun hm=>by rcases List.mem_cons.1 hm with hm|hm;exact e hm;exact hn hm
theorem stepL_upd {G:Gr} {w:Lw} {lab:Rf→BitVec 64} {c x:Rf} {t s:BitVec 64} (hx: ∀ u∈usesG G c,hasR u.rect x=false):stepL G w (updL lab x t) (usesG G c) s=stepL G w lab (usesG G c) s:=bits_ext fun i=>by
 rw [stepL_bit,stepL_bit]
 refine and_congr_right fun _=>⟨fun h u hu=> ?_,fun h u hu=> ?_⟩
 all_goals
  rcases h u hu with h1|⟨h1,h2⟩
  ·
   exact .inl h1
  ·
   refine .inr ⟨h1,fun f hf hh=> ?_⟩
   have hne:f≠x:=fun e=>by subst e;rw [hx u hu] at hh;cases hh
   have h3:=h2 f hf hh
   first
    |rwa [updL_other hne] at h3
    |rwa [updL_other hne]
theorem not_user {G:Gr} (hG:GrOk G) {c x:Rf} (hc:c∈keysG G) (hx:x∈keysG G) (h:c∉usersG G (oneA x.col x.row)): ∀ u∈usesG G c,hasR u.rect x=false:=fun u hu=>by
 rw [← Bool.not_eq_true]
 intro hh
 refine h ((users_iff hG (key_valid hG hx)).2 ⟨hc,?_⟩)
 unfold touchesU
 rw [List.any_eq_true]
 exact ⟨u,hu,by rw [touch_of hG hu hx];exact hh⟩
theorem FlI.turn {G:Gr} (hG:GrOk G) {w:Lw} {lab:Rf→BitVec 64} {x:Rf} {todo todo' :List Rf} (h:FlI G w lab (x::todo)) (hnd:todo'.Nodup) (hsub: ∀ c∈todo',c∈keysG G) (hold: ∀ c∈todo,c∈todo') (hall: ∀ c∈usersG G (oneA x.col x.row),c∈todo'):
  FlI G w (updL lab x (stepL G w lab (usesG G x) (lab x))) todo' :=by
 have hx:x∈keysG G:=h.sub x List.mem_cons_self
 refine ⟨fun i c hc hs=> ?_,fun c hc hn=> ?_,fun c hc i hi=> ?_,hnd,hsub⟩
 ·
  by_cases e:c=x
  ·
   subst e
   rw [updL_same,stepL_bit]
   refine ⟨h.up i c hc hs,fun u hu=> ?_⟩
   rcases hs.out.2 u hu with h1|⟨h1,h2⟩
   ·
    exact .inl h1
   ·
    exact .inr ⟨h1,fun f hf hh=>h.up i f hf (h2 f hf hh)⟩
  ·
   rw [updL_other e];exact h.up i c hc hs
 ·
  rw [stepL_upd (not_user hG hc hx fun hm=>hn (hall c hm))]
  by_cases e:c=x
  ·
   subst e
   rw [updL_same,stepL_idem]
  ·
   rw [updL_other e]
   exact h.st c hc fun hm=>by rcases List.mem_cons.1 hm with hm|hm;exact e hm;exact hn (hold c hm)
 ·
  by_cases e:c=x
  ·
   subst e
   rw [updL_same,stepL_bit] at hi
   exact h.rd c hc i hi.1
  ·
   rw [updL_other e] at hi
   exact h.rd c hc i hi
end Go.SL
namespace Go.SL
open Go Go.RowKit
section
variable {P:Program} {n:Fr} {w0:World} {Q:Post} {s sb:Slots} {H:List Blk} {l:Nat}
variable {B:Exit→Act→World→Prop}
theorem wt_rangeC {α:Type} {id:Nat} {g:Operand} {ps:List Tmp} {assign body:Code} {m:Nat} {f:FuncId} [hcf:Callable P f] {caps:List Value} {us:List α} {encs:α→List Value} {Hc HU0:List Blk} (hg:ev s g=some (.func (.func f) #[] caps.toArray))
  (hps: ∀ u,(encs u).length=ps.length) (hpn:ps.all (fun t=>Nat.blt t m)=true) (hseq:Seqs P f caps w0 Hc us encs) (U:List α→List Blk→Prop) (X:List Blk→Prop) (hH:MSub (HU0++Hc) H) (h0:U [] HU0)
  (hround: ∀ l pre u post,us=pre++u::post→ ∀ HU,U pre HU→ ∀ F F',WR P ⟨m,[]⟩ w0 l assign (assignQ fun s1 H1=> ∃ HU1,MSub (HU1++(Hc++F)) H1∧WR P ⟨m,[]⟩ w0 l body (roundQ U X (pre++ [u]) (Hc++F')) s1 (HU1++(Hc++F'))) ((ps.zip (encs u)).reverse++s) (HU++(Hc++F)))
  (hdone: ∀ D HU,U us HU→endB ⟨m,[mark D]⟩ w0 B .normal s (dObj D::(HU++Hc)))
  (hexit: ∀ D HU,X HU→endB ⟨m,[mark D]⟩ w0 B .ret s (dObj D::(HU++Hc))):
  WT P ⟨m,[]⟩ w0 (.block id (.rangeFunc g ps.toArray assign body)) B s H:=by
 intro a w hs hm
 have hm0:Mem w0 w (HU0++Hc):=hH.use hm
 refine wpIn_block (wpIn_rangeFunc fun fn _=> ?_)
 obtain ⟨rec,hrec⟩: ∃ rec:LoopState→Option Code→Loop,rec=fun st pe=>{ state:=st,pending:=pe,fn,tmps:=a.tmps,params:=ps.toArray,assign,body,defers:=w.heap.size }:=⟨_,rfl⟩
 obtain ⟨W1,hW1⟩: ∃ W1,(w.alloc (.deferred (some []))).alloc (.loop (rec .ready none))=W1:=⟨_,rfl⟩
 have hm1:Mem w0 W1 (.obj (w.heap.size+1) (.loop (rec .ready none))::dObj w.heap.size::(HU0++Hc)):=by
  have h1:Mem w0 (w.alloc (.deferred (some []))) (dObj w.heap.size::(HU0++Hc)):=hm0.new (World.grownBy_alloc w _ none) (World.alloc_heap_new w _) fun k hk=>by
   simp only [dObj,Blk.key,Option.some.injEq] at hk;omega
  rw [← hW1]
  refine h1.new (World.grownBy_alloc _ _ none) ?_ fun k hk=> ?_
  ·
   have:=World.alloc_heap_new (w.alloc (.deferred (some []))) (.loop (rec .ready none))
   rwa [World.size_alloc] at this
  ·
   simp only [Blk.key,Option.some.injEq] at hk
   rw [World.size_alloc]
   omega
 have hcall:=hseq (w.heap.size+1) (fun pre H1=> ∃ HU,U pre HU∧H1= .obj (w.heap.size+1) (.loop (rec .ready none))::dObj w.heap.size::HU)
  (fun _ H1=> ∃ HU,X HU∧H1= .obj (w.heap.size+1) (.loop (rec .done (some .ret)))::dObj w.heap.size::HU)
  (.obj (w.heap.size+1) (.loop (rec .ready none))::dObj w.heap.size::HU0) ?_ ⟨HU0,h0,rfl⟩ W1 (by simpa using hm1)
 rotate_left
 ·
  -- one round
  rintro pre u post hus H1 F ⟨HU,hU,rfl⟩ w1 hmr
  have hl:w1.heap[w.heap.size+1]? =some (.loop (rec .ready none)):=(hmr.on _ List.mem_cons_self).1
  have hy:=run_yield (P:=P) (args:=(encs u).toArray) hl (by rw [hrec];simp [hps u])
  rw [hrec] at hy
  have hzip:(ps.toArray.zip (encs u).toArray).foldl (fun (tmps:Array Value) (x:Tmp × Value)=>tmps.setIfInBounds x.1 x.2) a.tmps=(ps.zip (encs u)).foldl (fun (tmps:Array Value) (x:Tmp × Value)=>tmps.setIfInBounds x.1 x.2) a.tmps:=by
   rw [← Array.foldl_toList];simp
  have hpar:=foldl_params m ps (encs u) a.tmps s hs.size hs.has hpn
  refine ⟨fn,_,assign,body,hy,roundIn_of_wpIn trivial ?_⟩
  have hin:(fen none).inRound (w.heap.size+1)=fen (some (w.heap.size+1)):=rfl
  rw [hin]
  have hperm: ∀ (o:Blk) (HU:List Blk),((o::dObj w.heap.size::HU)++(Hc++F)).Perm (HU++(Hc++(o::dObj w.heap.size::F))):=fun o HU=>by
   have h1:((o::dObj w.heap.size::HU)++(Hc++F))= [o,dObj w.heap.size]++((HU++Hc)++F):=by simp
   have h2:(HU++(Hc++(o::dObj w.heap.size::F)))=(HU++Hc)++([o,dObj w.heap.size]++F):=by simp
   have h3:=(List.perm_append_comm (l₁:= [o,dObj w.heap.size]) (l₂:=HU++Hc)).append_right F
   rw [List.append_assoc,List.append_assoc (HU++Hc)] at h3
   rw [h1,h2]
   exact h3
  have hst:St ⟨m,[]⟩ ((ps.zip (encs u)).reverse++s) { tmps:=(ps.toArray.zip (encs u).toArray).foldl (fun (tmps:Array Value) (x:Tmp × Value)=>tmps.setIfInBounds x.1 x.2) a.tmps,defers:= [] }:=by
   rw [hzip]
   exact ⟨hpar.1,rfl,hpar.2⟩
  refine wpIn_mono (hround (w.heap.size+1) pre u post hus HU hU (.obj (w.heap.size+1) (.loop (rec .ready none))::dObj w.heap.size::F) (.obj (w.heap.size+1) (.loop (rec .busy none))::dObj w.heap.size::F) _ w1 hst (hmr.perm (hperm _ _))) ?_
  rintro e a1 w2 ⟨s1,H1,hs1,hm2,rfl,HU1,hsub,hbody⟩
  have hm3:=(hsub.use hm2).perm (hperm _ _).symm
  have hl2:w2.heap[w.heap.size+1]? =some (.loop (rec .ready none)):=(hm3.on _ List.mem_cons_self).1
  have turn: ∀ (w2:World) (st:LoopState) (pe:Option Code) (HU1:List Blk) (o' :Obj),Mem w0 w2 ((.obj (w.heap.size+1) (.loop (rec st pe))::dObj w.heap.size::HU1)++(Hc++F))→Mem w0 (w2.putObj (w.heap.size+1) o') ((.obj (w.heap.size+1) o' ::dObj w.heap.size::HU1)++(Hc++F)):=by
   intro w2 st pe HU1 o' hm3
   have hl2:w2.heap[w.heap.size+1]? =some (.loop (rec st pe)):=(hm3.on _ List.mem_cons_self).1
   exact Mem.upd (b:= .obj (w.heap.size+1) (.loop (rec st pe))) (b' := .obj (w.heap.size+1) o') hm3 (grownBy_putObj' w2 _ _) (World.putObj_heap_same (Array.getElem?_eq_some_iff.1 hl2).1) fun k hk=> .inl hk
  refine ⟨_,run_beginRound hl2 (by rw [hrec]),?_⟩
  have hb:=turn w2 _ _ HU1 (.loop { rec .ready none with state:= .busy }) hm3
  have hbusy:({ rec .ready none with state:= .busy }:Loop)=rec .busy none:=by rw [hrec]
  rw [hbusy] at hb ⊢
  refine wpIn_mono (hbody a1 _ hs1 (hb.perm (hperm _ _))) ?_
  rintro e a3 w3 ⟨s3,H3,hs3,hm4,hq⟩
  cases e with
  |normal=>
   obtain ⟨HU2,hsub2,hU2⟩:=hq
   have hm5:=(hsub2.use hm4).perm (hperm _ _).symm
   have hl5:w3.heap[w.heap.size+1]? =some (.loop (rec .busy none)):=(hm5.on _ List.mem_cons_self).1
   refine ⟨_,_,run_endRound none hl5,true,_,rfl,turn w3 _ _ HU2 _ hm5,?_⟩
   refine ⟨HU2,hU2,?_⟩
   rw [hrec]
   rfl
  |ret=>
   obtain ⟨HU2,hsub2,hX⟩:=hq
   have hm5:=(hsub2.use hm4).perm (hperm _ _).symm
   have hl5:w3.heap[w.heap.size+1]? =some (.loop (rec .busy none)):=(hm5.on _ List.mem_cons_self).1
   refine ⟨_,_,run_endRound (some .ret) hl5,false,_,rfl,turn w3 _ _ HU2 _ hm5,?_⟩
   refine ⟨HU2,hX,?_⟩
   rw [hrec]
   rfl
  |exit id=>exact hq.elim
  |goto t=>exact hq.elim
  |panic c=>exact hq.elim
  |outgrown=>exact hq.elim
 have hev:=hs.eval g _ hg
 refine ⟨w.heap.size+1,[mark w.heap.size],W1,{ target:= .fn (.func f) caps.toArray,args:= #[.func (.yield (w.heap.size+1)) #[] #[]] },W1,f,#[.func (.yield (w.heap.size+1)) #[] #[]]++caps.toArray,W1,?_,?_,fun _ _=>trivial,?_,fen_depth none,?_⟩
 ·
  rw [← hW1,hrec]
  exact run_enterLoop_outer _ _ _ _ _
 ·
  simp only [resolve,hev]
  simp [go_sem]
 ·
  simp [invoke,hcf.out]
 ·
  have harr:(#[.func (.yield (w.heap.size+1)) #[] #[]]++caps.toArray:Array Value)=(.func (.yield (w.heap.size+1)) #[] #[]::caps).toArray:=by simp
  rw [harr]
  refine CallsIn.mono (calls_fen (r:=none) hcall) ?_
  rintro e w2 ⟨v,H',rfl,hm2,H1,hI,hsub⟩
  have hm3:=hsub.use hm2
  have fin: ∀ (st:LoopState) (pe:Option Code) (HU:List Blk),st≠ .busy→Mem w0 w2 ((.obj (w.heap.size+1) (.loop (rec st pe))::dObj w.heap.size::HU)++Hc)→
    ∃ w4,(Instr.endLoop (w.heap.size+1)).run P w2= .ok pe w4∧Mem w0 w4 (dObj w.heap.size::(HU++Hc)):=by
   intro st pe HU hst hm4
   have hl:w2.heap[w.heap.size+1]? =some (.loop (rec st pe)):=(hm4.on _ List.mem_cons_self).1
   have hr:=run_endLoop (P:=P) hl (by rw [hrec];exact hst)
   have hp:(rec st pe).pending=pe:=by rw [hrec]
   rw [hp] at hr
   refine ⟨_,hr,?_⟩
   exact (Mem.upd (b:= .obj (w.heap.size+1) (.loop (rec st pe))) (b' := .obj (w.heap.size+1) (.loop { rec st pe with state:= .exhausted,pending:=pe })) hm4 (grownBy_putObj' w2 _ _) (World.putObj_heap_same (Array.getElem?_eq_some_iff.1 hl).1) fun k hk=> .inl hk).tail
  have hst:St ⟨m,[mark w.heap.size]⟩ s { a with defers:= [mark w.heap.size]++a.defers }:=⟨hs.size,by rw [hs.defers];rfl,hs.has⟩
  rcases hI with ⟨HU,hU,rfl⟩|⟨pre,HU,hX,rfl⟩
  ·
   obtain ⟨w4,hr,hm4⟩:=fin _ _ HU (by decide) hm3
   exact ⟨none,w4,hr,hdone _ HU hU _ w4 hst hm4⟩
  ·
   obtain ⟨w4,hr,hm4⟩:=fin _ _ HU (by decide) hm3
   exact ⟨some .ret,w4,hr,wpIn_ret (hexit _ HU hX _ w4 hst hm4)⟩
theorem perm_in (A X C:List Blk):(A++(C++X)).Perm ((A++X)++C):=by
 rw [List.append_assoc]
 exact List.Perm.append_left A List.perm_append_comm
theorem Seqs.frame {α:Type} {f:FuncId} {caps:List Value} {us:List α} {encs:α→List Value} {Hc:List Blk} (h:Seqs P f caps w0 Hc us encs) (X:List Blk):Seqs P f caps w0 (Hc++X) us encs:=by
 intro l I J H0 hy h0
 have h1:=h l (fun pre H1=> ∃ H2,H1=H2++X∧I pre H2) (fun pre H1=> ∃ H2,H1=H2++X∧J pre H2) (H0++X) (by
  rintro pre u post hus H1 F ⟨H2,rfl,hI⟩ w hm
  have hp: ∀ A:List Blk,((A++X)++(Hc++F)).Perm (A++((Hc++X)++F)):=fun A=>by
   have:=(perm_in A X Hc).symm.append_right F
   simpa using this
  obtain ⟨fn,tmps,assign,body,hy1,hy2⟩:=hy pre u post hus H2 F hI w (hm.perm (hp H2))
  refine ⟨fn,tmps,assign,body,hy1,hy2.mono ?_⟩
  rintro e w' ⟨b,H3,he,hm3,hb⟩
  refine ⟨b,H3++X,he,hm3.perm (hp H3).symm,?_⟩
  cases b
  ·
   exact ⟨H3,rfl,hb⟩
  ·
   exact ⟨H3,rfl,hb⟩) ⟨H0,rfl,h0⟩
 refine (FnIn.msub h1 (MSub.of_perm (perm_in H0 X Hc))).mono ?_
 rintro v H' ⟨H1,hI,hsub⟩
 have hq: ∀ H2:List Blk,H1=H2++X→MSub (H2++(Hc++X)) H' :=fun H2 e=>by
  subst e
  exact MSub.trans (MSub.of_perm (perm_in H2 X Hc).symm) hsub
 rcases hI with ⟨H2,e,hI⟩|⟨pre,H2,e,hJ⟩
 ·
  exact ⟨H2,.inl hI,hq H2 e⟩
 ·
  exact ⟨H2,.inr ⟨pre,hJ⟩,hq H2 e⟩
end
end Go.SL
namespace Go.SL
open Go Go.Proofs
attribute [local irreducible] W WL WQ WG WA WX WLI WR WT WC WE VOp RW thn blk cutP scp retP retPP endB FnAt FnIn FnP ceP
theorem usesG_len2 {G:Gr} (hG:GrOk G) (d:Rf):(usesG G d).length≤1000:=Nat.le_trans (usesG_len hG d) (by decide)
structure Rdr (gg:Nat) (G:Gr) (B:List Blk) (w0:World):Prop where
 g:GrOk G
 l:G.length≤900
 ur: ∀ r H,MSub B H→FnIn Tryz.prog 185 [.pointer (some ⟨gg,0,none⟩),.agg (encR r).toArray] w0 H fun v H' => ∃ A cap,v=sl A (usersG G r).length cap∧H' = .own A 51 2 (usersG G r).length cap ((usersG G r).flatMap encF)::H
 fm: ∀ H,MSub B H→FnIn Tryz.prog 165 [.pointer (some ⟨gg,0,none⟩)] w0 H fun v H' => ∃ A cap,v=sl A (keysG G).length cap∧H' = .own A 51 2 (keysG G).length cap ((keysG G).flatMap encF)::H
 us: ∀ d H,MSub B H→FnIn Tryz.prog 117 [.pointer (some ⟨gg,0,none⟩),keyF d] w0 H fun v H' => ∃ A cap,v=sl A (usesG G d).length cap∧H' = .own A 200 6 (usesG G d).length cap ((usesG G d).flatMap encU)::H
section
variable {gg:Nat} {G:Gr} {B F:List Blk} {w0:World} (h:Rdr gg G B w0) (hB:MSub B F)
include h hB
end
theorem GOk.rdr {R:List Blk} {E:List En} {clock:Nat} {G:Gr} (h:GOk R E clock G) (hG:GrOk G) (hl:G.length≤900) (gg gm:Nat) (w0:World):Rdr gg G (gB gg gm (E.map En.m) clock++R) w0:=
 ⟨hG,hl,fun r _ hs=>h.users_any gg gm hs w0 hl hG r,fun _ hs=>h.formulas_any gg gm hs w0 hl,fun d _ hs=>h.uses_any gg gm hs w0 d⟩
end Go.SL
namespace Go.SL
open Go Go.Proofs
attribute [local irreducible] W WL WQ WG WA WX WLI WR WT WC WE VOp RW thn blk cutP scp retP retPP endB FnAt FnIn FnP ceP bodyB assignQ roundQ
theorem readers_in (a:Rf) (L:List Rl) (gb:Nat) (gv rv nv cv lm rm tm:Value) (w0:World) (F:List Blk) (hl: ∀ w',Mem w0 w' F→Reads w' rv L.length (L.flatMap encRl)):
  FnIn Tryz.prog 115 [.pointer (some ⟨gb,0,none⟩),keyF a] w0 (.box gb 195 [gv,rv,nv,cv,lm,rm,tm]::F) fun v H' =>v=vS (atE a L).1.1∧H' = .box gb 195 [gv,rv,nv,cv,lm,rm,tm]::F:=by
 refine fn_in Tryz.func115 rfl Tryz.ntmps115 rfl ?_
 have h1:=fun (w' :World) (H:List Blk) (hs:MSub F H) (hm:Mem w0 w' H)=>At19_at a L rv w' (hl w' (hs.use hm))
 generalize (atE a L).2=e at h1
 generalize (atE a L).1.1=s1 at h1 ⊢
 generalize (atE a L).1.2.1=s2 at h1
 generalize (atE a L).1.2.2=s3 at h1
 repeat' (first|refine sT ?_|refine sS ?_|refine sM fun _=> ?_|(refine sC ?_ ?_<;>intro hb<;>try omega)|fail)
 rename_i g3
 refine w_drawE (id:=1) [5,9,10] [.box g3 51 (encF a),.box gb 195 [gv,rv,nv,cv,lm,rm,tm]] 12 rfl rfl mS ?_
 repeat' (first|((with_reducible apply we_v (i:=0));(iterate 4 exact rfl);decide+kernel;decide+kernel;decide+kernel;(exact vC))|((with_reducible apply we_v (i:=1));(iterate 4 exact rfl);decide+kernel;decide+kernel;decide+kernel;(exact vC))|((with_reducible apply we_v (i:=2));(iterate 4 exact rfl);decide+kernel;decide+kernel;decide+kernel;(exact vC))|((with_reducible apply we_v (i:=3));(iterate 4 exact rfl);decide+kernel;decide+kernel;decide+kernel;(exact vC))|((with_reducible apply we_v (i:=4));(iterate 4 exact rfl);decide+kernel;decide+kernel;decide+kernel;(exact vC))|((with_reducible apply we_v (i:=6));(iterate 4 exact rfl);decide+kernel;decide+kernel;decide+kernel;(exact vC))|((with_reducible apply we_v (i:=7));(iterate 4 exact rfl);decide+kernel;decide+kernel;decide+kernel;(exact vC))|((with_reducible apply we_v (i:=8));(iterate 4 exact rfl);decide+kernel;decide+kernel;decide+kernel;(exact vC))|((with_reducible apply we_v (i:=11));(iterate 4 exact rfl);decide+kernel;decide+kernel;decide+kernel;((with_reducible apply v_assign);exact rfl))|((with_reducible apply we_two (i:=5) (j:=9));(iterate 6 exact rfl);decide+kernel)|((with_reducible apply we_one (i:=5));(iterate 3 exact rfl);decide+kernel)|((with_reducible apply we_one (i:=9));(iterate 3 exact rfl);decide+kernel)|((with_reducible apply we_one (i:=10));(iterate 3 exact rfl);decide+kernel)|((with_reducible apply we_done);decide+kernel)|((with_reducible apply ce_n);(focus (exact mS;done)))|((with_reducible apply wl_callp (f:=183));exact rfl;exact rfl;(intro w' hm;exact h1 w' _ mS hm))|refine sT ?_|refine sS ?_|refine sM fun _=> ?_|(refine sC ?_ ?_<;>intro hb<;>try omega)|fail)
 all_goals exact ret1 eIO rfl rfl (H' := .box gb 195 [gv,rv,nv,cv,lm,rm,tm]::F) mS ⟨rfl,rfl⟩
set_option maxHeartbeats 8000000 in
theorem within_seq (r:Rct) (K:List Rf) (hK:K.length≤1000000) (gw gr gb:Nat) (gv rv nv lm rm tm:Value) (Ac:Option Nat) (cap:Nat) (w0:World):
  Seqs Tryz.prog 265 [.pointer (some ⟨gw,0,none⟩),.pointer (some ⟨gr,0,none⟩)] w0
   [.box gw 187 [.pointer (some ⟨gb,0,none⟩)],.box gr 33 (encR r),.box gb 195 [gv,rv,nv,sl Ac K.length cap,lm,rm,tm],.own Ac 51 2 K.length cap (K.flatMap encF)] (K.filter fun c=>hasR r c) (fun c=> [keyF c]):=by
 intro l I J H0 hy h0
 refine FnIn.msub (H' := [.box gw 187 [.pointer (some ⟨gb,0,none⟩)],.box gr 33 (encR r),.box gb 195 [gv,rv,nv,sl Ac K.length cap,lm,rm,tm],.own Ac 51 2 K.length cap (K.flatMap encF)]++H0) ?_ (MSub.appC H0 [] _)
 refine fn_in Tryz.func265 rfl Tryz.ntmps265 rfl ?_
 repeat' (first|refine sT ?_|refine sS ?_|refine sM fun _=> ?_|(refine sC ?_ ?_<;>intro hb<;>try omega)|fail)
 refine w_loopK [0,1,2,9,10] rfl (fun y:Nat × List Rf × List Blk=> [(11,.int .i64 (y.1:Int))]) (fun y=> [.box gw 187 [.pointer (some ⟨gb,0,none⟩)],.box gr 33 (encR r),.box gb 195 [gv,rv,nv,sl Ac K.length cap,lm,rm,tm],.own Ac 51 2 K.length cap (K.flatMap encF)]++y.2.2) (fun y=>y.1≤K.length∧(K.filter fun c=>hasR r c)=y.2.1++(K.drop y.1).filter (fun c=>hasR r c)∧I y.2.1 y.2.2) (fun y=>K.length - y.1) (0,[],H0) ⟨Nat.zero_le _,rfl,h0⟩ sB (by exact MSub.refl _) ?_
 rintro ⟨i,pre,H1⟩ ⟨hi,hus,hI⟩
 dsimp only at hi hus hI ⊢
 simp only [List.cons_append,List.nil_append]
 by_cases hlt:i<K.length
 ·
  refine w_some (A:=Ac) (.tl (.tl (.tl .hd))) (by omega) fun gk hA=> ?_
  subst hA
  have hread:=refF hlt
  rw [List.drop_eq_getElem_cons hlt,List.filter_cons] at hus
  generalize K[i]=c at hus hread
  have hN:=fun w=>Has_at r c w
  generalize hasR r c=c2 at hN hus
  repeat' (first|((with_reducible apply w_regionI (id:=3)))|((with_reducible apply wl_v);exact rfl;(with_reducible apply v_indexAddr (j:=i));exact rfl;exact rfl;exact hlt)|((with_reducible apply wl_v);exact rfl;(with_reducible apply v_loads_own);exact rfl;exact pK;exact hread;exact rfl)|((with_reducible apply wli_gyes);exact rfl;exact rfl)|((with_reducible apply wli_gno);(iterate 4 exact rfl))|((with_reducible apply wli_gsplit)<;>first|exact rfl|(intro hb;replace hb:=Tidy.out hb;try (exfalso;omega)))|((with_reducible apply wli_callp (f:=71));(iterate 3 exact rfl);(intro w' hm;exact hN w'))|refine sT ?_|refine sS ?_|refine sI ?_|refine sN ?_|refine sM fun _=> ?_|(refine sC ?_ ?_<;>intro hb<;>try omega)|fail)
  ·
   have hus2:(K.filter fun c=>hasR r c)=pre++c::(K.drop (i+1)).filter (fun c=>hasR r c):=by rw [hus,if_pos hb]
   rename_i g5
   (with_reducible apply wli_yieldB)
   ·
    exact rfl
   ·
    exact rfl
   ·
    exact rfl
   ·
    exact MSub.appC [.box g5 51 (encF c)] [.box gw 187 [.pointer (some ⟨gb,0,none⟩)],.box gr 33 (encR r),.box gb 195 [gv,rv,nv,sl (some gk) K.length cap,lm,rm,tm],.own (some gk) 51 2 K.length cap (K.flatMap encF)] H1
   ·
    exact fun w hm=>hy pre c _ hus2 H1 _ hI w hm
   intro bb H3 hq
   cases bb
   ·
    repeat' (first|((with_reducible apply wli_gyes);exact rfl;exact rfl)|((with_reducible apply wli_gno);(iterate 4 exact rfl))|refine sT ?_|refine sS ?_|refine sI ?_|refine sM fun _=> ?_|(refine sC ?_ ?_<;>intro hb<;>try omega)|fail)
    exact ret0 eIO rfl (MSub.appE [.box g5 51 (encF c)] [.box gw 187 [.pointer (some ⟨gb,0,none⟩)],.box gr 33 (encR r),.box gb 195 [gv,rv,nv,sl (some gk) K.length cap,lm,rm,tm],.own (some gk) 51 2 K.length cap (K.flatMap encF)] H3) ⟨H3,.inr ⟨_,hq⟩,MSub.refl _⟩
   ·
    repeat' (first|((with_reducible apply wli_gyes);exact rfl;exact rfl)|((with_reducible apply wli_gno);(iterate 4 exact rfl))|refine sT ?_|refine sS ?_|refine sI ?_|refine sN ?_|refine sM fun _=> ?_|(refine sC ?_ ?_<;>intro hb<;>try omega)|fail)
    refine ⟨(i+1,_,H3),⟨hlt,hus2.trans (by rw [List.append_assoc];rfl),hq⟩,(by dsimp only;omega),sB,sB,?_⟩
    dsimp only
    exact MSub.trans (MSub.drop .hd (MSub.refl _)) (MSub.appD [.box g5 51 (encF c)] [.box gw 187 [.pointer (some ⟨gb,0,none⟩)],.box gr 33 (encR r),.box gb 195 [gv,rv,nv,sl (some gk) K.length cap,lm,rm,tm],.own (some gk) 51 2 K.length cap (K.flatMap encF)] H3)
  all_goals
   refine ⟨(i+1,pre,H1),⟨hlt,by rw [hus,if_neg (by rw [hb];decide)],hI⟩,(by dsimp only;omega),sB,sB,?_⟩
   exact MSub.drop .hd (MSub.refl _)
 ·
  have e:i=K.length:=by omega
  subst e
  rw [List.drop_length,List.filter_nil,List.append_nil] at hus
  repeat' (first|refine sT ?_|refine sS ?_|refine sM fun _=> ?_|(refine sC ?_ ?_<;>intro hb<;>try omega)|fail)
  exact ret0 eIO rfl (.refl _) ⟨H1,.inl (hus ▸ hI),MSub.appS [.box gw 187 [.pointer (some ⟨gb,0,none⟩)],.box gr 33 (encR r),.box gb 195 [gv,rv,nv,sl Ac K.length cap,lm,rm,tm],.own Ac 51 2 K.length cap (K.flatMap encF)] H1⟩
end Go.SL
