/-
  Lemmas and walks, put together: Uk.
-/
import Derived.Test.YtoanpdoacdpgeaaGreatDoorKn50
set_option linter.unusedSimpArgs false
set_option linter.unusedVariables false
set_option maxRecDepth 20000
namespace Go.SL
open Go Go.Proofs
attribute [local irreducible] W WL WQ WG WA WX WLI WR WT WC WE VOp RW thn blk bE scp ba bo bL aP FnIn FnP ceP
theorem CL (x:Ox):(bi x).length=13:=rfl
set_option maxHeartbeats 16000000 in
theorem uE (b:Bk) (x:Bv) (L:List Ox) (lv:Value) (w:World) (h:BRd w b x) (hl:Reads w lv L.length (L.flatMap bi)) (hW:Words w):ay Tryz.prog 3 [.agg (aU b x).toArray,lv] w (.bool true):=by
  obtain ⟨Al,cl,rfl,hl1,hl2,hl3⟩:=hl
  refine aq Tryz.func3 rfl Tryz.ntmps3 rfl ?_
  have hS1:=fun (w' :World) (H:List Blk) (hm:Mem w w' H)=>CZ b x w' (h.of_w0 hm)
  have haw:=fun (w' :World) (H:List Blk) (hm:Mem w w' H)=>CV w' (hW.next hm)
  cases hs1:sq b with
  |false=>
    rw [hs1] at hS1
    repeat' (first|(apply aa (d:=16);exact rfl;exact rfl;(intro w' hm;exact hS1 w' _ hm))|refine sT ?_|refine sS ?_|refine sM fun _=> ?_|(refine sC ?_ ?_<;>intro hb<;>try omega)|exact cT|fail)
    all_goals first|(exfalso;omega)|((refine rT1 ?_);rfl)|trace_state
  |true=>
  rw [hs1] at hS1
  by_cases hL25:25<L.length
  · repeat' (first|(apply aa (d:=16);exact rfl;exact rfl;(intro w' hm;exact hS1 w' _ hm))|refine sT ?_|refine sS ?_|refine sM fun _=> ?_|(refine sC ?_ ?_<;>intro hb<;>try omega)|exact cT|fail)
    all_goals first|(exfalso;omega)|((refine rT1 ?_);rfl)|trace_state
  have hlen:LenB b 70:=by
    have:=EH hs1
    exact ⟨by omega,by omega,by omega,by omega,by omega⟩
  have hrd0: ∀ (w' :World) (H:List Blk),Mem w w' H→MSub [] H→BRd w' b x:=fun w' H hm _=>h.of_w0 hm
  repeat' (first|(apply aa (d:=16);exact rfl;exact rfl;(intro w' hm;exact hS1 w' _ hm))|refine sT ?_|refine sS ?_|refine sM fun _=> ?_|(refine sC ?_ ?_<;>intro hb<;>try omega)|exact cT|fail)
  all_goals try (exfalso;omega)
  clear h hS1 hs1
  rename_i g2
  refine ax [1,2] rfl (fun y:Nat × Bk × Bv × List Blk=> [(5,.int .i64 (y.1:Int))]) (fun y=> .box g2 28 (aU y.2.1 y.2.2.1)::y.2.2.2) (fun y=>y.1≤L.length∧LenB y.2.1 (70+y.1)∧ ∀ (w' :World) (H:List Blk),Mem w w' H→MSub y.2.2.2 H→BRd w' y.2.1 y.2.2.1) (fun y=>L.length - y.1) (0,b,x,[]) ⟨Ns _,hlen,hrd0⟩ sB mS ?_
  clear hlen hrd0
  rintro ⟨i,b,x,T⟩ ⟨hi,hlen,hrd⟩
  dsimp only at hi hlen hrd ⊢
  by_cases hlt:i<L.length
  · obtain ⟨gl,ol,rfl,hrl⟩:=hl3 (by omega)
    have he:=hrl.elem CL i hlt
    generalize L[i]=o at he
    have hin:Ro w gl (ol+i*13+6) [.string o.input]:=(he.drop (k:=6)).take (k:=1)
    have hsm:=hlen.small (by omega)
    have hnx:=hlen.next o
    by_cases h300:300<o.input.size
    · repeat' (first|(apply ak (d:=31);exact rfl;apply aj (j:=i);exact rfl;exact rfl;exact hlt)|(apply ak (d:=33);exact rfl;apply dh;exact rfl;exact hin)|refine sT ?_|refine sS ?_|refine sM fun _=> ?_|(refine sC ?_ ?_<;>intro hb<;>try omega)|exact cT|fail)
      all_goals first|(exfalso;omega)|((refine rT1 ?_);rfl)|trace_state
    have hcp:=fun (w' :World) (H:List Blk) (hm:Mem w w' H) (hs:MSub T H)=>qQ b x w' (hrd w' H hm hs) hsm
    have hA1:=fun (a:Bo) (w' :World) (H:List Blk) (hm:Mem w w' H) (hr:BRd w' b a.v)=>AY b a.v o w' hr (hW.next hm) hsm
    have hA2:=fun (w' :World) (H:List Blk) (hm:Mem w w' H) (hs:MSub T H)=>uU b x o w' (hrd w' H hm hs) hsm
    have hE2:=fun (a:Bo) (w' :World) (H:List Blk) (hm:Mem w w' H) (hr:BRd w' b a.v) (hs:MSub T H)=>nr b hr (hrd w' H hm hs)
    generalize (apE b o).2.1=cd at hA1 hA2
    generalize (apE b o).2.2.1=pl at hA1 hA2
    generalize (apE b o).2.2.2=er at hA1 hA2
    generalize (apE b o).1=P at hA1 hA2 hnx
    have hE1:=fun (a a' :Bo) (w' :World) (H:List Blk) (hm:Mem w w' H) (hr:BRd w' P a.v) (hr' :BRd w' P a'.v)=>nr P hr hr'
    repeat' (first|(apply ak (d:=31);exact rfl;apply aj (j:=i);exact rfl;exact rfl;exact hlt)|(apply ak (d:=33);exact rfl;apply dh;exact rfl;exact hin)|(apply aC (f:=10);exact rfl;exact rfl;(intro w' hm;exact hcp w' _ hm mS);rintro _ _ ⟨a1,rfl,rfl⟩;unfold aM)|refine sT ?_|refine sS ?_|refine sM fun _=> ?_|(refine sC ?_ ?_<;>intro hb<;>try omega)|exact cT|fail)
    all_goals try (exfalso;omega)
    rename_i g6
    (refine nz (id:=9) (ι:=Nat × Bo) (fun z=> [(1,.slice (some ⟨gl,ol,none⟩) L.length cl),(2,.pointer (some ⟨g2,0,none⟩)),(5,.int .i64 (i:Int)),(6,.pointer (some ⟨g6,0,none⟩)),(7,.pointer (some ⟨z.1,0,none⟩)),(8,.int .u8 cd),(9,.int .i64 pl),(10,.int .i64 er)]) (fun z=> .box z.1 28 (aU P z.2.v)::(aM P z.2++(.box g6 28 (aU b a1.v)::(aM b a1++ .box g2 28 (aU b x)::T)))) (fun _=>True) ?_ ?_)
    · refine oh (id:=9) [5,11,12] [.box g6 28 (aU b a1.v)] 16 rfl rfl mS ?_
      repeat' (first|(apply cF (i:=0);(iterate 4 exact rfl);decide+kernel;decide+kernel;decide+kernel;(exact vC))|(apply cF (i:=1);(iterate 4 exact rfl);decide+kernel;decide+kernel;decide+kernel;(exact vC))|(apply cF (i:=2);(iterate 4 exact rfl);decide+kernel;decide+kernel;decide+kernel;(exact vC))|(apply cF (i:=6);(iterate 4 exact rfl);decide+kernel;decide+kernel;decide+kernel;(exact vC))|(apply cF (i:=7);(iterate 4 exact rfl);decide+kernel;decide+kernel;decide+kernel;(exact vC))|(apply cF (i:=8);(iterate 4 exact rfl);decide+kernel;decide+kernel;decide+kernel;(exact vC))|(apply cF (i:=9);(iterate 4 exact rfl);decide+kernel;decide+kernel;decide+kernel;(exact vC))|(apply cF (i:=10);(iterate 4 exact rfl);decide+kernel;decide+kernel;decide+kernel;(exact vC))|(apply cF (i:=13);(iterate 4 exact rfl);decide+kernel;decide+kernel;decide+kernel;(apply eJ;exact rfl))|(apply cF (i:=14);(iterate 4 exact rfl);decide+kernel;decide+kernel;decide+kernel;(apply eJ;exact rfl))|(apply cF (i:=15);(iterate 4 exact rfl);decide+kernel;decide+kernel;decide+kernel;(apply eJ;exact rfl))|(apply iH (i:=5) (j:=11);(iterate 6 exact rfl);decide+kernel)|(apply dA (i:=5);(iterate 3 exact rfl);decide+kernel)|(apply dA (i:=11);(iterate 3 exact rfl);decide+kernel)|(apply dA (i:=12);(iterate 3 exact rfl);decide+kernel)|(apply od;decide+kernel)|(apply FG;(focus (exact mS;done)))|(apply cF (i:=3);(iterate 4 exact rfl);decide+kernel;decide+kernel;decide+kernel;(apply aj (j:=i);exact rfl;exact rfl;exact hlt))|(apply cF (i:=4);(iterate 4 exact rfl);decide+kernel;decide+kernel;decide+kernel;(apply aA;exact rfl;exact he;exact rfl))|(apply aC (d:=44);exact rfl;exact rfl;(intro w' hm;exact hA1 a1 w' _ hm (BRd.of_rows hm pK pK pK pK pK));rintro _ _ ⟨a2,rfl,rfl⟩;unfold aM)|refine sT ?_|refine sS ?_|refine sM fun _=> ?_|(refine sC ?_ ?_<;>intro hb<;>try omega)|exact cT|fail)
      all_goals
        rename_i g7
        refine cu (i:=(g7,a2)) trivial sB (by dsimp only;(try unfold aM);(try simp only [List.append_eq,List.cons_append,List.nil_append]);exact mS)
    rintro ⟨g7,a2⟩ _
    dsimp only
    repeat' (first|refine sT ?_|refine sS ?_|refine sM fun _=> ?_|(refine sC ?_ ?_<;>intro hb<;>try omega)|exact cT|fail)
    (refine nz (id:=10) (ι:=Nat × Bo) (fun z=> [(1,.slice (some ⟨gl,ol,none⟩) L.length cl),(2,.pointer (some ⟨g2,0,none⟩)),(5,.int .i64 (i:Int)),(6,.pointer (some ⟨g6,0,none⟩)),(7,.pointer (some ⟨g7,0,none⟩)),(8,.int .u8 cd),(9,.int .i64 pl),(10,.int .i64 er),(11,.pointer (some ⟨z.1,0,none⟩)),(12,.int .u8 cd),(13,.int .i64 pl),(14,.int .i64 er)]) (fun z=> .box z.1 28 (aU P z.2.v)::(aM P z.2++(.box g7 28 (aU P a2.v)::(aM P a2++(.box g6 28 (aU b a1.v)::(aM b a1++ .box g2 28 (aU b x)::T)))))) (fun _=>True) ?_ ?_)
    · unfold aM
      simp only [Nr,Nf,Ng]
      refine oh (id:=10) [5,11,12] [.box g2 28 (aU b x)] 16 rfl rfl mS ?_
      repeat' (first|(apply cF (i:=0);(iterate 4 exact rfl);decide+kernel;decide+kernel;decide+kernel;(exact vC))|(apply cF (i:=1);(iterate 4 exact rfl);decide+kernel;decide+kernel;decide+kernel;(exact vC))|(apply cF (i:=2);(iterate 4 exact rfl);decide+kernel;decide+kernel;decide+kernel;(exact vC))|(apply cF (i:=6);(iterate 4 exact rfl);decide+kernel;decide+kernel;decide+kernel;(exact vC))|(apply cF (i:=7);(iterate 4 exact rfl);decide+kernel;decide+kernel;decide+kernel;(exact vC))|(apply cF (i:=8);(iterate 4 exact rfl);decide+kernel;decide+kernel;decide+kernel;(exact vC))|(apply cF (i:=9);(iterate 4 exact rfl);decide+kernel;decide+kernel;decide+kernel;(exact vC))|(apply cF (i:=10);(iterate 4 exact rfl);decide+kernel;decide+kernel;decide+kernel;(exact vC))|(apply cF (i:=13);(iterate 4 exact rfl);decide+kernel;decide+kernel;decide+kernel;(apply eJ;exact rfl))|(apply cF (i:=14);(iterate 4 exact rfl);decide+kernel;decide+kernel;decide+kernel;(apply eJ;exact rfl))|(apply cF (i:=15);(iterate 4 exact rfl);decide+kernel;decide+kernel;decide+kernel;(apply eJ;exact rfl))|(apply iH (i:=5) (j:=11);(iterate 6 exact rfl);decide+kernel)|(apply dA (i:=5);(iterate 3 exact rfl);decide+kernel)|(apply dA (i:=11);(iterate 3 exact rfl);decide+kernel)|(apply dA (i:=12);(iterate 3 exact rfl);decide+kernel)|(apply od;decide+kernel)|(apply FG;(focus (exact mS;done)))|(apply cF (i:=3);(iterate 4 exact rfl);decide+kernel;decide+kernel;decide+kernel;(apply aj (j:=i);exact rfl;exact rfl;exact hlt))|(apply cF (i:=4);(iterate 4 exact rfl);decide+kernel;decide+kernel;decide+kernel;(apply aA;exact rfl;exact he;exact rfl))|(apply aC (d:=55);exact rfl;exact rfl;(intro w' hm;exact hA2 w' _ hm mS);rintro _ _ ⟨a3,rfl,rfl⟩;unfold aM)|refine sT ?_|refine sS ?_|refine sM fun _=> ?_|(refine sC ?_ ?_<;>intro hb<;>try omega)|exact cT|fail)
      all_goals
        rename_i g11
        refine cu (i:=(g11,a3)) trivial sB (by dsimp only;(try unfold aM);(try simp only [List.append_eq,List.cons_append,List.nil_append]);exact mS)
    rintro ⟨g11,a3⟩ _
    dsimp only
    unfold aM
    simp only [Nr,Nf,Ng]
    repeat' (first|(apply ak;exact rfl;apply Br;exact rfl;exact rfl)|(apply aa (d:=76);exact rfl;exact rfl;(intro w' hm;exact hE1 a2 a3 w' _ hm (BRd.of_rows hm pK pK pK pK pK) (BRd.of_rows hm pK pK pK pK pK)))|(apply aa (d:=82);exact rfl;exact rfl;(intro w' hm;exact hE2 a1 w' _ hm (BRd.of_rows hm pK pK pK pK pK) mS))|(apply aa (f:=14);exact rfl;exact rfl;(intro w' hm;exact haw w' _ hm))|refine sT ?_|refine sS ?_|refine sN ?_|refine sM fun _=> ?_|(refine sC ?_ ?_<;>intro hb<;>try omega)|exact cT|fail)
    all_goals first
      |(exfalso;omega)
      |((refine rT1 ?_);rfl)
      | (refine ⟨(i + 1, P, a3.v, aM P a3), ⟨hlt, (by rw [← Nat.add_assoc]; exact hnx), fun w' H hm hs => BRd.of_rows (hs.use hm) .hd (.tl .hd) (.tl (.tl .hd)) (.tl (.tl (.tl .hd))) (.tl (.tl (.tl (.tl .hd))))⟩, by dsimp only; omega, by exact sB, by exact sB, ?_⟩
         dsimp only
         unfold aM
         exact mS)
      |trace_state
  · repeat' (first|(apply aa (f:=14);exact rfl;exact rfl;(intro w' hm;exact haw w' _ hm))|refine sT ?_|refine sS ?_|refine sM fun _=> ?_|(refine sC ?_ ?_<;>intro hb<;>try omega)|exact cT|fail)
    all_goals first|(exfalso;omega)|((refine rT1 ?_);rfl)|trace_state
end Go.SL
