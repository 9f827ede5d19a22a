/-
  Lemmas and walks, put together: Hh Hi Hj.
-/
import Derived.Test.YthefeclkaaocnaaGreatDoorKl29
import Derived.Test.YthefeclkaaocnaaGreatDoorKl30
set_option linter.unusedSimpArgs false
set_option linter.unusedVariables false
set_option maxRecDepth 20000
namespace Go.SL
open Go Go.Proofs
attribute [local irreducible] W WL WQ WG WA WX WLI WR WT WC WE VOp RW thn blk bS scp bq bF cj aS FnIn FnP ceP
--
def cV (p:Int × Int):List Value:= [.int .i64 p.1,.int .i64 p.2]
theorem iL (p:Int × Int):(cV p).length=2:=rfl
theorem zn (lo:Int) (ps:List (Int × Int)) (p:Int × Int):cR lo (ps++ [p])=cR lo ps++ [p.1,p.2+1]:=by
 unfold cR;simp
def mO (lo hi x:Int):Bool:=decide (lo≤x) && decide (x≤hi)
theorem DS {l:List Int} {h x:Int} (hl:l≠ []):((dC l h).flatMap cV).set (0+((dC l h).length - 1)*2+1) (eP (x - 1))=(dC l (x - 1)).flatMap cV:=by
 obtain ⟨f,a,h1,h2⟩:=ym l h (x - 1) hl
 rw [h1,h2]
 simp only [LY,LC,LH,M3,LR,Mj,LN,cV]
 rw [Ny _ _ (by rw [aD iL];omega),aD iL]
 congr 1
 rw [show 0+f.length*2+1 - f.length*2=1 by omega]
 rfl
set_option maxHeartbeats 8000000 in
theorem zo (lo hi:Int) (ps:List (Int × Int)) (lv:Value) (w:World) (hl:Reads w lv ps.length (ps.flatMap cV)) (hn:ps.length≤100000) (hlo:0≤lo∧lo≤100000) (hhi:0≤hi∧hi≤100000) (hps: ∀ p∈ps,0≤p.1∧p.1≤100000∧0≤p.2∧p.2≤100000):
    aS Tryz.prog 131 [.int .i64 lo,.int .i64 hi,lv] w fun v H=> ∃ A cap,v=sl A (cH lo hi ps).length cap∧H= [.own A 143 2 (cH lo hi ps).length cap ((cH lo hi ps).flatMap cV)]:=by
  obtain ⟨Al,cl,rfl,hl1,hl2,hl3⟩:=hl
  refine aq Tryz.func131 rfl Tryz.ntmps131 rfl ?_
  repeat' (first|refine sT ?_|refine sS ?_|refine sT2 ?_|refine sM fun _=> ?_|(refine sC ?_ ?_<;>intro hb<;>try omega)|fail)
  rename_i gb
  refine ax [0,1,15,16] rfl (fun y:Nat × Option Nat × Nat=> [(7,sl y.2.1 (1+2*y.1) y.2.2),(17,.int .i64 (y.1:Int))]) (fun y=> [.own y.2.1 3 1 (1+2*y.1) y.2.2 ((cR lo (ps.take y.1)).map eP)]) (fun y=>y.1≤ps.length) (fun y=>ps.length - y.1) (0,some gb,1) (LS _) sB mS ?_
  rintro ⟨i,A,c⟩ hi0
  dsimp only at hi0 ⊢
  by_cases hlt:i<ps.length
  · obtain ⟨gl,ol,rfl,hrl⟩:=hl3 (by omega)
    have he1:=hrl.elem iL i hlt
    have hbs:cR lo (ps.take (i+1))=cR lo (ps.take i)++ [ps[i].1,ps[i].2+1]:=by rw [LQ hlt,zn]
    have hpb:=hps _ (Mw hlt)
    generalize ps[i]=p at he1 hbs hpb
    repeat' (first|(apply cI (A:=A) (m:=2);(iterate 3 exact rfl);exact pK;(intro w hm;exact hm.cells_own pK);exact rfl;(simp [Value.oneCell',sl]);omega;(simp only [maxLen];omega);(intro A' cap' hA'))|refine sT ?_|refine sS ?_|refine sT2 ?_|refine sN ?_|refine sJ ?_|refine sO ?_|refine sM fun _=> ?_|(refine sC ?_ ?_<;>intro hb<;>try omega)|fail)
    all_goals first
      |(exfalso;omega)
      | (refine ⟨(i + 1, A', cap'), hlt, by dsimp only; omega, by exact sB, by exact sB, ?_⟩
         dsimp only
         rw [hbs,MT]
         exact mS)
      |trace_state
  · have e:i=ps.length:=by omega
    subst e
    rw [MI]
    have hbl:=pS lo ps
    have hs1:=fun (R:List Blk)=>xD (cR lo ps) A c (by omega) R w
    have hsl:(ik (cR lo ps)).length=1+2*ps.length:=by rw [(gq _).length_eq,hbl]
    have hs2:=fun (R:List Blk)=>zE (ik (cR lo ps)) A c (by omega) R w
    rw [hbl] at hs1
    rw [hsl] at hs2
    have hcl:=sw (ik (cR lo ps))
    rw [hsl] at hcl
    have hcut:su lo hi ps=(fq (ik (cR lo ps))).filter (mO lo hi):=rfl
    have hbd: ∀ x∈fq (ik (cR lo ps)),0≤x∧x≤100001:=fun x hx=>by
      rw [li,(gq _).mem_iff,cR,L7,MM] at hx
      rcases hx with rfl|⟨p,hp,hx⟩
      · omega
      · have:=hps p hp
        simp at hx
        omega
    unfold cH
    rw [hcut]
    generalize fq (ik (cR lo ps))=C at hs2 hcl hbd
    refine aJ 143 2 ?_
    repeat' (first|(apply aw (f:=164);exact rfl;exact rfl;exact FnIn.msub (hs1 _) (MSub.pick pK (MSub.refl _));rintro _ _ ⟨rfl,rfl⟩)|(apply aw (f:=165);exact rfl;exact rfl;exact FnIn.msub (hs2 _) (MSub.pick pK (MSub.refl _));rintro _ _ ⟨rfl,rfl⟩)|refine sT ?_|refine sS ?_|refine sT2 ?_|refine sN ?_|refine sM fun _=> ?_|(refine sC ?_ ?_<;>intro hb<;>try omega)|fail)
    all_goals try (exfalso;omega)
    refine ax [0,1,33,34] rfl (fun y:Nat × Option Nat × Nat=> [(10,sl y.2.1 (dC ((C.take y.1).filter (mO lo hi)) hi).length y.2.2),(35,.int .i64 (y.1:Int))]) (fun y=> [.own y.2.1 143 2 (dC ((C.take y.1).filter (mO lo hi)) hi).length y.2.2 ((dC ((C.take y.1).filter (mO lo hi)) hi).flatMap cV),.own A 3 1 C.length c (C.map eP)]) (fun y=>y.1≤C.length) (fun y=>C.length - y.1) (0,none,0) (LS _) sB mS ?_
    rintro ⟨k,A2,c2⟩ hk
    dsimp only at hk ⊢
    by_cases hlk:k<C.length
    · refine dP (A:=A) pK (by omega) fun gc hA=> ?_
      subst hA
      have hrd:(C.map eP)[0+k*1]? =some (.int .i64 C[k]):=J6 hlk
      have hxb:=hbd _ (Mw hlk)
      have hfs:(C.take (k+1)).filter (mO lo hi)=if mO lo hi C[k]=true then (C.take k).filter (mO lo hi)++ [C[k]] else (C.take k).filter (mO lo hi):=by
        rw [LQ hlk,List.filter_append]
        cases h:mO lo hi C[k]<;>simp [h]
      have hfl:((C.take k).filter (mO lo hi)).length≤300000:=Ma (NR _ _) (by rw [LP];omega)
      generalize hx:C[k]=x at hrd hxb hfs
      generalize hF:(C.take k).filter (mO lo hi)=Fk at hfs hfl
      have hpl:=ky hi Fk
      by_cases hin:lo≤x∧x≤hi
      · have hin2:mO lo hi x=true:=by simp [mO,hin.1,hin.2]
        rw [if_pos hin2] at hfs
        have hsn:=jf x hi Fk
        rw [← hfs] at hsn
        have hpl2:=ky (x - 1) Fk
        by_cases h0:Fk= []
        · subst h0
          rw [show dC [] (x - 1)= [] from rfl,LG] at hsn
          repeat' (first|(apply ak (d:=37);exact rfl;apply aj (j:=k);exact rfl;exact rfl;exact hlk)|(apply ak (d:=38);exact rfl;apply bU;exact rfl;exact pK;exact hrd)|(apply ak;exact rfl;apply lN;(iterate 5 exact rfl))|(apply cI (A:=A2) (m:=1);(iterate 3 exact rfl);exact pK;(intro w hm;exact hm.cells_own pK);exact rfl;(simp [Value.oneCell',sl]);omega;(simp only [maxLen];omega);(intro A' cap' hA'))|refine sT ?_|refine sS ?_|refine sT2 ?_|refine sN ?_|refine sJ ?_|refine sO ?_|refine sM fun _=> ?_|(refine sC ?_ ?_<;>intro hb<;>try omega)|fail)
          all_goals first
            |(exfalso;omega)
            | (refine ⟨(k + 1, A', cap'), hlk, by dsimp only; omega, ?_, by exact sB, ?_⟩
               · dsimp only;rw [hsn];exact sB
               · dsimp only;rw [hsn];exact mS)
            |trace_state
        · have hpos:0<Fk.length:=Nc.2 h0
          have hset:=DS (h:=hi) (x:=x) h0
          rw [hpl] at hset
          refine dP (A:=A2) pK (by omega) fun g2 hA=> ?_
          subst hA
          rw [hpl]
          repeat' (first|(apply ak (d:=37);exact rfl;apply aj (j:=k);exact rfl;exact rfl;exact hlk)|(apply ak (d:=38);exact rfl;apply bU;exact rfl;exact pK;exact hrd)|(apply ak (d:=53);exact rfl;apply du (a:=Fk.length);exact rfl;exact rfl;omega;(simp only [maxLen];omega))|(apply ak (d:=56);exact rfl;apply aj (j:=Fk.length - 1);exact rfl;exact rfl;omega)|(apply fL (v:=eP (x - 1)) (off:=0+(Fk.length - 1)*2+1);exact rfl;exact rfl;exact pK;exact rfl;(rw [aD iL,hpl];omega);rw [hset])|(apply ak;exact rfl;apply lN;(iterate 5 exact rfl))|(apply cI (A:=some g2) (m:=1);(iterate 3 exact rfl);exact pK;(intro w hm;exact hm.cells_own pK);exact rfl;(simp [Value.oneCell',sl]);omega;(simp only [maxLen];omega);(intro A' cap' hA'))|refine sT ?_|refine sS ?_|refine sT2 ?_|refine sN ?_|refine sJ ?_|refine sO ?_|refine sM fun _=> ?_|(refine sC ?_ ?_<;>intro hb<;>try omega)|fail)
          all_goals first
            |(exfalso;omega)
            | (refine ⟨(k + 1, A', cap'), hlk, by dsimp only; omega, ?_, by exact sB, ?_⟩
               · dsimp only;rw [hsn,List.length_append,hpl2];exact sB
               · dsimp only;rw [hsn,List.length_append,hpl2,List.flatMap_append];exact mS)
            |trace_state
      · have hin2: ¬ mO lo hi x=true:=by simp only [mO,LM,decide_eq_true_eq];exact hin
        rw [if_neg hin2] at hfs
        repeat' (first|(apply ak (d:=37);exact rfl;apply aj (j:=k);exact rfl;exact rfl;exact hlk)|(apply ak (d:=38);exact rfl;apply bU;exact rfl;exact pK;exact hrd)|refine sT ?_|refine sS ?_|refine sT2 ?_|refine sN ?_|refine sJ ?_|refine sO ?_|refine sM fun _=> ?_|(refine sC ?_ ?_<;>intro hb<;>try omega)|fail)
        all_goals first
          |(exfalso;omega)
          | (refine ⟨(k + 1, A2, c2), hlk, by dsimp only; omega, ?_, by exact sB, ?_⟩
             · dsimp only;rw [hfs];exact sB
             · dsimp only;rw [hfs];exact mS)
          |trace_state
    · have e:k=C.length:=by omega
      subst e
      rw [MI]
      repeat' (first|refine sT ?_|refine sS ?_|refine sT2 ?_|refine sM fun _=> ?_|(refine sC ?_ ?_<;>intro hb<;>try omega)|fail)
      all_goals first
        |(exfalso;omega)
        |(exact cQ eIO rfl rfl mS ⟨A2,c2,rfl,rfl⟩)
        |trace_state
end Go.SL
namespace Go.SL
open Go Go.Proofs
def jX (p:Nat × Nat):List Value:= [.int .i64 (p.1:Int),.int .i64 (p.2:Int)]
theorem FD (w:World) (d:Nat) (a b:Nat × Nat):(Op.equalIn (d+5) 143 (.agg (jX a).toArray) (.agg (jX b).toArray)).run Tryz.prog w= .ok (decide (a=b)) w:=by
 obtain ⟨i,h1,h2⟩:=(inferInstance:Size Tryz.prog 3 1).out
 have hc:Tryz.prog.cellsOf 3=1:=by kernel_rfl
 rw [run_equalIn_array w (d+4) (jX a).toArray (jX b).toArray Tryz.underlying143 h1,hc,show List.range 2= [0,1] from rfl]
 have hr: ∀ (a b:Int) w,(Op.equalIn (d+4) 3 (.int .i64 a) (.int .i64 b)).run Tryz.prog w= .ok (a==b) w:=fun a b w=>run_equalIn_int w (d+3) 3 .i64 .i64 a b Tryz.underlying3
 have hpa: ∀ (c:Nat × Nat) w,(part 3 (jX c).toArray 0).run Tryz.prog w= .ok (.int .i64 (c.1:Int)) w:=by
  intro c w
  simp [part,go_sem,jX]
 have hpb: ∀ (c:Nat × Nat) w,(part 3 (jX c).toArray 1).run Tryz.prog w= .ok (.int .i64 (c.2:Int)) w:=by
  intro c w
  simp [part,go_sem,jX]
 have he:decide (a=b)=((a.1:Int)==b.1 && (a.2:Int)==b.2):=by
  obtain ⟨a1,a2⟩:=a
  obtain ⟨b1,b2⟩:=b
  rw [Mp]
  simp
  omega
 rw [he]
 by_cases h1:((a.1:Int)==b.1)=true<;>by_cases h2:((a.2:Int)==b.2)=true<;>simp [Op.eqItems,hpa,hpb,hr,h1,h2]
theorem Cp {w0:World} {s:az} {H:List Blk} {ty t' :TypeId} {x y:Operand} {a b:Nat × Nat} {c:Bool} (hc:decide (a=b)=c) (hx:ev s x=some (.agg (jX a).toArray)) (hy:ev s y=some (.agg (jX b).toArray)):VOp Tryz.prog w0 s H (.binOp .eql 143 x y t') ty (.bool c):=fun ρ w _ _ _ _ hρ _=>by
 subst hc
 have h:=FD w 9995 a b
 simp only [Nat.reduceAdd] at h
 simp only [execOp,hρ x _ hx,hρ y _ hy,Sem.run_bind,run_eqGuard_agg w _ _ _ _ _ _ Tryz.eqGuardType143,Result.andThen_ok,run_eql_struct,h,Sem.run_pure]
end Go.SL
namespace Go.SL
open Go Go.Proofs
attribute [local irreducible] W WL WQ WG WA WX WLI WR WT WC WE VOp RW thn blk bS scp bq bF cj aS FnIn FnP ceP
theorem CK {a b:Rct} (h:(dV a b).2=true):bi (dV a b).1=true:=by
 unfold dV at h ⊢
 split at h
 ·
  rename_i hall
  rw [if_pos hall]
  simp only [NA,List.all_nil,Ms,LM] at hall
  exact hall.2.2
 ·
  cases h
theorem zj (r:Rct) (L:List Rl) (x:Rl):aY r (L++ [x])=aY r L++if (dV x.rect r).2=true then [((dV x.rect r).1.c1,(dV x.rect r).1.c2)] else []:=by
 unfold aY;simp
theorem xJ (r:Rct) (L:List Rl) (x:Rl):aX r (L++ [x])=aX r L++if (dV x.rect r).2=true then [((dV x.rect r).1.r1,(dV x.rect r).1.r2)] else []:=by
 unfold aX;simp
theorem dL (r:Rct): ∀ L:List Rl,(aY r L).length≤L.length
 | []=>LK _
 |x::L=>by
  have:=dL r L
  unfold aY at this ⊢
  rw [LR,LC]
  split<;>simp only [L9,NK]<;>omega
theorem dG (r:Rct): ∀ L:List Rl,(aX r L).length≤L.length
 | []=>LK _
 |x::L=>by
  have:=dG r L
  unfold aX at this ⊢
  rw [LR,LC]
  split<;>simp only [L9,NK]<;>omega
theorem n9 {r:Rct} {L:List Rl}: ∀ p∈aY r L,0≤p.1∧p.1≤100000∧0≤p.2∧p.2≤100000:=fun p hp=>by
 obtain ⟨x,_,hx⟩:=MM.1 hp
 split at hx
 ·
  rename_i h
  have:=ku.1 (CK h)
  rw [Mv.1 hx]
  simp only;omega
 ·
  cases hx
theorem nr {r:Rct} {L:List Rl}: ∀ p∈aX r L,0≤p.1∧p.1≤100000∧0≤p.2∧p.2≤100000:=fun p hp=>by
 obtain ⟨x,_,hx⟩:=MM.1 hp
 split at hx
 ·
  rename_i h
  have:=ku.1 (CK h)
  rw [Mv.1 hx]
  simp only;omega
 ·
  cases hx
def pF (g:Nat) (A:Option Nat) (c:Nat) (C:List (Int × Int)):List Blk:= [.box g 210 [sl A C.length c],.own A 143 2 C.length c (C.flatMap cV)]
set_option maxHeartbeats 8000000 in
theorem CI (r:Rct) (L:List Rl) (lv:Value) (gr gc gw:Nat) (A1 A2:Option Nat) (c1 c2:Nat) (C D:List (Int × Int)) (R:List Blk) (w0:World) (hl:Reads w0 lv L.length (L.flatMap bh)) (hC:C.length+L.length≤100000) (hD:D.length+L.length≤100000):
  FnIn Tryz.prog 129 [lv,.pointer (some ⟨gr,0,none⟩),.pointer (some ⟨gc,0,none⟩),.pointer (some ⟨gw,0,none⟩)] w0 (.box gr 33 (bO r)::(pF gc A1 c1 C++(pF gw A2 c2 D++R))) fun v H=>
   v= .tuple #[]∧ ∃ A1' c1' A2' c2',H= .box gr 33 (bO r)::(pF gc A1' c1' (C++aY r L)++(pF gw A2' c2' (D++aX r L)++R)):=by
 obtain ⟨Al,cl,rfl,hl1,hl2,hl3⟩:=hl
 refine dM Tryz.func129 rfl Tryz.ntmps129 rfl ?_
 simp only [pF,LO,LD,LG]
 repeat' (first|refine sT ?_|refine sS ?_|refine sM fun _=> ?_|(refine sC ?_ ?_<;>intro hb<;>try omega)|fail)
 refine ax [1,2,3,9,10] rfl (fun y:Nat × Option Nat × Nat × Option Nat × Nat=> [(11,.int .i64 (y.1:Int))]) (fun y=> .box gr 33 (bO r):: .box gc 210 [sl y.2.1 (C++aY r (L.take y.1)).length y.2.2.1]:: .own y.2.1 143 2 (C++aY r (L.take y.1)).length y.2.2.1 ((C++aY r (L.take y.1)).flatMap cV):: .box gw 210 [sl y.2.2.2.1 (D++aX r (L.take y.1)).length y.2.2.2.2]:: .own y.2.2.2.1 143 2 (D++aX r (L.take y.1)).length y.2.2.2.2 ((D++aX r (L.take y.1)).flatMap cV)::R) (fun y=>y.1≤L.length) (fun y=>L.length - y.1) (0,A1,c1,A2,c2) (LS _) sB (by simp only [M0,aY,aX,Mj,LN];exact mS) ?_
 rintro ⟨i,A1,c1,A2,c2⟩ hi
 dsimp only at hi ⊢
 by_cases hlt:i<L.length
 ·
  obtain ⟨gl,ol,rfl,hrl⟩:=hl3 (by omega)
  have he1:=hrl.elem bX i hlt
  have hcs:=zj r (L.take i) L[i]
  have hws:=xJ r (L.take i) L[i]
  rw [← LQ hlt] at hcs hws
  have hcl:=dL r (L.take i)
  have hwl:=dG r (L.take i)
  rw [LP] at hcl hwl
  generalize L[i]=x at he1 hcs hws
  have hM:=fun w=>CY x.rect r w
  generalize dV x.rect r=mt at hM hcs hws
  obtain ⟨mr,mb⟩:=mt
  dsimp only at hM hcs hws
  generalize aY r (L.take i)=C1 at hcs hcl ⊢
  generalize aX r (L.take i)=D1 at hws hwl ⊢
  have hCl:(C++C1).length≤200000:=by rw [LC];omega
  have hDl:(D++D1).length≤200000:=by rw [LC];omega
  have hC2:C++aY r (L.take (i+1))=(C++C1)++if mb=true then [(mr.c1,mr.c2)] else []:=by rw [hcs,Mk]
  have hD2:D++aX r (L.take (i+1))=(D++D1)++if mb=true then [(mr.r1,mr.r2)] else []:=by rw [hws,Mk]
  generalize C++C1=C3 at hC2 hCl ⊢
  generalize D++D1=D3 at hD2 hDl ⊢
  cases mb
  ·
   rw [if_neg (by decide),LN] at hC2 hD2
   repeat' (first|(apply aa;exact rfl;exact rfl;(intro w hm;exact hM w))|refine sT ?_|refine sS ?_|refine sN ?_|refine sO ?_|refine sM fun _=> ?_|(refine sC ?_ ?_<;>intro hb<;>try omega)|fail)
   all_goals first
    |(exfalso;omega)
    |(refine ⟨(i+1,A1,c1,A2,c2),hlt,by dsimp only;omega,by exact sB,by exact sB,?_⟩;dsimp only;rw [hC2,hD2];exact mS)
    |trace_state
  ·
   rw [if_pos rfl] at hC2 hD2
   have hC4:(C3++ [(mr.c1,mr.c2)]).flatMap cV=C3.flatMap cV++ [.int .i64 mr.c1,.int .i64 mr.c2]:=by simp [cV]
   have hD4:(D3++ [(mr.r1,mr.r2)]).flatMap cV=D3.flatMap cV++ [.int .i64 mr.r1,.int .i64 mr.r2]:=by simp [cV]
   repeat' (first|(apply aa;exact rfl;exact rfl;(intro w hm;exact hM w))|(apply ak;exact rfl;apply lN;(iterate 5 exact rfl))|(apply cI (d:=30) (A:=A1) (m:=1);(iterate 3 exact rfl);exact pK;(intro w hm;exact hm.cells_own pK);exact rfl;(simp [Value.oneCell',sl]);omega;(simp only [maxLen];omega);(intro A3 c3 hA3))|(apply cI (d:=38) (A:=A2) (m:=1);(iterate 3 exact rfl);exact pK;(intro w hm;exact hm.cells_own pK);exact rfl;(simp [Value.oneCell',sl]);omega;(simp only [maxLen];omega);(intro A4 c4 hA4))|refine sT ?_|refine sS ?_|refine sN ?_|refine sO ?_|refine sM fun _=> ?_|(refine sC ?_ ?_<;>intro hb<;>try omega)|fail)
   all_goals first
    |(exfalso;omega)
    |(refine ⟨(i+1,A3,c3,A4,c4),hlt,by dsimp only;omega,by exact sB,by exact sB,?_⟩;dsimp only;rw [hC2,hD2,hC4,hD4,List.length_append,List.length_append];exact mS)
    |trace_state
 ·
  have e:i=L.length:=by omega
  subst e
  rw [MI]
  repeat' (first|refine sT ?_|refine sS ?_|refine sM fun _=> ?_|(refine sC ?_ ?_<;>intro hb<;>try omega)|fail)
  all_goals first
   |(exfalso;omega)
   |(exact gX eIO rfl (.refl _) ⟨rfl,A1,c1,A2,c2,rfl⟩)
   |trace_state
end Go.SL
namespace Go.SL
open Go Go.Proofs
attribute [local irreducible] W WL WQ WG WA WX WLI WR WT WC WE VOp RW thn blk bS scp bq bF cj aS FnIn FnP ceP
--
theorem Gk {l m:List Pz} {p:Pz} (hm:m≠ []):l++iV m p=iV (l++m) p:=by
 have e:=MZ hm
 generalize hd:m.dropLast=d at e
 generalize m.getLast hm=q at e
 subst e
 unfold iV
 rw [← Mk,List.getLast?_concat,List.getLast?_concat]
 dsimp only
 rw [NW,NW]
 split<;>simp
theorem uH {O:List Pz} {q p:Pz}:iV (O++ [q]) p=if q.a=p.a∧q.b=p.b then O++ [⟨⟨q.rect.c1,q.rect.r1,p.rect.c2,q.rect.r2⟩,q.a,q.b⟩] else O++ [q]++ [p]:=by
 unfold iV
 rw [List.getLast?_concat]
 dsimp only
 rw [NW]
theorem CB {A B:List Rl} {y:Int × Int} (xs:List (Int × Int)):(iS A B y xs).length≤xs.length:=by
 induction xs using qg with
 |h0=>exact LK _
 |h1 xs x ih=>
  rw [jM,LC,LH]
  generalize iS A B y xs=l at ih
  unfold iV
  cases h:l.getLast? with
  |none=>simp
  |some q=>
   dsimp only
   split
   ·
    rw [LC,List.length_dropLast,LH];omega
   ·
    rw [LC,LH];omega
theorem xK {A B:List Rl} {y:Int × Int}:iS A B y []= []:=rfl
def ib (A B:List Rl) (ys xs:List (Int × Int)):List Pz:=ys.flatMap fun y=>iS A B y xs
theorem xI {A B:List Rl} {ys xs:List (Int × Int)} {y:Int × Int}:ib A B (ys++ [y]) xs=ib A B ys xs++iS A B y xs:=by unfold ib;simp
theorem ko {A B:List Rl} {xs:List (Int × Int)}: ∀ ys:List (Int × Int),(ib A B ys xs).length≤ys.length*xs.length
 | []=>by simp [ib]
 |y::ys=>by
  have h1:=ko (A:=A) (B:=B) (xs:=xs) ys
  have h2:=CB (A:=A) (B:=B) (y:=y) xs
  unfold ib at h1 ⊢
  rw [LR,LC,L9,Nat.succ_mul]
  omega
theorem J4 {A B:List Rl} {y:Int × Int} (xs:List (Int × Int)): ∀ q∈iS A B y xs,q.rect.r1=y.1∧ ∃ x∈xs,q.rect.c1=x.1:=by
 induction xs using qg with
 |h0=>intro q hq;cases hq
 |h1 xs x ih=>
  intro q hq
  rw [jM] at hq
  by_cases hn:iS A B y xs= []
  ·
   rw [hn] at hq
   have:q=mM A B y x:=by simpa [iV] using hq
   subst this
   exact ⟨rfl,x,by simp,rfl⟩
  ·
   have e:=MZ hn
   generalize (iS A B y xs).dropLast=d at e
   generalize (iS A B y xs).getLast hn=z at e
   rw [← e] at hq ih
   rw [uH] at hq
   have hz:=ih z (by simp)
   split at hq
   ·
    rcases Mo.1 hq with hq|hq
    ·
     obtain ⟨h1,x',h2,h3⟩:=ih q (by simp [hq])
     exact ⟨h1,x',by simp [h2],h3⟩
    ·
     rw [Mv.1 hq]
     obtain ⟨h1,x',h2,h3⟩:=hz
     exact ⟨h1,x',by simp [h2],h3⟩
   ·
    rcases Mo.1 hq with hq|hq
    ·
     obtain ⟨h1,x',h2,h3⟩:=ih q hq
     exact ⟨h1,x',by simp [h2],h3⟩
    ·
     rw [Mv.1 hq]
     exact ⟨rfl,x,by simp,rfl⟩
theorem yj {r:Rct} {A B:List Rl} (hrs:1≤r.c1∧r.c1≤r.c2∧r.c2≤1024∧1≤r.r1∧r.r1≤r.r2∧r.r2≤1024): ∀ p∈dI r A B,qY p:=fun p hp=>by
 obtain ⟨y,hy,hp⟩:=MM.1 hp
 obtain ⟨h1,x,hx,h2⟩:=J4 _ p hp
 have h3:=lW hy
 have h4:=lW hx
 unfold qY
 omega
set_option maxHeartbeats 16000000 in
theorem FO (r:Rct) (hr:bi r=true) (A B:List Rl) (la lb:Value) (w:World) (hla:Reads w la A.length (A.flatMap bh)) (hlb:Reads w lb B.length (B.flatMap bh)) (hA:A.length≤200) (hB:B.length≤200):
    aS Tryz.prog 82 [.agg (bO r).toArray,la,lb] w fun v H=> ∃ Ap cap,v=sl Ap (dI r A B).length cap∧H= [.own Ap 145 6 (dI r A B).length cap ((dI r A B).flatMap cU)]:=by
  refine aq Tryz.func82 rfl Tryz.ntmps82 rfl ?_
  have hrs:=ku.1 hr
  have hZ:InZ (dI r A B):=by
    refine ⟨vZ r A B,yj hrs,?_⟩
    have h1:=ko (A:=A) (B:=B) (xs:=cH r.c1 r.c2 (aY r A++aY r B)) (cH r.r1 r.r2 (aX r A++aX r B))
    have h2:=gI r.c1 r.c2 (aY r A++aY r B)
    have h3:=gI r.r1 r.r2 (aX r A++aX r B)
    have h4:=dL r A
    have h5:=dL r B
    have h6:=dG r A
    have h7:=dG r B
    rw [LC] at h2 h3
    refine Ma h1 (Ma (Nat.mul_le_mul (show _≤801 by omega) (show _≤801 by omega)) (by decide))
  have hnA:=fun (gr gc gw:Nat)=>CI r A la gr gc gw none none 0 0 [] [] [] w hla (by simp;omega) (by simp;omega)
  have hnB:=fun (gr gc gw:Nat) (A1 A2:Option Nat) (c1 c2:Nat)=>CI r B lb gr gc gw A1 A2 c1 c2 (aY r A) (aX r A) [] w hlb (by have:=dL r A;omega) (by have:=dG r A;omega)
  have hcl:(aY r A++aY r B).length≤400:=by have:=dL r A;have:=dL r B;rw [LC];omega
  have hwl:(aX r A++aX r B).length≤400:=by have:=dG r A;have:=dG r B;rw [LC];omega
  have hcs: ∀ p∈aY r A++aY r B,0≤p.1∧p.1≤100000∧0≤p.2∧p.2≤100000:=fun p hp=>(Mo.1 hp).elim (n9 p) (n9 p)
  have hws: ∀ p∈aX r A++aX r B,0≤p.1∧p.1≤100000∧0≤p.2∧p.2≤100000:=fun p hp=>(Mo.1 hp).elim (nr p) (nr p)
  have hb1:=fun (w' :World) (lv:Value) (h:Reads w' lv _ _)=>zo r.c1 r.c2 (aY r A++aY r B) lv w' h (by omega) (by omega) (by omega) hcs
  have hb2:=fun (w' :World) (lv:Value) (h:Reads w' lv _ _)=>zo r.r1 r.r2 (aX r A++aX r B) lv w' h (by omega) (by omega) (by omega) hws
  have hxl:=gI r.c1 r.c2 (aY r A++aY r B)
  have hyl:=gI r.r1 r.r2 (aX r A++aX r B)
  have hpf:dI r A B=ib A B (cH r.r1 r.r2 (aX r A++aX r B)) (cH r.c1 r.c2 (aY r A++aY r B)):=rfl
  generalize dI r A B=PZ at hZ hpf ⊢
  generalize hX:cH r.c1 r.c2 (aY r A++aY r B)=xB at hb1 hxl hpf
  generalize hY:cH r.r1 r.r2 (aX r A++aX r B)=yB at hb2 hyl hpf
  generalize hCO:aY r A++aY r B=CO at hb1 hcl hxl
  generalize hRO:aX r A++aX r B=RO at hb2 hwl hyl
  refine aJ 143 2 ?_
  refine aJ 143 2 ?_
  repeat' (first|(apply jE (d:=21);exact rfl;exact rfl;infer_instance;exact rfl;exact FnIn.msub (hnA _ _ _) (by simp only [pF,LO,LD,LG];exact mS);rintro _ _ ⟨rfl,A1,c1,A2,c2,rfl⟩)|(apply jE (d:=24);exact rfl;exact rfl;infer_instance;exact rfl;exact FnIn.msub (hnB _ _ _ A1 A2 c1 c2) (by simp only [pF,LO,LD,LG];exact mS);rintro _ _ ⟨rfl,A3,c3,A4,c4,rfl⟩)|refine sT ?_|refine sS ?_|refine sT2 ?_|refine sM fun _=> ?_|(refine sC ?_ ?_<;>intro hb<;>try omega)|exact cT|fail)
  rename_i g3 g7 g8
  rw [hCO,hRO]
  simp only [pF,LO,LD,LG]
  refine mC (fun _:Option Nat × Nat × Option Nat × Nat=> [(1,la),(2,lb),(3,.pointer (some ⟨g3,0,none⟩)),(7,.pointer (some ⟨g7,0,none⟩)),(8,.pointer (some ⟨g8,0,none⟩))]) (fun y=> .box g7 210 [sl y.1 xB.length y.2.1]:: .own y.1 143 2 xB.length y.2.1 (xB.flatMap cV):: .box g8 210 [sl y.2.2.1 yB.length y.2.2.2]:: .own y.2.2.1 143 2 yB.length y.2.2.2 (yB.flatMap cV):: []) (fun _=>True) ?_ ?_
  · refine vw (id:=5) [4,5,10,11,12,13] [.box g3 33 (bO r)] 14 rfl rfl mS ?_
    repeat' (first|(apply fM (i:=0);(iterate 4 exact rfl);decide+kernel;decide+kernel;decide+kernel;(exact vC))|(apply fM (i:=1);(iterate 4 exact rfl);decide+kernel;decide+kernel;decide+kernel;(exact vC))|(apply fM (i:=2);(iterate 4 exact rfl);decide+kernel;decide+kernel;decide+kernel;(exact vC))|(apply fM (i:=3);(iterate 4 exact rfl);decide+kernel;decide+kernel;decide+kernel;(exact vC))|(apply fM (i:=6);(iterate 4 exact rfl);decide+kernel;decide+kernel;decide+kernel;(exact vC))|(apply fM (i:=7);(iterate 4 exact rfl);decide+kernel;decide+kernel;decide+kernel;(exact vC))|(apply fM (i:=8);(iterate 4 exact rfl);decide+kernel;decide+kernel;decide+kernel;(exact vC))|(apply fM (i:=9);(iterate 4 exact rfl);decide+kernel;decide+kernel;decide+kernel;(exact vC))|(apply jq (i:=4) (j:=10);(iterate 6 exact rfl);decide+kernel)|(apply jq (i:=5) (j:=10);(iterate 6 exact rfl);decide+kernel)|(apply jq (i:=12) (j:=13);(iterate 6 exact rfl);decide+kernel)|(apply fB (i:=4);(iterate 3 exact rfl);decide+kernel)|(apply fB (i:=5);(iterate 3 exact rfl);decide+kernel)|(apply fB (i:=10);(iterate 3 exact rfl);decide+kernel)|(apply fB (i:=11);(iterate 3 exact rfl);decide+kernel)|(apply fB (i:=12);(iterate 3 exact rfl);decide+kernel)|(apply fB (i:=13);(iterate 3 exact rfl);decide+kernel)|(apply aG (d:=30);exact rfl;exact rfl;(intro w' hm;exact hb1 w' _ (Reads.of_own (A:=A3) hm pK));rintro _ _ ⟨A5,c5,rfl,rfl⟩)|(apply aG (d:=36);exact rfl;exact rfl;(intro w' hm;exact hb2 w' _ (Reads.of_own (A:=A4) hm pK));rintro _ _ ⟨A6,c6,rfl,rfl⟩)|(apply vu;decide+kernel)|(apply Jc;(focus (exact mS;done)))|refine sT ?_|refine sS ?_|refine sT2 ?_|refine sM fun _=> ?_|(refine sC ?_ ?_<;>intro hb<;>try omega)|exact cT|fail)
    all_goals first
      |(exfalso;omega)
      |(exact cu (A5,c5,A6,c6) trivial sB mS)
      |trace_state
  rintro ⟨A5,c5,A6,c6⟩ _
  dsimp only
  clear hnA hnB hb1 hb2 hX hY hCO hRO
  refine aJ 145 6 ?_
  repeat' (first|refine sT ?_|refine sS ?_|refine sT2 ?_|refine sM fun _=> ?_|(refine sC ?_ ?_<;>intro hb<;>try omega)|exact cT|fail)
  refine ax [1,2,7,37,38] rfl (fun y:Nat × Option Nat × Nat=> [(10,sl y.2.1 (ib A B (yB.take y.1) xB).length y.2.2),(39,.int .i64 (y.1:Int))]) (fun y=> .own y.2.1 145 6 (ib A B (yB.take y.1) xB).length y.2.2 ((ib A B (yB.take y.1) xB).flatMap cU):: .box g7 210 [sl A5 xB.length c5]:: .own A5 143 2 xB.length c5 (xB.flatMap cV):: .own A6 143 2 yB.length c6 (yB.flatMap cV):: []) (fun y=>y.1≤yB.length) (fun y=>yB.length - y.1) (0,none,0) (LS _) sB mS ?_
  rintro ⟨j,Ao,co⟩ hj
  dsimp only at hj ⊢
  by_cases hjl:j<yB.length
  · refine dP (A:=A6) pK (by omega) fun g6 hA6=> ?_
    subst hA6
    have hrd:((yB.flatMap cV).drop (0+j*2)).take 2=cV yB[j]:=by rw [LZ];exact eJ iL yB j hjl
    have hsn:=xI (A:=A) (B:=B) (ys:=yB.take j) (xs:=xB) (y:=yB[j])
    rw [← LQ hjl] at hsn
    have hpl:(ib A B (yB.take j) xB).length≤700000:=by
      have h1:=ko (A:=A) (B:=B) (xs:=xB) (yB.take j)
      refine Ma h1 (Ma (Nat.mul_le_mul (show _≤801 by rw [LP];omega) (show _≤801 by omega)) (by decide))
    generalize yB[j]=y at hrd hsn
    generalize ib A B (yB.take j) xB=prev at hsn hpl ⊢
    repeat' (first|(apply ak (d:=41);exact rfl;apply aj (j:=j);exact rfl;exact rfl;exact hjl)|(apply ak (d:=42);exact rfl;apply aR (ys:=cV y);exact rfl;exact pK;exact hrd;exact rfl)|refine sT ?_|refine sS ?_|refine sT2 ?_|refine sN ?_|refine sM fun _=> ?_|(refine sC ?_ ?_<;>intro hb<;>try omega)|exact cT|fail)
    all_goals try (exfalso;omega)
    rename_i g12
    refine ax [1,2,7,12,13,37,38,39,45,46] rfl (fun z:Nat × Option Nat × Nat=> [(10,sl z.2.1 (prev++iS A B y (xB.take z.1)).length z.2.2),(47,.int .i64 (z.1:Int))]) (fun z=> .own z.2.1 145 6 (prev++iS A B y (xB.take z.1)).length z.2.2 ((prev++iS A B y (xB.take z.1)).flatMap cU):: .box g12 143 (cV y):: .box g7 210 [sl A5 xB.length c5]:: .own A5 143 2 xB.length c5 (xB.flatMap cV):: .own (some g6) 143 2 yB.length c6 (yB.flatMap cV):: []) (fun z=>z.1≤xB.length) (fun z=>xB.length - z.1) (0,Ao,co) (LS _) (by rw [M0,xK,LN];exact sB) (by rw [M0,xK,LN];exact mS) ?_
    rintro ⟨k,Az,cz⟩ hk
    dsimp only at hk ⊢
    by_cases hkl:k<xB.length
    · refine dP (A:=A5) pK (by omega) fun g5 hA5=> ?_
      subst hA5
      have hrx:((xB.flatMap cV).drop (0+k*2)).take 2=cV xB[k]:=by rw [LZ];exact eJ iL xB k hkl
      have hrn:=jM (A:=A) (B:=B) (y:=y) (xs:=xB.take k) (x:=xB[k])
      rw [← LQ hkl] at hrn
      have hcl2:=CB (A:=A) (B:=B) (y:=y) (xB.take k)
      rw [LP] at hcl2
      generalize xB[k]=x at hrx hrn
      have hw1:=fun (w' :World) (H:List Blk) (hm:Mem w w' H)=>wZ (lu y x) A la w' (hla.of_w0 hm) (by omega)
      have hw2:=fun (w' :World) (H:List Blk) (hm:Mem w w' H)=>wZ (lu y x) B lb w' (hlb.of_w0 hm) (by omega)
      have hp:mM A B y x=⟨lu y x,gh (lu y x) A,gh (lu y x) B⟩:=rfl
      rw [hp] at hrn
      generalize gh (lu y x) A=wa at hw1 hrn
      generalize gh (lu y x) B=wb at hw2 hrn
      clear hp
      repeat' (first|(apply ak (d:=49);exact rfl;apply aj (j:=k);exact rfl;exact rfl;exact hkl)|(apply ak (d:=50);exact rfl;apply aR (ys:=cV x);exact rfl;exact pK;exact hrx;exact rfl)|refine sT ?_|refine sS ?_|refine sT2 ?_|refine sN ?_|refine sM fun _=> ?_|(refine sC ?_ ?_<;>intro hb<;>try omega)|exact cT|fail)
      all_goals try (exfalso;omega)
      rename_i g15 g16
      generalize iS A B y (xB.take k)=cur at hrn hcl2 ⊢
      have hOl:(prev++cur).length≤800000:=by rw [LC];omega
      refine lK (id:=15) 10 (.box g16 145 (cU ⟨lu y x,wa,wb⟩):: .own Az 145 6 (prev++cur).length cz ((prev++cur).flatMap cU):: .box g12 143 (cV y):: .box g7 210 [sl (some g5) xB.length c5]:: .own (some g5) 143 2 xB.length c5 (xB.flatMap cV):: .own (some g6) 143 2 yB.length c6 (yB.flatMap cV):: []) (by kernel_rfl) (by kernel_rfl) rfl ?_
      repeat' (first|(apply Dg (f' :=132) (f:=60);exact rfl;decide+kernel;exact rfl;exact rfl;(intro w' hm;first|exact hw1 w' _ hm|exact hw2 w' _ hm))|(apply w5 (f:=60) (d:=69);exact rfl;decide+kernel;exact rfl;apply lN;(iterate 5 exact rfl))|(apply kL;exact rfl;exact rfl;exact pK;(iterate 3 exact rfl);exact MW rfl;exact mS)|refine sT ?_|refine sS ?_|refine sT2 ?_|refine sG2 ?_|refine sG ?_|refine sM fun _=> ?_|(refine sC ?_ ?_<;>intro hb<;>try omega)|exact cT|fail)
      all_goals try (exfalso;omega)
      rcases Mx cur.length with h0|hpos
      · have hc0:cur= []:=M5.1 h0
        subst hc0
        have hg:iV [] (⟨lu y x,wa,wb⟩:Pz)= [⟨lu y x,wa,wb⟩]:=rfl
        rw [hg] at hrn
        rw [LN] at hOl ⊢
        repeat' (first|(apply fN (id:=17);kernel_rfl;kernel_rfl)|(apply cI (d:=99) (A:=Az) (m:=1);(iterate 3 exact rfl);exact pK;(intro w hm;exact hm.cells_own pK);exact rfl;(simp [Value.oneCell',sl,cU]);omega;(simp only [maxLen];omega);(intro A' cap' hA'))|refine sT ?_|refine sS ?_|refine sQ ?_|refine sT2 ?_|refine sQ2 ?_|refine sN ?_|refine sNQ ?_|refine sD ?_|refine sM fun _=> ?_|(refine sC ?_ ?_<;>intro hb<;>try omega)|(refine sCQ ?_ ?_<;>intro hb<;>try omega)|exact cT|fail)
        all_goals first
          |(exfalso;omega)
          | (refine ⟨(k + 1, A', cap'), hkl, by dsimp only; omega, ?_, by exact sB, ?_⟩
             · dsimp only;rw [hrn,List.length_append];exact sB
             · dsimp only;rw [hrn,List.length_append,List.flatMap_append];exact mS)
          |trace_state
      · have hne:cur≠ []:=Nc.1 hpos
        have hga:=Gk (l:=prev) (p:=(⟨lu y x,wa,wb⟩:Pz)) hne
        rw [← hrn] at hga
        have hlt2:prev.length<(prev++cur).length:=by rw [LC];omega
        have hOe:=MZ (l:=prev++cur) (by simp [hne])
        generalize (prev++cur).dropLast=O at hOe
        generalize (prev++cur).getLast _=q at hOe
        rw [← hOe] at hga hlt2 hOl ⊢
        rw [uH] at hga
        have hOn:(O++ [q]).length=O.length+1:=by simp
        rw [hOn] at hOl hlt2
        have hq2:(((O++ [q]).flatMap cU).drop (0+O.length*6+4)).take 2=jX (q.a,q.b):=by
          have h1:=eJ cL (O++ [q]) O.length (by simp)
          have h2:=congrArg (List.drop 4) h1
          rw [List.drop_take,MK] at h2
          simp only [List.getElem_concat_length] at h2
          rw [LZ]
          exact h2
        refine dP (A:=Az) pK (by omega) fun gz hAz=> ?_
        subst hAz
        obtain ⟨c,hc⟩: ∃ c,decide ((q.a,q.b)=(wa,wb))=c:=⟨_,rfl⟩
        cases c with
        |true=>
          have hab:q.a=wa∧q.b=wb:=by simpa using hc
          rw [if_pos hab] at hga
          have hset:=Ee cL (O++ [q]) O.length 2 (by simp) (by decide) (.int .i64 x.2) ⟨⟨q.rect.c1,q.rect.r1,x.2,q.rect.r2⟩,q.a,q.b⟩ (by simp only [List.getElem_concat_length];rfl)
          rw [Ny _ _ (LK _),Nat.sub_self,List.set_cons_zero] at hset
          have hOl3:((O++ [q]).flatMap cU).length=(O.length+1)*6:=by rw [aD cL,hOn]
          rw [hOn]
          repeat' (first|(apply fN (id:=17);kernel_rfl;kernel_rfl)|(apply aK (d:=79);exact rfl;apply du (a:=O.length+1);exact rfl;exact rfl;omega;(simp only [maxLen];omega))|(apply aK (d:=80);exact rfl;apply aj (j:=O.length);exact rfl;exact rfl;omega)|(apply aK (d:=82);exact rfl;apply aR (ys:=jX (q.a,q.b));exact rfl;exact pK;exact hq2;exact rfl)|(apply aK (d:=85);exact rfl;apply Cp (a:=(q.a,q.b)) (b:=(wa,wb)) hc;exact rfl;exact rfl)|(apply ak (d:=89);exact rfl;apply du (a:=O.length+1);exact rfl;exact rfl;omega;(simp only [maxLen];omega))|(apply ak (d:=93);exact rfl;apply aj (j:=O.length);exact rfl;exact rfl;omega)|(apply fL (v:= .int .i64 x.2) (off:=0+O.length*6+2);exact rfl;exact rfl;exact pK;exact rfl;(rw [hOl3];omega);rw [LZ,hset])|refine sT ?_|refine sS ?_|refine sQ ?_|refine sT2 ?_|refine sQ2 ?_|refine sN ?_|refine sNQ ?_|refine sD ?_|refine sM fun _=> ?_|(refine sC ?_ ?_<;>intro hb<;>try omega)|(refine sCQ ?_ ?_<;>intro hb<;>try omega)|exact cT|fail)
          all_goals first
            |(exfalso;omega)
            | (refine ⟨(k + 1, some gz, cz), hkl, by dsimp only; omega, ?_, by exact sB, ?_⟩
               · dsimp only;rw [hga,List.length_append];exact sB
               · dsimp only;rw [hga,List.length_append];exact mS)
            |trace_state
        |false=>
          have hab: ¬ (q.a=wa∧q.b=wb):=by simpa using hc
          rw [if_neg hab] at hga
          rw [hOn]
          repeat' (first|(apply fN (id:=17);kernel_rfl;kernel_rfl)|(apply aK (d:=79);exact rfl;apply du (a:=O.length+1);exact rfl;exact rfl;omega;(simp only [maxLen];omega))|(apply aK (d:=80);exact rfl;apply aj (j:=O.length);exact rfl;exact rfl;omega)|(apply aK (d:=82);exact rfl;apply aR (ys:=jX (q.a,q.b));exact rfl;exact pK;exact hq2;exact rfl)|(apply aK (d:=85);exact rfl;apply Cp (a:=(q.a,q.b)) (b:=(wa,wb)) hc;exact rfl;exact rfl)|(apply cI (d:=99) (A:=some gz) (m:=1);(iterate 3 exact rfl);exact pK;(intro w hm;exact hm.cells_own pK);exact rfl;(simp [Value.oneCell',sl,cU]);omega;(simp only [maxLen];omega);(intro A' cap' hA'))|refine sT ?_|refine sS ?_|refine sQ ?_|refine sT2 ?_|refine sQ2 ?_|refine sN ?_|refine sNQ ?_|refine sD ?_|refine sM fun _=> ?_|(refine sC ?_ ?_<;>intro hb<;>try omega)|(refine sCQ ?_ ?_<;>intro hb<;>try omega)|exact cT|fail)
          all_goals first
            |(exfalso;omega)
            | (refine ⟨(k + 1, A', cap'), hkl, by dsimp only; omega, ?_, by exact sB, ?_⟩
               · dsimp only;rw [hga,List.length_append,hOn];exact sB
               · dsimp only;rw [hga,List.length_append,hOn,List.flatMap_append (xs:=O++ [q])];exact mS)
            |trace_state
    · have e:k=xB.length:=by omega
      subst e
      rw [MI,← hsn]
      repeat' (first|refine sT ?_|refine sS ?_|refine sT2 ?_|refine sN ?_|refine sM fun _=> ?_|(refine sC ?_ ?_<;>intro hb<;>try omega)|exact cT|fail)
      all_goals first
        |(exfalso;omega)
        |(refine ⟨(j+1,Az,cz),hjl,by dsimp only;omega,by exact sB,by exact sB,by exact mS⟩;done)
        |trace_state
  · have e:j=yB.length:=by omega
    subst e
    rw [MI,← hpf]
    have hS:=fun (w' :World) (H:List Blk) (hm:Mem w w' H) (lv:Value) (h:Reads w' lv _ _)=>tz PZ hZ lv w' h
    repeat' (first|(apply aa (d:=103);exact rfl;exact rfl;(intro w' hm;exact hS w' _ hm _ (Reads.of_own (A:=Ao) hm pK)))|refine sT ?_|refine sS ?_|refine sT2 ?_|refine sN ?_|refine sM fun _=> ?_|(refine sC ?_ ?_<;>intro hb<;>try omega)|exact cT|fail)
    all_goals first
      |(exfalso;omega)
      |(exact cQ eIO rfl rfl mS ⟨Ao,co,rfl,rfl⟩)
      |trace_state
end Go.SL
