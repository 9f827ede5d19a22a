/-
  Lemmas and walks, put together: Hh Hi He Hf Hg.
-/
import Derived.Test.YthefeclkaaocnaaGreatDoorKj24
set_option linter.unusedSimpArgs false
set_option linter.unusedVariables false
set_option maxRecDepth 20000
namespace Go.SL
open Go Go.Proofs
attribute [local irreducible] W WL WQ WG WA WX WLI WR WT WC WE VOp RW thn blk bG scp bg bi bT aQ FnIn FnP ceP
--
def du (p:Int × Int):List Value:= [.int .i64 p.1,.int .i64 p.2]
theorem jH (p:Int × Int):(du p).length=2:=rfl
theorem Bm (lo:Int) (ps:List (Int × Int)) (p:Int × Int):dl lo (ps++ [p])=dl lo ps++ [p.1,p.2+1]:=by
 unfold dl;simp
def pg (lo hi x:Int):Bool:=decide (lo≤x) && decide (x≤hi)
theorem FM {l:List Int} {h x:Int} (hl:l≠ []):((dK l h).flatMap du).set (0+((dK l h).length - 1)*2+1) (fE (x - 1))=(dK l (x - 1)).flatMap du:=by
 obtain ⟨f,a,h1,h2⟩:=zX l h (x - 1) hl
 rw [h1,h2]
 simp only [NR,ND,NG,Pa,NU,Oy,NM,du]
 rw [PV _ _ (by rw [aI jH];omega),aI jH]
 congr 1
 rw [show 0+f.length*2+1 - f.length*2=1 by omega]
 rfl
set_option maxHeartbeats 8000000 in
theorem Bn (lo hi:Int) (ps:List (Int × Int)) (lv:Value) (w:World) (hl:Reads w lv ps.length (ps.flatMap du)) (hn:ps.length≤100000) (hlo:0≤lo∧lo≤100000) (hhi:0≤hi∧hi≤100000) (hps: ∀ p∈ps,0≤p.1∧p.1≤100000∧0≤p.2∧p.2≤100000):
    aQ Tryz.prog 131 [.int .i64 lo,.int .i64 hi,lv] w fun v H=> ∃ A cap,v=sl A (cE lo hi ps).length cap∧H= [.own A 143 2 (cE lo hi ps).length cap ((cE lo hi ps).flatMap du)]:=by
  obtain ⟨Al,cl,rfl,hl1,hl2,hl3⟩:=hl
  refine aq Tryz.func131 rfl Tryz.ntmps131 rfl ?_
  repeat' (first|refine sT ?_|refine sS ?_|refine sT2 ?_|refine sM fun _=> ?_|(refine sC ?_ ?_<;>intro hb<;>try omega)|fail)
  rename_i gb
  refine ay [0,1,15,16] rfl (fun y:Nat × Option Nat × Nat=> [(7,sl y.2.1 (1+2*y.1) y.2.2),(17,.int .i64 (y.1:Int))]) (fun y=> [.own y.2.1 3 1 (1+2*y.1) y.2.2 ((dl lo (ps.take y.1)).map fE)]) (fun y=>y.1≤ps.length) (fun y=>ps.length - y.1) (0,some gb,1) (NY _) sB mS ?_
  rintro ⟨i,A,c⟩ hi0
  dsimp only at hi0 ⊢
  by_cases hlt:i<ps.length
  · obtain ⟨gl,ol,rfl,hrl⟩:=hl3 (by omega)
    have he1:=hrl.elem jH i hlt
    have hbs:dl lo (ps.take (i+1))=dl lo (ps.take i)++ [ps[i].1,ps[i].2+1]:=by rw [NT hlt,Bm]
    have hpb:=hps _ (OD hlt)
    generalize ps[i]=p at he1 hbs hpb
    repeat' (first|(apply cR (A:=A) (m:=2);(iterate 3 exact rfl);exact pK;(intro w hm;exact hm.cells_own pK);exact rfl;(simp [Value.oneCell',sl]);omega;(simp only [maxLen];omega);(intro A' cap' hA'))|refine sT ?_|refine sS ?_|refine sT2 ?_|refine sN ?_|refine sJ ?_|refine sO ?_|refine sM fun _=> ?_|(refine sC ?_ ?_<;>intro hb<;>try omega)|fail)
    all_goals first
      |(exfalso;omega)
      | (refine ⟨(i + 1, A', cap'), hlt, by dsimp only; omega, by exact sB, by exact sB, ?_⟩
         dsimp only
         rw [hbs,Pb]
         exact mS)
      |trace_state
  · have e:i=ps.length:=by omega
    subst e
    rw [OX]
    have hbl:=rO lo ps
    have hs1:=fun (R:List Blk)=>zp (dl lo ps) A c (by omega) R w
    have hsl:(jm (dl lo ps)).length=1+2*ps.length:=by rw [(il _).length_eq,hbl]
    have hs2:=fun (R:List Blk)=>BI (jm (dl lo ps)) A c (by omega) R w
    rw [hbl] at hs1
    rw [hsl] at hs2
    have hcl:=u5 (jm (dl lo ps))
    rw [hsl] at hcl
    have hcut:uZ lo hi ps=(fY (jm (dl lo ps))).filter (pg lo hi):=rfl
    have hbd: ∀ x∈fY (jm (dl lo ps)),0≤x∧x≤100001:=fun x hx=>by
      rw [nk,(il _).mem_iff,dl,NS,OL] at hx
      rcases hx with rfl|⟨p,hp,hx⟩
      · omega
      · have:=hps p hp
        simp at hx
        omega
    unfold cE
    rw [hcut]
    generalize fY (jm (dl lo ps))=C at hs2 hcl hbd
    refine aP 143 2 ?_
    repeat' (first|(apply aw (f:=164);exact rfl;exact rfl;exact FnIn.msub (hs1 _) (MSub.pick pK (MSub.refl _));rintro _ _ ⟨rfl,rfl⟩)|(apply aw (f:=165);exact rfl;exact rfl;exact FnIn.msub (hs2 _) (MSub.pick pK (MSub.refl _));rintro _ _ ⟨rfl,rfl⟩)|refine sT ?_|refine sS ?_|refine sT2 ?_|refine sN ?_|refine sM fun _=> ?_|(refine sC ?_ ?_<;>intro hb<;>try omega)|fail)
    all_goals try (exfalso;omega)
    refine ay [0,1,33,34] rfl (fun y:Nat × Option Nat × Nat=> [(10,sl y.2.1 (dK ((C.take y.1).filter (pg lo hi)) hi).length y.2.2),(35,.int .i64 (y.1:Int))]) (fun y=> [.own y.2.1 143 2 (dK ((C.take y.1).filter (pg lo hi)) hi).length y.2.2 ((dK ((C.take y.1).filter (pg lo hi)) hi).flatMap du),.own A 3 1 C.length c (C.map fE)]) (fun y=>y.1≤C.length) (fun y=>C.length - y.1) (0,none,0) (NY _) sB mS ?_
    rintro ⟨k,A2,c2⟩ hk
    dsimp only at hk ⊢
    by_cases hlk:k<C.length
    · refine gx (A:=A) pK (by omega) fun gc hA=> ?_
      subst hA
      have hrd:(C.map fE)[0+k*1]? =some (.int .i64 C[k]):=Ma hlk
      have hxb:=hbd _ (OD hlk)
      have hfs:(C.take (k+1)).filter (pg lo hi)=if pg lo hi C[k]=true then (C.take k).filter (pg lo hi)++ [C[k]] else (C.take k).filter (pg lo hi):=by
        rw [NT hlk,List.filter_append]
        cases h:pg lo hi C[k]<;>simp [h]
      have hfl:((C.take k).filter (pg lo hi)).length≤300000:=Ok (PY _ _) (by rw [NZ];omega)
      generalize hx:C[k]=x at hrd hxb hfs
      generalize hF:(C.take k).filter (pg lo hi)=Fk at hfs hfl
      have hpl:=l4 hi Fk
      by_cases hin:lo≤x∧x≤hi
      · have hin2:pg lo hi x=true:=by simp [pg,hin.1,hin.2]
        rw [if_pos hin2] at hfs
        have hsn:=ko x hi Fk
        rw [← hfs] at hsn
        have hpl2:=l4 (x - 1) Fk
        by_cases h0:Fk= []
        · subst h0
          rw [show dK [] (x - 1)= [] from rfl,NH] at hsn
          repeat' (first|(apply ak (d:=37);exact rfl;apply aj (j:=k);exact rfl;exact rfl;exact hlk)|(apply ak (d:=38);exact rfl;apply bF;exact rfl;exact pK;exact hrd)|(apply ak;exact rfl;apply nW;(iterate 5 exact rfl))|(apply cR (A:=A2) (m:=1);(iterate 3 exact rfl);exact pK;(intro w hm;exact hm.cells_own pK);exact rfl;(simp [Value.oneCell',sl]);omega;(simp only [maxLen];omega);(intro A' cap' hA'))|refine sT ?_|refine sS ?_|refine sT2 ?_|refine sN ?_|refine sJ ?_|refine sO ?_|refine sM fun _=> ?_|(refine sC ?_ ?_<;>intro hb<;>try omega)|fail)
          all_goals first
            |(exfalso;omega)
            | (refine ⟨(k + 1, A', cap'), hlk, by dsimp only; omega, ?_, by exact sB, ?_⟩
               · dsimp only;rw [hsn];exact sB
               · dsimp only;rw [hsn];exact mS)
            |trace_state
        · have hpos:0<Fk.length:=O2.2 h0
          have hset:=FM (h:=hi) (x:=x) h0
          rw [hpl] at hset
          refine gx (A:=A2) pK (by omega) fun g2 hA=> ?_
          subst hA
          rw [hpl]
          repeat' (first|(apply ak (d:=37);exact rfl;apply aj (j:=k);exact rfl;exact rfl;exact hlk)|(apply ak (d:=38);exact rfl;apply bF;exact rfl;exact pK;exact hrd)|(apply ak (d:=53);exact rfl;apply dM (a:=Fk.length);exact rfl;exact rfl;omega;(simp only [maxLen];omega))|(apply ak (d:=56);exact rfl;apply aj (j:=Fk.length - 1);exact rfl;exact rfl;omega)|(apply gL (v:=fE (x - 1)) (off:=0+(Fk.length - 1)*2+1);exact rfl;exact rfl;exact pK;exact rfl;(rw [aI jH,hpl];omega);rw [hset])|(apply ak;exact rfl;apply nW;(iterate 5 exact rfl))|(apply cR (A:=some g2) (m:=1);(iterate 3 exact rfl);exact pK;(intro w hm;exact hm.cells_own pK);exact rfl;(simp [Value.oneCell',sl]);omega;(simp only [maxLen];omega);(intro A' cap' hA'))|refine sT ?_|refine sS ?_|refine sT2 ?_|refine sN ?_|refine sJ ?_|refine sO ?_|refine sM fun _=> ?_|(refine sC ?_ ?_<;>intro hb<;>try omega)|fail)
          all_goals first
            |(exfalso;omega)
            | (refine ⟨(k + 1, A', cap'), hlk, by dsimp only; omega, ?_, by exact sB, ?_⟩
               · dsimp only;rw [hsn,List.length_append,hpl2];exact sB
               · dsimp only;rw [hsn,List.length_append,hpl2,List.flatMap_append];exact mS)
            |trace_state
      · have hin2: ¬ pg lo hi x=true:=by simp only [pg,NK,decide_eq_true_eq];exact hin
        rw [if_neg hin2] at hfs
        repeat' (first|(apply ak (d:=37);exact rfl;apply aj (j:=k);exact rfl;exact rfl;exact hlk)|(apply ak (d:=38);exact rfl;apply bF;exact rfl;exact pK;exact hrd)|refine sT ?_|refine sS ?_|refine sT2 ?_|refine sN ?_|refine sJ ?_|refine sO ?_|refine sM fun _=> ?_|(refine sC ?_ ?_<;>intro hb<;>try omega)|fail)
        all_goals first
          |(exfalso;omega)
          | (refine ⟨(k + 1, A2, c2), hlk, by dsimp only; omega, ?_, by exact sB, ?_⟩
             · dsimp only;rw [hfs];exact sB
             · dsimp only;rw [hfs];exact mS)
          |trace_state
    · have e:k=C.length:=by omega
      subst e
      rw [OX]
      repeat' (first|refine sT ?_|refine sS ?_|refine sT2 ?_|refine sM fun _=> ?_|(refine sC ?_ ?_<;>intro hb<;>try omega)|fail)
      all_goals first
        |(exfalso;omega)
        |(exact dF eIO rfl rfl mS ⟨A2,c2,rfl,rfl⟩)
        |trace_state
end Go.SL
namespace Go.SL
open Go Go.Proofs
def lI (p:Nat × Nat):List Value:= [.int .i64 (p.1:Int),.int .i64 (p.2:Int)]
theorem HW (w:World) (d:Nat) (a b:Nat × Nat):(Op.equalIn (d+5) 143 (.agg (lI a).toArray) (.agg (lI b).toArray)).run Tryz.prog w= .ok (decide (a=b)) w:=by
 obtain ⟨i,h1,h2⟩:=(inferInstance:Size Tryz.prog 3 1).out
 have hc:Tryz.prog.cellsOf 3=1:=by kernel_rfl
 rw [run_equalIn_array w (d+4) (lI a).toArray (lI b).toArray Tryz.underlying143 h1,hc,show List.range 2= [0,1] from rfl]
 have hr: ∀ (a b:Int) w,(Op.equalIn (d+4) 3 (.int .i64 a) (.int .i64 b)).run Tryz.prog w= .ok (a==b) w:=fun a b w=>run_equalIn_int w (d+3) 3 .i64 .i64 a b Tryz.underlying3
 have hpa: ∀ (c:Nat × Nat) w,(part 3 (lI c).toArray 0).run Tryz.prog w= .ok (.int .i64 (c.1:Int)) w:=by
  intro c w
  simp [part,go_sem,lI]
 have hpb: ∀ (c:Nat × Nat) w,(part 3 (lI c).toArray 1).run Tryz.prog w= .ok (.int .i64 (c.2:Int)) w:=by
  intro c w
  simp [part,go_sem,lI]
 have he:decide (a=b)=((a.1:Int)==b.1 && (a.2:Int)==b.2):=by
  obtain ⟨a1,a2⟩:=a
  obtain ⟨b1,b2⟩:=b
  rw [Om]
  simp
  omega
 rw [he]
 by_cases h1:((a.1:Int)==b.1)=true<;>by_cases h2:((a.2:Int)==b.2)=true<;>simp [Op.eqItems,hpa,hpb,hr,h1,h2]
theorem Ei {w0:World} {s:az} {H:List Blk} {ty t' :TypeId} {x y:Operand} {a b:Nat × Nat} {c:Bool} (hc:decide (a=b)=c) (hx:ev s x=some (.agg (lI a).toArray)) (hy:ev s y=some (.agg (lI b).toArray)):VOp Tryz.prog w0 s H (.binOp .eql 143 x y t') ty (.bool c):=fun ρ w _ _ _ _ hρ _=>by
 subst hc
 have h:=HW w 9995 a b
 simp only [Nat.reduceAdd] at h
 simp only [execOp,hρ x _ hx,hρ y _ hy,Sem.run_bind,run_eqGuard_agg w _ _ _ _ _ _ Tryz.eqGuardType143,Result.andThen_ok,run_eql_struct,h,Sem.run_pure]
end Go.SL
namespace Go.SL
open Go Go.Proofs
attribute [local irreducible] W WL WQ WG WA WX WLI WR WT WC WE VOp RW thn blk bG scp bg bi bT aQ FnIn FnP ceP
theorem EK {a b:Rct} (h:(dV a b).2=true):aF (dV a b).1=true:=by
 unfold dV at h ⊢
 split at h
 ·
  rename_i hall
  rw [if_pos hall]
  simp only [PP,List.all_nil,Qk,NK] at hall
  exact hall.2.2
 ·
  cases h
theorem Bg (r:Rct) (L:List Rl) (x:Rl):aU r (L++ [x])=aU r L++if (dV x.rect r).2=true then [((dV x.rect r).1.c1,(dV x.rect r).1.c2)] else []:=by
 unfold aU;simp
theorem zw (r:Rct) (L:List Rl) (x:Rl):aS r (L++ [x])=aS r L++if (dV x.rect r).2=true then [((dV x.rect r).1.r1,(dV x.rect r).1.r2)] else []:=by
 unfold aS;simp
theorem eB (r:Rct): ∀ L:List Rl,(aU r L).length≤L.length
 | []=>NJ _
 |x::L=>by
  have:=eB r L
  unfold aU at this ⊢
  rw [NU,ND]
  split<;>simp only [N8,P9]<;>omega
theorem d9 (r:Rct): ∀ L:List Rl,(aS r L).length≤L.length
 | []=>NJ _
 |x::L=>by
  have:=d9 r L
  unfold aS at this ⊢
  rw [NU,ND]
  split<;>simp only [N8,P9]<;>omega
theorem qk {r:Rct} {L:List Rl}: ∀ p∈aU r L,0≤p.1∧p.1≤100000∧0≤p.2∧p.2≤100000:=fun p hp=>by
 obtain ⟨x,_,hx⟩:=OL.1 hp
 split at hx
 ·
  rename_i h
  have:=cN.1 (EK h)
  rw [Ov.1 hx]
  simp only;omega
 ·
  cases hx
theorem pT {r:Rct} {L:List Rl}: ∀ p∈aS r L,0≤p.1∧p.1≤100000∧0≤p.2∧p.2≤100000:=fun p hp=>by
 obtain ⟨x,_,hx⟩:=OL.1 hp
 split at hx
 ·
  rename_i h
  have:=cN.1 (EK h)
  rw [Ov.1 hx]
  simp only;omega
 ·
  cases hx
def ry (g:Nat) (A:Option Nat) (c:Nat) (C:List (Int × Int)):List Blk:= [.box g 210 [sl A C.length c],.own A 143 2 C.length c (C.flatMap du)]
set_option maxHeartbeats 8000000 in
theorem EI (r:Rct) (L:List Rl) (lv:Value) (gr gc gw:Nat) (A1 A2:Option Nat) (c1 c2:Nat) (C D:List (Int × Int)) (R:List Blk) (w0:World) (hl:Reads w0 lv L.length (L.flatMap bn)) (hC:C.length+L.length≤100000) (hD:D.length+L.length≤100000):
  FnIn Tryz.prog 129 [lv,.pointer (some ⟨gr,0,none⟩),.pointer (some ⟨gc,0,none⟩),.pointer (some ⟨gw,0,none⟩)] w0 (.box gr 33 (bQ r)::(ry gc A1 c1 C++(ry gw A2 c2 D++R))) fun v H=>
   v= .tuple #[]∧ ∃ A1' c1' A2' c2',H= .box gr 33 (bQ r)::(ry gc A1' c1' (C++aU r L)++(ry gw A2' c2' (D++aS r L)++R)):=by
 obtain ⟨Al,cl,rfl,hl1,hl2,hl3⟩:=hl
 refine eC Tryz.func129 rfl Tryz.ntmps129 rfl ?_
 simp only [ry,NN,NF,NH]
 repeat' (first|refine sT ?_|refine sS ?_|refine sM fun _=> ?_|(refine sC ?_ ?_<;>intro hb<;>try omega)|fail)
 refine ay [1,2,3,9,10] rfl (fun y:Nat × Option Nat × Nat × Option Nat × Nat=> [(11,.int .i64 (y.1:Int))]) (fun y=> .box gr 33 (bQ r):: .box gc 210 [sl y.2.1 (C++aU r (L.take y.1)).length y.2.2.1]:: .own y.2.1 143 2 (C++aU r (L.take y.1)).length y.2.2.1 ((C++aU r (L.take y.1)).flatMap du):: .box gw 210 [sl y.2.2.2.1 (D++aS r (L.take y.1)).length y.2.2.2.2]:: .own y.2.2.2.1 143 2 (D++aS r (L.take y.1)).length y.2.2.2.2 ((D++aS r (L.take y.1)).flatMap du)::R) (fun y=>y.1≤L.length) (fun y=>L.length - y.1) (0,A1,c1,A2,c2) (NY _) sB (by simp only [Pj,aU,aS,Oy,NM];exact mS) ?_
 rintro ⟨i,A1,c1,A2,c2⟩ hi
 dsimp only at hi ⊢
 by_cases hlt:i<L.length
 ·
  obtain ⟨gl,ol,rfl,hrl⟩:=hl3 (by omega)
  have he1:=hrl.elem cK i hlt
  have hcs:=Bg r (L.take i) L[i]
  have hws:=zw r (L.take i) L[i]
  rw [← NT hlt] at hcs hws
  have hcl:=eB r (L.take i)
  have hwl:=d9 r (L.take i)
  rw [NZ] at hcl hwl
  generalize L[i]=x at he1 hcs hws
  have hM:=fun w=>EX x.rect r w
  generalize dV x.rect r=mt at hM hcs hws
  obtain ⟨mr,mb⟩:=mt
  dsimp only at hM hcs hws
  generalize aU r (L.take i)=C1 at hcs hcl ⊢
  generalize aS r (L.take i)=D1 at hws hwl ⊢
  have hCl:(C++C1).length≤200000:=by rw [ND];omega
  have hDl:(D++D1).length≤200000:=by rw [ND];omega
  have hC2:C++aU r (L.take (i+1))=(C++C1)++if mb=true then [(mr.c1,mr.c2)] else []:=by rw [hcs,OA]
  have hD2:D++aS r (L.take (i+1))=(D++D1)++if mb=true then [(mr.r1,mr.r2)] else []:=by rw [hws,OA]
  generalize C++C1=C3 at hC2 hCl ⊢
  generalize D++D1=D3 at hD2 hDl ⊢
  cases mb
  ·
   rw [if_neg (by decide),NM] at hC2 hD2
   repeat' (first|(apply aa;exact rfl;exact rfl;(intro w hm;exact hM w))|refine sT ?_|refine sS ?_|refine sN ?_|refine sO ?_|refine sM fun _=> ?_|(refine sC ?_ ?_<;>intro hb<;>try omega)|fail)
   all_goals first
    |(exfalso;omega)
    |(refine ⟨(i+1,A1,c1,A2,c2),hlt,by dsimp only;omega,by exact sB,by exact sB,?_⟩;dsimp only;rw [hC2,hD2];exact mS)
    |trace_state
  ·
   rw [if_pos rfl] at hC2 hD2
   have hC4:(C3++ [(mr.c1,mr.c2)]).flatMap du=C3.flatMap du++ [.int .i64 mr.c1,.int .i64 mr.c2]:=by simp [du]
   have hD4:(D3++ [(mr.r1,mr.r2)]).flatMap du=D3.flatMap du++ [.int .i64 mr.r1,.int .i64 mr.r2]:=by simp [du]
   repeat' (first|(apply aa;exact rfl;exact rfl;(intro w hm;exact hM w))|(apply ak;exact rfl;apply nW;(iterate 5 exact rfl))|(apply cR (d:=30) (A:=A1) (m:=1);(iterate 3 exact rfl);exact pK;(intro w hm;exact hm.cells_own pK);exact rfl;(simp [Value.oneCell',sl]);omega;(simp only [maxLen];omega);(intro A3 c3 hA3))|(apply cR (d:=38) (A:=A2) (m:=1);(iterate 3 exact rfl);exact pK;(intro w hm;exact hm.cells_own pK);exact rfl;(simp [Value.oneCell',sl]);omega;(simp only [maxLen];omega);(intro A4 c4 hA4))|refine sT ?_|refine sS ?_|refine sN ?_|refine sO ?_|refine sM fun _=> ?_|(refine sC ?_ ?_<;>intro hb<;>try omega)|fail)
   all_goals first
    |(exfalso;omega)
    |(refine ⟨(i+1,A3,c3,A4,c4),hlt,by dsimp only;omega,by exact sB,by exact sB,?_⟩;dsimp only;rw [hC2,hD2,hC4,hD4,List.length_append,List.length_append];exact mS)
    |trace_state
 ·
  have e:i=L.length:=by omega
  subst e
  rw [OX]
  repeat' (first|refine sT ?_|refine sS ?_|refine sM fun _=> ?_|(refine sC ?_ ?_<;>intro hb<;>try omega)|fail)
  all_goals first
   |(exfalso;omega)
   |(exact iX eIO rfl (.refl _) ⟨rfl,A1,c1,A2,c2,rfl⟩)
   |trace_state
end Go.SL
namespace Go.SL
open Go Go.Proofs
attribute [local irreducible] W WL WQ WG WA WX WLI WR WT WC WE VOp RW thn blk bG scp bg bi bT aQ FnIn FnP ceP
def Gd (p q:Pz):Int:=if p.rect.r1≠q.rect.r1 then p.rect.r1 - q.rect.r1 else p.rect.c1 - q.rect.c1
def tS (p:Pz):Prop:=0≤p.rect.r1∧p.rect.r1≤100000∧0≤p.rect.c1∧p.rect.c1≤100000
theorem K9 (p q:Pz) (hp:tS p) (hq:tS q) (w:World):ax Tryz.prog 134 [.agg (dr p).toArray,.agg (dr q).toArray] w (.int .i64 (Gd p q)):=by
 refine aq Tryz.func134 rfl Tryz.ntmps134 rfl ?_
 obtain ⟨h1,h2,h3,h4⟩:=hp
 obtain ⟨h5,h6,h7,h8⟩:=hq
 repeat' (first|refine sT ?_|refine sJ ?_|refine sM fun _=> ?_|(refine sC ?_ ?_<;>intro hb<;>try omega)|fail)
 all_goals first
  |(exfalso;omega)
  |((refine rT1 ?_);rw [Gd,if_pos hb];done)
  |((refine rT1 ?_);rw [Gd,if_neg (fun h=>h hb)];done)
  |((refine rT1 ?_);rw [Gd,if_neg (fun h=>hb h)];done)
  |trace_state
structure InZ (L:List Pz):Prop where
 sort:L.Pairwise IL
 small: ∀ p∈L,tS p
 len:L.length≤1000000
theorem InZ.cmp {L:List Pz} (h:InZ L) {i j:Nat} (hij:i≤j) (hj:j<L.length): ∃ z:Int,0≤z∧ ∀ w,ax Tryz.prog 134 [.agg (dr L[j]).toArray,.agg (dr (L[i]'(by omega))).toArray] w (.int .i64 z):=by
 refine ⟨_,?_,fun w=>K9 _ _ (h.small _ (OD hj)) (h.small _ (OD _)) w⟩
 by_cases e:i=j
 ·
  subst e;simp [Gd]
 ·
  have:=List.pairwise_iff_getElem.1 h.sort i j (by omega) hj (by omega)
  unfold Gd
  rcases this with h1|⟨h1,h2⟩
  ·
   rw [if_pos (by omega)];omega
  ·
   rw [if_neg (by omega)];omega
abbrev Lb:Value:= .func (.func 134) #[] #[]
set_option maxHeartbeats 4000000 in
theorem KM (L:List Pz) (hL:InZ L) (lv:Value) (w:World) (hl:Reads w lv L.length (L.flatMap dr)) (a b:Nat) (hb:b≤L.length) (ha:a≤L.length):
  ax Tryz.prog 213 [lv,.int .i64 (a:Int),.int .i64 (b:Int),Lb] w (.tuple #[]):=by
 obtain ⟨Al,cl,rfl,hl1,hl2,hl3⟩:=hl
 refine aq Tryz.func213 rfl Tryz.ntmps213 rfl ?_
 have hlen:=hL.len
 repeat' (first|refine sT ?_|refine sS ?_|refine sN ?_|refine sM fun _=> ?_|(refine sC ?_ ?_<;>intro hb<;>try omega)|fail)
 refine ay [0,1,2,3] rfl (fun i:Nat=> [(8,.int .i64 (i:Int))]) (fun _=> []) (fun i=>a+1≤i∧i≤max b (a+1)) (fun i=>max b (a+1) - i) (a+1) ⟨NJ _,by omega⟩ sB mS ?_
 rintro i ⟨hi,hi2⟩
 by_cases hlt:i<b
 ·
  obtain ⟨gl,ol,rfl,hrl⟩:=hl3 (by omega)
  obtain ⟨z,hz,hc⟩:=hL.cmp (i:=i - 1) (j:=i) (by omega) (by omega)
  have h1:=hrl.elem cW i (by omega)
  have h2:=hrl.elem cW (i - 1) (by omega)
  generalize L[i]'(by omega)=p at h1 hc
  generalize L[i - 1]'(by omega)=q at h2 hc
  repeat' (first|refine sT ?_|refine sS ?_|refine sN ?_|refine sM fun _=> ?_|(refine sC ?_ ?_<;>intro hb<;>try omega)|fail)
  all_goals try (exfalso;omega)
  refine ay [0,1,2,3,8] rfl (fun _:Unit=> [(9,.int .i64 (i:Int))]) (fun _=> []) (fun _=>True) (fun _=>0) () trivial sB mS ?_
  rintro _ _
  repeat' (first|(apply gN (id:=4);kernel_rfl;kernel_rfl)|(apply aK (d:=25);exact rfl;apply aj (j:=i);exact rfl;exact rfl;omega)|(apply aK (d:=30);exact rfl;apply aj (j:=i - 1);exact rfl;exact rfl;omega)|(apply aK (d:=26);exact rfl;apply aA (xs:=dr p);exact rfl;exact h1;exact rfl)|(apply aK (d:=31);exact rfl;apply aA (xs:=dr q);exact rfl;exact h2;exact rfl)|(apply ia;exact rfl;exact rfl;infer_instance;exact rfl;(intro w' _;exact hc w'))|refine sT ?_|refine sS ?_|refine sQ ?_|refine sN ?_|refine sNQ ?_|refine sO ?_|refine sOQ ?_|refine sD ?_|refine sM fun _=> ?_|(refine sC ?_ ?_<;>intro hb<;>try omega)|(refine sCQ ?_ ?_<;>intro hb<;>try omega)|fail)
  all_goals first
   |(exfalso;omega)
   |(refine ⟨i+1,⟨by omega,by omega⟩,by omega,by exact sB,by exact sB,by exact mS⟩;done)
   |trace_state
 ·
  repeat' (first|refine sT ?_|refine sS ?_|refine sM fun _=> ?_|(refine sC ?_ ?_<;>intro hb<;>try omega)|fail)
  all_goals first
   |(exfalso;omega)
   |(exact iX eIO rfl (MSub.nil _) rfl)
   |trace_state
section
variable {P:Program} {n:Fr} {w0:World} {Q:bO} {s:az} {H:List Blk} {l rest:List Oper} {ty:TypeId} {p:String} {af:Array Edge}
theorem v8 {x:Operand} {a:Nat} {t t' :TypeId} {d:TypeDesc} [hs:Und P t d] [hd:Und P t' (.int .u64)] (hx:ev s x=some (.int .i64 (a:Nat))) (h:a≤maxLen):VOp P w0 s H (.convert t t' x) ty (.int .u64 (a:Nat)):=
 bI (k:= .i64) hx (by rw [IntKind.wrap_u64];simp only [maxLen] at h;omega)
theorem wg {x:Operand} {a:Nat} {t t' :TypeId} {d:TypeDesc} [hs:Und P t d] [hd:Und P t' (.int .i64)] (hx:ev s x=some (.int .u64 (a:Nat))) (h:a≤maxLen):VOp P w0 s H (.convert t t' x) ty (.int .i64 (a:Nat)):=
 bI (k:= .u64) hx (I64.wrap ⟨by omega,by simp only [maxLen] at h;omega⟩)
theorem qI {x y:Operand} {a:Nat} {t t' :TypeId} (hx:ev s x=some (.int .u64 (a:Nat))) (hy:ev s y=some (.int .u64 1)):VOp P w0 s H (.binOp .shr t x y t') ty (.int .u64 ((a / 2:Nat):Int)):=by
 have h:=jZ (P:=P) (w0:=w0) (H:=H) (ty:=ty) (t:=t) (t' :=t') (m:=1) hx hy rfl
 have e:((a:Int) / 2 ^ 1)=((a / 2:Nat):Int):=by omega
 rwa [e] at h
theorem xE {x y:Operand} {a b:Nat} {t t' :TypeId} (hx:ev s x=some (.int .i64 (a:Nat))) (hy:ev s y=some (.int .i64 (b:Nat))) (ha:a*b≤maxLen):VOp P w0 s H (.binOp .mul t x y t') ty (.int .i64 ((a*b:Nat):Int)):=by
 rw [Int.natCast_mul]
 have e:((a:Int)*b)=((a*b:Nat):Int):=(Int.natCast_mul a b).symm
 exact tE hx hy ⟨by rw [e];omega,by rw [e];simp only [maxLen] at ha;omega⟩
end
set_option maxHeartbeats 16000000 in
theorem Er (L:List Pz) (hL:InZ L) (lv:Value) (w:World) (hl:Reads w lv L.length (L.flatMap dr)): ∀ (k a m b:Nat),b - a≤k→a<m→m<b→b≤L.length→ ∀ w',(∃ H',Mem w w' H')→
  ax Tryz.prog 214 [lv,.int .i64 (a:Int),.int .i64 (m:Int),.int .i64 (b:Int),Lb] w' (.tuple #[])
 |0,a,m,b,hk,h1,h2,_=>by omega
 |k+1,a,m,b,hk,h1,h2,h3=>by
  intro w' ⟨H',hm'⟩
  have hl' :=hl.of_w0 hm'
  have IH:=fun (a m b:Nat) (g1:b - a≤k) (g2:a<m) (g3:m<b) (g4:b≤L.length) (w2:World) (H2:List Blk) (hm2:Mem w' w2 H2)=>Er L hL lv w' hl' k a m b g1 g2 g3 g4 w2 ⟨H2,hm2⟩
  have hl0:=hl'
  obtain ⟨Al,cl,rfl,hl1,hl2,hl3⟩:=hl'
  refine aq Tryz.func214 rfl Tryz.ntmps214 rfl ?_
  have hlen:=hL.len
  obtain ⟨gl,ol,rfl,hrl⟩:=hl3 (by omega)
  by_cases c1:m - a=1
  ·
   repeat' (first|refine sT ?_|refine sS ?_|refine sN ?_|refine sM fun _=> ?_|(refine sC ?_ ?_<;>intro hb<;>try omega)|fail)
   all_goals try (exfalso;omega)
   refine ay [0,1,2,3,4,10] rfl (fun j:Nat=> [(11,.int .i64 (j:Int))]) (fun _=> []) (fun j=>m≤j∧j≤b) (fun j=>j - m) b ⟨by omega,by omega⟩ sB mS ?_
   rintro j ⟨hj1,hj2⟩
   by_cases hlt:m<j
   ·
    obtain ⟨z,hz,hc⟩:=hL.cmp (i:=a) (j:=(m+j) / 2) (by omega) (by omega)
    have r1:=hrl.elem cW ((m+j) / 2) (by omega)
    have r2:=hrl.elem cW a (by omega)
    generalize L[(m+j) / 2]'(by omega)=p at r1 hc
    generalize L[a]'(by omega)=q at r2 hc
    repeat' (first|(apply ak;exact rfl;apply v8 (a:=m+j);exact rfl;(simp only [maxLen];omega))|(apply ak;exact rfl;apply qI (a:=m+j);exact rfl;exact rfl)|(apply ak;exact rfl;apply wg (a:=(m+j) / 2);exact rfl;(simp only [maxLen];omega))|(apply gN (id:=5);kernel_rfl;kernel_rfl)|(apply aK (d:=43);exact rfl;apply aj (j:=(m+j) / 2);exact rfl;exact rfl;omega)|(apply aK (d:=47);exact rfl;apply aj (j:=a);exact rfl;exact rfl;omega)|(apply aK (d:=44);exact rfl;apply aA (xs:=dr p);exact rfl;exact r1;exact rfl)|(apply aK (d:=48);exact rfl;apply aA (xs:=dr q);exact rfl;exact r2;exact rfl)|(apply ia;exact rfl;exact rfl;infer_instance;exact rfl;(intro w' _;exact hc w'))|refine sT ?_|refine sS ?_|refine sQ ?_|refine sN ?_|refine sNQ ?_|refine sD ?_|refine sM fun _=> ?_|(refine sC ?_ ?_<;>intro hb<;>try omega)|(refine sCQ ?_ ?_<;>intro hb<;>try omega)|fail)
    all_goals first
     |(exfalso;omega)
     |(refine ⟨(m+j) / 2,⟨by omega,by omega⟩,by omega,by exact sB,by exact sB,by exact mS⟩;done)
     |trace_state
   ·
    have e:j=m:=by omega
    subst e
    repeat' (first|refine sT ?_|refine sS ?_|refine sN ?_|refine sM fun _=> ?_|(refine sC ?_ ?_<;>intro hb<;>try omega)|fail)
    all_goals try (exfalso;omega)
    refine ay [0,1,2,3,4,10] rfl (fun _:Unit=> [(13,.int .i64 (a:Int))]) (fun _=> []) (fun _=>True) (fun _=>0) () trivial sB mS ?_
    rintro _ _
    repeat' (first|refine sT ?_|refine sS ?_|refine sN ?_|refine sM fun _=> ?_|(refine sC ?_ ?_<;>intro hb<;>try omega)|fail)
    all_goals first
     |(exfalso;omega)
     |(exact iX eIO rfl (MSub.nil _) rfl)
     |trace_state
  by_cases c2:b - m=1
  ·
   repeat' (first|refine sT ?_|refine sS ?_|refine sN ?_|refine sM fun _=> ?_|(refine sC ?_ ?_<;>intro hb<;>try omega)|fail)
   all_goals try (exfalso;omega)
   refine ay [0,1,2,3,4,15] rfl (fun i:Nat=> [(14,.int .i64 (i:Int))]) (fun _=> []) (fun i=>a≤i∧i≤m) (fun i=>m - i) a ⟨by omega,by omega⟩ sB mS ?_
   rintro i ⟨hi1,hi2⟩
   by_cases hlt:i<m
   ·
    obtain ⟨z,hz,hc⟩:=hL.cmp (i:=(i+m) / 2) (j:=m) (by omega) (by omega)
    have r1:=hrl.elem cW m (by omega)
    have r2:=hrl.elem cW ((i+m) / 2) (by omega)
    generalize L[m]'(by omega)=p at r1 hc
    generalize L[(i+m) / 2]'(by omega)=q at r2 hc
    repeat' (first|(apply ak;exact rfl;apply v8 (a:=i+m);exact rfl;(simp only [maxLen];omega))|(apply ak;exact rfl;apply qI (a:=i+m);exact rfl;exact rfl)|(apply ak;exact rfl;apply wg (a:=(i+m) / 2);exact rfl;(simp only [maxLen];omega))|(apply gN (id:=17);kernel_rfl;kernel_rfl)|(apply aK (d:=95);exact rfl;apply aj (j:=m);exact rfl;exact rfl;omega)|(apply aK (d:=99);exact rfl;apply aj (j:=(i+m) / 2);exact rfl;exact rfl;omega)|(apply aK (d:=96);exact rfl;apply aA (xs:=dr p);exact rfl;exact r1;exact rfl)|(apply aK (d:=100);exact rfl;apply aA (xs:=dr q);exact rfl;exact r2;exact rfl)|(apply ia;exact rfl;exact rfl;infer_instance;exact rfl;(intro w' _;exact hc w'))|refine sT ?_|refine sS ?_|refine sQ ?_|refine sN ?_|refine sNQ ?_|refine sD ?_|refine sM fun _=> ?_|(refine sC ?_ ?_<;>intro hb<;>try omega)|(refine sCQ ?_ ?_<;>intro hb<;>try omega)|fail)
    all_goals first
     |(exfalso;simp at hb;omega)
     |(exfalso;omega)
     |(refine ⟨(i+m) / 2+1,⟨by omega,by omega⟩,by omega,by exact sB,by exact sB,by exact mS⟩;done)
     |trace_state
   ·
    have e:i=m:=by omega
    subst e
    repeat' (first|refine sT ?_|refine sS ?_|refine sN ?_|refine sM fun _=> ?_|(refine sC ?_ ?_<;>intro hb<;>try omega)|fail)
    all_goals try (exfalso;omega)
    refine ay [0,1,2,3,4,14] rfl (fun _:Unit=> [(17,.int .i64 (i:Int))]) (fun _=> []) (fun _=>True) (fun _=>0) () trivial sB mS ?_
    rintro _ _
    repeat' (first|refine sT ?_|refine sS ?_|refine sN ?_|refine sM fun _=> ?_|(refine sC ?_ ?_<;>intro hb<;>try omega)|fail)
    all_goals first
     |(exfalso;omega)
     |(exact iX eIO rfl (MSub.nil _) rfl)
     |trace_state
  obtain ⟨d,hd⟩: ∃ d,d=(a+b) / 2:=⟨_,rfl⟩
  by_cases c3:d<m
  ·
   repeat' (first|(apply ak (d:=132);exact rfl;apply v8 (a:=a+b);exact rfl;(simp only [maxLen];omega))|(apply ak (d:=133);exact rfl;apply qI (a:=a+b);exact rfl;exact rfl)|(apply ak (d:=134);exact rfl;(rw [← hd];apply wg (a:=d));exact rfl;(simp only [maxLen];omega))|refine sT ?_|refine sS ?_|refine sN ?_|refine sM fun _=> ?_|(refine sC ?_ ?_<;>intro hb<;>try omega)|fail)
   all_goals try (exfalso;omega)
   refine ay [0,1,2,3,4,18,19,21,22] rfl (fun st:Nat=> [(20,.int .i64 (st:Int))]) (fun _=> []) (fun st=>d+m - b≤st∧st≤d) (fun st=>d - st) (d+m - b) ⟨by omega,by omega⟩ sB mS ?_
   rintro st ⟨hs1,hs2⟩
   by_cases hlt:st<d
   ·
    obtain ⟨z,hz,hc⟩:=hL.cmp (i:=(st+d) / 2) (j:=d+m - 1 - (st+d) / 2) (by omega) (by omega)
    have r1:=hrl.elem cW (d+m - 1 - (st+d) / 2) (by omega)
    have r2:=hrl.elem cW ((st+d) / 2) (by omega)
    generalize L[d+m - 1 - (st+d) / 2]'(by omega)=p at r1 hc
    generalize L[(st+d) / 2]'(by omega)=q at r2 hc
    repeat' (first|(apply ak;exact rfl;apply v8 (a:=st+d);exact rfl;(simp only [maxLen];omega))|(apply ak;exact rfl;apply qI (a:=st+d);exact rfl;exact rfl)|(apply ak;exact rfl;apply wg (a:=(st+d) / 2);exact rfl;(simp only [maxLen];omega))|(apply gN (id:=35);kernel_rfl;kernel_rfl)|(apply aK (d:=163);exact rfl;apply aj (j:=d+m - 1 - (st+d) / 2);exact rfl;exact rfl;omega)|(apply aK (d:=167);exact rfl;apply aj (j:=(st+d) / 2);exact rfl;exact rfl;omega)|(apply aK (d:=164);exact rfl;apply aA (xs:=dr p);exact rfl;exact r1;exact rfl)|(apply aK (d:=168);exact rfl;apply aA (xs:=dr q);exact rfl;exact r2;exact rfl)|(apply ia;exact rfl;exact rfl;infer_instance;exact rfl;(intro w' _;exact hc w'))|refine sT ?_|refine sS ?_|refine sQ ?_|refine sN ?_|refine sNQ ?_|refine sD ?_|refine sM fun _=> ?_|(refine sC ?_ ?_<;>intro hb<;>try omega)|(refine sCQ ?_ ?_<;>intro hb<;>try omega)|fail)
    all_goals first
     |(exfalso;simp at hb;omega)
     |(exfalso;omega)
     |(refine ⟨(st+d) / 2+1,⟨by omega,by omega⟩,by omega,by exact sB,by exact sB,by exact mS⟩;done)
     |trace_state
   ·
    have e:st=d:=by omega
    subst e
    repeat' (first|(apply ak (d:=177);exact rfl;apply kJ (a:=st+m) (b:=st);exact rfl;exact rfl;omega;(simp only [maxLen];omega))|(apply aa (f:=214);exact rfl;exact rfl;(intro w2 hm2;(first|exact IH st (st+m - st) b (by omega) (by omega) (by omega) h3 w2 _ hm2)))|refine sT ?_|refine sS ?_|refine sN ?_|refine sM fun _=> ?_|(refine sC ?_ ?_<;>intro hb<;>try omega)|fail)
    all_goals first
     |(exfalso;omega)
     |(exact iX eIO rfl (MSub.nil _) rfl)
     |trace_state
  ·
   repeat' (first|(apply ak (d:=132);exact rfl;apply v8 (a:=a+b);exact rfl;(simp only [maxLen];omega))|(apply ak (d:=133);exact rfl;apply qI (a:=a+b);exact rfl;exact rfl)|(apply ak (d:=134);exact rfl;(rw [← hd];apply wg (a:=d));exact rfl;(simp only [maxLen];omega))|refine sT ?_|refine sS ?_|refine sN ?_|refine sM fun _=> ?_|(refine sC ?_ ?_<;>intro hb<;>try omega)|fail)
   all_goals try (exfalso;omega)
   refine ay [0,1,2,3,4,18,19,21,22] rfl (fun st:Nat=> [(20,.int .i64 (st:Int))]) (fun _=> []) (fun st=>a≤st∧st≤m) (fun st=>m - st) a ⟨by omega,by omega⟩ sB mS ?_
   rintro st ⟨hs1,hs2⟩
   by_cases hlt:st<m
   ·
    obtain ⟨z,hz,hc⟩:=hL.cmp (i:=(st+m) / 2) (j:=d+m - 1 - (st+m) / 2) (by omega) (by omega)
    have r1:=hrl.elem cW (d+m - 1 - (st+m) / 2) (by omega)
    have r2:=hrl.elem cW ((st+m) / 2) (by omega)
    generalize L[d+m - 1 - (st+m) / 2]'(by omega)=p at r1 hc
    generalize L[(st+m) / 2]'(by omega)=q at r2 hc
    repeat' (first|(apply ak;exact rfl;apply v8 (a:=st+m);exact rfl;(simp only [maxLen];omega))|(apply ak;exact rfl;apply qI (a:=st+m);exact rfl;exact rfl)|(apply ak;exact rfl;apply wg (a:=(st+m) / 2);exact rfl;(simp only [maxLen];omega))|(apply gN (id:=35);kernel_rfl;kernel_rfl)|(apply aK (d:=163);exact rfl;apply aj (j:=d+m - 1 - (st+m) / 2);exact rfl;exact rfl;omega)|(apply aK (d:=167);exact rfl;apply aj (j:=(st+m) / 2);exact rfl;exact rfl;omega)|(apply aK (d:=164);exact rfl;apply aA (xs:=dr p);exact rfl;exact r1;exact rfl)|(apply aK (d:=168);exact rfl;apply aA (xs:=dr q);exact rfl;exact r2;exact rfl)|(apply ia;exact rfl;exact rfl;infer_instance;exact rfl;(intro w' _;exact hc w'))|refine sT ?_|refine sS ?_|refine sQ ?_|refine sN ?_|refine sNQ ?_|refine sD ?_|refine sM fun _=> ?_|(refine sC ?_ ?_<;>intro hb<;>try omega)|(refine sCQ ?_ ?_<;>intro hb<;>try omega)|fail)
    all_goals first
     |(exfalso;simp at hb;omega)
     |(exfalso;omega)
     |(refine ⟨(st+m) / 2+1,⟨by omega,by omega⟩,by omega,by exact sB,by exact sB,by exact mS⟩;done)
     |trace_state
   ·
    have e:st=m:=by omega
    subst e
    by_cases c4:st<d
    ·
     repeat' (first|(apply ak (d:=177);exact rfl;apply kJ (a:=d+st) (b:=st);exact rfl;exact rfl;omega;(simp only [maxLen];omega))|(apply aa (f:=214);exact rfl;exact rfl;(intro w2 hm2;exact IH a st d (by omega) (by omega) (by omega) (by omega) w2 _ hm2))|refine sT ?_|refine sS ?_|refine sN ?_|refine sM fun _=> ?_|(refine sC ?_ ?_<;>intro hb<;>try omega)|fail)
     all_goals first
      |(exfalso;omega)
      |(exact iX eIO rfl (MSub.nil _) rfl)
      |trace_state
    ·
     repeat' (first|(apply ak (d:=177);exact rfl;apply kJ (a:=d+st) (b:=st);exact rfl;exact rfl;omega;(simp only [maxLen];omega))|refine sT ?_|refine sS ?_|refine sN ?_|refine sM fun _=> ?_|(refine sC ?_ ?_<;>intro hb<;>try omega)|fail)
     all_goals first
      |(exfalso;omega)
      |(exact iX eIO rfl (MSub.nil _) rfl)
      |trace_state
set_option maxHeartbeats 16000000 in
theorem Co (L:List Pz) (hL:InZ L) (lv:Value) (w:World) (hl:Reads w lv L.length (L.flatMap dr)):
  ax Tryz.prog 167 [lv,.int .i64 (L.length:Int),Lb] w (.tuple #[]):=by
 have hI:=fun (a b:Nat) (h1:b≤L.length) (h2:a≤L.length) (w2:World) (H2:List Blk) (hm:Mem w w2 H2)=>KM L hL lv w2 (hl.of_w0 hm) a b h1 h2
 have hM:=fun (a m b:Nat) (h1:a<m) (h2:m<b) (h3:b≤L.length) (w2:World) (H2:List Blk) (hm:Mem w w2 H2)=>Er L hL lv w hl (b - a) a m b (NJ _) h1 h2 h3 w2 ⟨H2,hm⟩
 obtain ⟨Al,cl,rfl,hl1,hl2,hl3⟩:=hl
 refine aq Tryz.func167 rfl Tryz.ntmps167 rfl ?_
 have hlen:=hL.len
 repeat' (first|refine sT ?_|refine sS ?_|refine sN ?_|refine sM fun _=> ?_|(refine sC ?_ ?_<;>intro hb<;>try omega)|fail)
 refine ay [0,1,2,6] rfl (fun a:Nat=> [(7,.int .i64 (a:Int)),(8,.int .i64 ((a+20:Nat):Int))]) (fun _=> []) (fun a=>a≤L.length) (fun a=>L.length - a) 0 (NY _) sB mS ?_
 rintro a ha
 by_cases hlt:a+20≤L.length
 ·
  repeat' (first|(apply aa (f:=213);exact rfl;exact rfl;(intro w2 hm2;exact hI a (a+20) hlt (by omega) w2 _ hm2))|(apply ak (d:=22);exact rfl;apply dE (a:=a+20) (b:=20);exact rfl;exact rfl;(simp only [maxLen];omega))|refine sT ?_|refine sS ?_|refine sN ?_|refine sM fun _=> ?_|(refine sC ?_ ?_<;>intro hb<;>try omega)|fail)
  all_goals first
   |(exfalso;omega)
   |(refine ⟨a+20,hlt,by omega,by exact sB,by exact sB,by exact mS⟩;done)
   |trace_state
 ·
  repeat' (first|(apply aa (f:=213);exact rfl;exact rfl;(intro w2 hm2;exact hI a L.length (NJ _) ha w2 _ hm2))|refine sT ?_|refine sS ?_|refine sN ?_|refine sM fun _=> ?_|(refine sC ?_ ?_<;>intro hb<;>try omega)|fail)
  all_goals try (exfalso;omega)
  refine ay [0,1,2] rfl (fun s:Nat=> [(6,.int .i64 (s:Int))]) (fun _=> []) (fun s=>20≤s∧s≤2*L.length+20) (fun s=>2*L.length+20 - s) 20 ⟨by omega,by omega⟩ sB mS ?_
  rintro s ⟨hs1,hs2⟩
  by_cases hsl:s<L.length
  ·
   repeat' (first|(apply ak (d:=32);exact rfl;apply xE (a:=2) (b:=s);exact rfl;exact rfl;(simp only [maxLen];omega))|refine sT ?_|refine sS ?_|refine sN ?_|refine sM fun _=> ?_|(refine sC ?_ ?_<;>intro hb<;>try omega)|fail)
   all_goals try (exfalso;omega)
   refine ay [0,1,2,6] rfl (fun a:Nat=> [(7,.int .i64 (a:Int)),(8,.int .i64 ((a+2*s:Nat):Int))]) (fun _=> []) (fun a=>a≤L.length) (fun a=>L.length - a) 0 (NY _) (by rw [N7];exact sB) mS ?_
   rintro a ha
   by_cases hla:a+2*s≤L.length
   ·
    repeat' (first|(apply ak (d:=40);exact rfl;apply dE (a:=a) (b:=s);exact rfl;exact rfl;(simp only [maxLen];omega))|(apply aa (f:=214);exact rfl;exact rfl;(intro w2 hm2;exact hM a (a+s) (a+2*s) (by omega) (by omega) hla w2 _ hm2))|(apply ak (d:=47);exact rfl;apply xE (a:=2) (b:=s);exact rfl;exact rfl;(simp only [maxLen];omega))|(apply ak (d:=48);exact rfl;apply dE (a:=a+2*s) (b:=2*s);exact rfl;exact rfl;(simp only [maxLen];omega))|refine sT ?_|refine sS ?_|refine sN ?_|refine sM fun _=> ?_|(refine sC ?_ ?_<;>intro hb<;>try omega)|fail)
    all_goals first
     |(exfalso;omega)
     |(refine ⟨a+2*s,hla,by omega,by exact sB,by exact sB,by exact mS⟩;done)
     |trace_state
   ·
    by_cases hlm:a+s<L.length
    ·
     repeat' (first|(apply ak (d:=51);exact rfl;apply dE (a:=a) (b:=s);exact rfl;exact rfl;(simp only [maxLen];omega))|(apply aa (f:=214);exact rfl;exact rfl;(intro w2 hm2;exact hM a (a+s) L.length (by omega) hlm (NJ _) w2 _ hm2))|(apply ak (d:=62);exact rfl;apply xE (a:=s) (b:=2);exact rfl;exact rfl;(simp only [maxLen];omega))|refine sT ?_|refine sS ?_|refine sN ?_|refine sM fun _=> ?_|(refine sC ?_ ?_<;>intro hb<;>try omega)|fail)
     all_goals first
      |(exfalso;omega)
      |(refine ⟨s*2,⟨by omega,by omega⟩,by omega,by exact sB,by exact sB,by exact mS⟩;done)
      |trace_state
    ·
     repeat' (first|(apply ak (d:=51);exact rfl;apply dE (a:=a) (b:=s);exact rfl;exact rfl;(simp only [maxLen];omega))|(apply ak (d:=62);exact rfl;apply xE (a:=s) (b:=2);exact rfl;exact rfl;(simp only [maxLen];omega))|refine sT ?_|refine sS ?_|refine sN ?_|refine sM fun _=> ?_|(refine sC ?_ ?_<;>intro hb<;>try omega)|fail)
     all_goals first
      |(exfalso;omega)
      |(refine ⟨s*2,⟨by omega,by omega⟩,by omega,by exact sB,by exact sB,by exact mS⟩;done)
      |trace_state
  ·
   repeat' (first|refine sT ?_|refine sS ?_|refine sM fun _=> ?_|(refine sC ?_ ?_<;>intro hb<;>try omega)|fail)
   all_goals first
    |(exfalso;omega)
    |(exact iX eIO rfl (MSub.nil _) rfl)
    |trace_state
theorem vB (L:List Pz) (hL:InZ L) (lv:Value) (w:World) (hl:Reads w lv L.length (L.flatMap dr)):
  ax Tryz.prog 133 [lv,Lb] w (.tuple #[]):=by
 have hS:=fun (w2:World) (H2:List Blk) (hm:Mem w w2 H2)=>Co L hL lv w2 (hl.of_w0 hm)
 obtain ⟨Al,cl,rfl,hl1,hl2,hl3⟩:=hl
 refine aq Tryz.func133 rfl Tryz.ntmps133 rfl ?_
 repeat' (first|(apply aa (f:=167);exact rfl;exact rfl;(intro w2 hm2;exact hS w2 _ hm2))|refine sT ?_|refine sM fun _=> ?_|(refine sC ?_ ?_<;>intro hb<;>try omega)|fail)
 exact iX eIO rfl (MSub.nil _) rfl
end Go.SL
