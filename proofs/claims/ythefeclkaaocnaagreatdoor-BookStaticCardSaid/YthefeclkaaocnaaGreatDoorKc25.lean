/-
  Lemmas and walks, put together: Hh Hi He Hf Hg.
-/
import Derived.Test.YthefeclkaaocnaaGreatDoorKc24
set_option linter.unusedSimpArgs false
set_option linter.unusedVariables false
set_option maxRecDepth 20000
namespace Go.SL
open Go Go.Proofs
attribute [local irreducible] W WL WQ WG WA WX WLI WR WT WC WE VOp RW thn blk bL scp bi bz bY aQ FnIn FnP ceP
--
def cV (p:Int × Int):List Value:= [.int .i64 p.1,.int .i64 p.2]
theorem iY (p:Int × Int):(cV p).length=2:=rfl
theorem zJ (lo:Int) (ps:List (Int × Int)) (p:Int × Int):cR lo (ps++ [p])=cR lo ps++ [p.1,p.2+1]:=by
 unfold cR;simp
def nj (lo hi x:Int):Bool:=decide (lo≤x) && decide (x≤hi)
theorem Ek {l:List Int} {h x:Int} (hl:l≠ []):((dq l h).flatMap cV).set (0+((dq l h).length - 1)*2+1) (eW (x - 1))=(dq l (x - 1)).flatMap cV:=by
 obtain ⟨f,a,h1,h2⟩:=yU l h (x - 1) hl
 rw [h1,h2]
 simp only [Nk,MT,MX,Ot,Nc,NB,M4,cV]
 rw [O8 _ _ (by rw [aK iY];omega),aK iY]
 congr 1
 rw [show 0+f.length*2+1 - f.length*2=1 by omega]
 rfl
set_option maxHeartbeats 8000000 in
theorem zK (lo hi:Int) (ps:List (Int × Int)) (lv:Value) (w:World) (hl:Reads w lv ps.length (ps.flatMap cV)) (hn:ps.length≤100000) (hlo:0≤lo∧lo≤100000) (hhi:0≤hi∧hi≤100000) (hps: ∀ p∈ps,0≤p.1∧p.1≤100000∧0≤p.2∧p.2≤100000):
    aQ Tryz.prog 131 [.int .i64 lo,.int .i64 hi,lv] w fun v H=> ∃ A cap,v=sl A (cf lo hi ps).length cap∧H= [.own A 143 2 (cf lo hi ps).length cap ((cf lo hi ps).flatMap cV)]:=by
  obtain ⟨Al,cl,rfl,hl1,hl2,hl3⟩:=hl
  refine aq Tryz.func131 rfl Tryz.ntmps131 rfl ?_
  repeat' (first|refine sT ?_|refine sS ?_|refine sT2 ?_|refine sM fun _=> ?_|(refine sC ?_ ?_<;>intro hb<;>try omega)|fail)
  rename_i gb
  refine ay [0,1,15,16] rfl (fun y:Nat × Option Nat × Nat=> [(7,sl y.2.1 (1+2*y.1) y.2.2),(17,.int .i64 (y.1:Int))]) (fun y=> [.own y.2.1 3 1 (1+2*y.1) y.2.2 ((cR lo (ps.take y.1)).map eW)]) (fun y=>y.1≤ps.length) (fun y=>ps.length - y.1) (0,some gb,1) (Nl _) sB mS ?_
  rintro ⟨i,A,c⟩ hi0
  dsimp only at hi0 ⊢
  by_cases hlt:i<ps.length
  · obtain ⟨gl,ol,rfl,hrl⟩:=hl3 (by omega)
    have he1:=hrl.elem iY i hlt
    have hbs:cR lo (ps.take (i+1))=cR lo (ps.take i)++ [ps[i].1,ps[i].2+1]:=by rw [M9 hlt,zJ]
    have hpb:=hps _ (NK hlt)
    generalize ps[i]=p at he1 hbs hpb
    repeat' (first|(apply cG (A:=A) (m:=2);(iterate 3 exact rfl);exact pK;(intro w hm;exact hm.cells_own pK);exact rfl;(simp [Value.oneCell',sl]);omega;(simp only [maxLen];omega);(intro A' cap' hA'))|refine sT ?_|refine sS ?_|refine sT2 ?_|refine sN ?_|refine sJ ?_|refine sO ?_|refine sM fun _=> ?_|(refine sC ?_ ?_<;>intro hb<;>try omega)|fail)
    all_goals first
      |(exfalso;omega)
      | (refine ⟨(i + 1, A', cap'), hlt, by dsimp only; omega, by exact sB, by exact sB, ?_⟩
         dsimp only
         rw [hbs,Ou]
         exact mS)
      |trace_state
  · have e:i=ps.length:=by omega
    subst e
    rw [N0]
    have hbl:=qb lo ps
    have hs1:=fun (R:List Blk)=>ye (cR lo ps) A c (by omega) R w
    have hsl:(iF (cR lo ps)).length=1+2*ps.length:=by rw [(gI _).length_eq,hbl]
    have hs2:=fun (R:List Blk)=>z1 (iF (cR lo ps)) A c (by omega) R w
    rw [hbl] at hs1
    rw [hsl] at hs2
    have hcl:=tA (iF (cR lo ps))
    rw [hsl] at hcl
    have hcut:tu lo hi ps=(fD (iF (cR lo ps))).filter (nj lo hi):=rfl
    have hbd: ∀ x∈fD (iF (cR lo ps)),0≤x∧x≤100001:=fun x hx=>by
      rw [lI,(gI _).mem_iff,cR,M8,NR] at hx
      rcases hx with rfl|⟨p,hp,hx⟩
      · omega
      · have:=hps p hp
        simp at hx
        omega
    unfold cf
    rw [hcut]
    generalize fD (iF (cR lo ps))=C at hs2 hcl hbd
    refine aI 143 2 ?_
    repeat' (first|(apply aw (f:=164);exact rfl;exact rfl;exact FnIn.msub (hs1 _) (MSub.pick pK (MSub.refl _));rintro _ _ ⟨rfl,rfl⟩)|(apply aw (f:=165);exact rfl;exact rfl;exact FnIn.msub (hs2 _) (MSub.pick pK (MSub.refl _));rintro _ _ ⟨rfl,rfl⟩)|refine sT ?_|refine sS ?_|refine sT2 ?_|refine sN ?_|refine sM fun _=> ?_|(refine sC ?_ ?_<;>intro hb<;>try omega)|fail)
    all_goals try (exfalso;omega)
    refine ay [0,1,33,34] rfl (fun y:Nat × Option Nat × Nat=> [(10,sl y.2.1 (dq ((C.take y.1).filter (nj lo hi)) hi).length y.2.2),(35,.int .i64 (y.1:Int))]) (fun y=> [.own y.2.1 143 2 (dq ((C.take y.1).filter (nj lo hi)) hi).length y.2.2 ((dq ((C.take y.1).filter (nj lo hi)) hi).flatMap cV),.own A 3 1 C.length c (C.map eW)]) (fun y=>y.1≤C.length) (fun y=>C.length - y.1) (0,none,0) (Nl _) sB mS ?_
    rintro ⟨k,A2,c2⟩ hk
    dsimp only at hk ⊢
    by_cases hlk:k<C.length
    · refine gF (A:=A) pK (by omega) fun gc hA=> ?_
      subst hA
      have hrd:(C.map eW)[0+k*1]? =some (.int .i64 C[k]):=K4 hlk
      have hxb:=hbd _ (NK hlk)
      have hfs:(C.take (k+1)).filter (nj lo hi)=if nj lo hi C[k]=true then (C.take k).filter (nj lo hi)++ [C[k]] else (C.take k).filter (nj lo hi):=by
        rw [M9 hlk,List.filter_append]
        cases h:nj lo hi C[k]<;>simp [h]
      have hfl:((C.take k).filter (nj lo hi)).length≤300000:=Nt (Pw _ _) (by rw [Nj];omega)
      generalize hx:C[k]=x at hrd hxb hfs
      generalize hF:(C.take k).filter (nj lo hi)=Fk at hfs hfl
      have hpl:=kI hi Fk
      by_cases hin:lo≤x∧x≤hi
      · have hin2:nj lo hi x=true:=by simp [nj,hin.1,hin.2]
        rw [if_pos hin2] at hfs
        have hsn:=js x hi Fk
        rw [← hfs] at hsn
        have hpl2:=kI (x - 1) Fk
        by_cases h0:Fk= []
        · subst h0
          rw [show dq [] (x - 1)= [] from rfl,MW] at hsn
          repeat' (first|(apply aj (d:=37);exact rfl;apply ak (j:=k);exact rfl;exact rfl;exact hlk)|(apply aj (d:=38);exact rfl;apply bT;exact rfl;exact pK;exact hrd)|(apply aj;exact rfl;apply ma;(iterate 5 exact rfl))|(apply cG (A:=A2) (m:=1);(iterate 3 exact rfl);exact pK;(intro w hm;exact hm.cells_own pK);exact rfl;(simp [Value.oneCell',sl]);omega;(simp only [maxLen];omega);(intro A' cap' hA'))|refine sT ?_|refine sS ?_|refine sT2 ?_|refine sN ?_|refine sJ ?_|refine sO ?_|refine sM fun _=> ?_|(refine sC ?_ ?_<;>intro hb<;>try omega)|fail)
          all_goals first
            |(exfalso;omega)
            | (refine ⟨(k + 1, A', cap'), hlk, by dsimp only; omega, ?_, by exact sB, ?_⟩
               · dsimp only;rw [hsn];exact sB
               · dsimp only;rw [hsn];exact mS)
            |trace_state
        · have hpos:0<Fk.length:=OJ.2 h0
          have hset:=Ek (h:=hi) (x:=x) h0
          rw [hpl] at hset
          refine gF (A:=A2) pK (by omega) fun g2 hA=> ?_
          subst hA
          rw [hpl]
          repeat' (first|(apply aj (d:=37);exact rfl;apply ak (j:=k);exact rfl;exact rfl;exact hlk)|(apply aj (d:=38);exact rfl;apply bT;exact rfl;exact pK;exact hrd)|(apply aj (d:=53);exact rfl;apply du (a:=Fk.length);exact rfl;exact rfl;omega;(simp only [maxLen];omega))|(apply aj (d:=56);exact rfl;apply ak (j:=Fk.length - 1);exact rfl;exact rfl;omega)|(apply fR (v:=eW (x - 1)) (off:=0+(Fk.length - 1)*2+1);exact rfl;exact rfl;exact pK;exact rfl;(rw [aK iY,hpl];omega);rw [hset])|(apply aj;exact rfl;apply ma;(iterate 5 exact rfl))|(apply cG (A:=some g2) (m:=1);(iterate 3 exact rfl);exact pK;(intro w hm;exact hm.cells_own pK);exact rfl;(simp [Value.oneCell',sl]);omega;(simp only [maxLen];omega);(intro A' cap' hA'))|refine sT ?_|refine sS ?_|refine sT2 ?_|refine sN ?_|refine sJ ?_|refine sO ?_|refine sM fun _=> ?_|(refine sC ?_ ?_<;>intro hb<;>try omega)|fail)
          all_goals first
            |(exfalso;omega)
            | (refine ⟨(k + 1, A', cap'), hlk, by dsimp only; omega, ?_, by exact sB, ?_⟩
               · dsimp only;rw [hsn,List.length_append,hpl2];exact sB
               · dsimp only;rw [hsn,List.length_append,hpl2,List.flatMap_append];exact mS)
            |trace_state
      · have hin2: ¬ nj lo hi x=true:=by simp only [nj,M0,decide_eq_true_eq];exact hin
        rw [if_neg hin2] at hfs
        repeat' (first|(apply aj (d:=37);exact rfl;apply ak (j:=k);exact rfl;exact rfl;exact hlk)|(apply aj (d:=38);exact rfl;apply bT;exact rfl;exact pK;exact hrd)|refine sT ?_|refine sS ?_|refine sT2 ?_|refine sN ?_|refine sJ ?_|refine sO ?_|refine sM fun _=> ?_|(refine sC ?_ ?_<;>intro hb<;>try omega)|fail)
        all_goals first
          |(exfalso;omega)
          | (refine ⟨(k + 1, A2, c2), hlk, by dsimp only; omega, ?_, by exact sB, ?_⟩
             · dsimp only;rw [hfs];exact sB
             · dsimp only;rw [hfs];exact mS)
          |trace_state
    · have e:k=C.length:=by omega
      subst e
      rw [N0]
      repeat' (first|refine sT ?_|refine sS ?_|refine sT2 ?_|refine sM fun _=> ?_|(refine sC ?_ ?_<;>intro hb<;>try omega)|fail)
      all_goals first
        |(exfalso;omega)
        |(exact cP eIO rfl rfl mS ⟨A2,c2,rfl,rfl⟩)
        |trace_state
end Go.SL
namespace Go.SL
open Go Go.Proofs
def kq (p:Nat × Nat):List Value:= [.int .i64 (p.1:Int),.int .i64 (p.2:Int)]
theorem F5 (w:World) (d:Nat) (a b:Nat × Nat):(Op.equalIn (d+5) 143 (.agg (kq a).toArray) (.agg (kq b).toArray)).run Tryz.prog w= .ok (decide (a=b)) w:=by
 obtain ⟨i,h1,h2⟩:=(inferInstance:Size Tryz.prog 3 1).out
 have hc:Tryz.prog.cellsOf 3=1:=by kernel_rfl
 rw [run_equalIn_array w (d+4) (kq a).toArray (kq b).toArray Tryz.underlying143 h1,hc,show List.range 2= [0,1] from rfl]
 have hr: ∀ (a b:Int) w,(Op.equalIn (d+4) 3 (.int .i64 a) (.int .i64 b)).run Tryz.prog w= .ok (a==b) w:=fun a b w=>run_equalIn_int w (d+3) 3 .i64 .i64 a b Tryz.underlying3
 have hpa: ∀ (c:Nat × Nat) w,(part 3 (kq c).toArray 0).run Tryz.prog w= .ok (.int .i64 (c.1:Int)) w:=by
  intro c w
  simp [part,go_sem,kq]
 have hpb: ∀ (c:Nat × Nat) w,(part 3 (kq c).toArray 1).run Tryz.prog w= .ok (.int .i64 (c.2:Int)) w:=by
  intro c w
  simp [part,go_sem,kq]
 have he:decide (a=b)=((a.1:Int)==b.1 && (a.2:Int)==b.2):=by
  obtain ⟨a1,a2⟩:=a
  obtain ⟨b1,b2⟩:=b
  rw [NG]
  simp
  omega
 rw [he]
 by_cases h1:((a.1:Int)==b.1)=true<;>by_cases h2:((a.2:Int)==b.2)=true<;>simp [Op.eqItems,hpa,hpb,hr,h1,h2]
theorem CE {w0:World} {s:az} {H:List Blk} {ty t' :TypeId} {x y:Operand} {a b:Nat × Nat} {c:Bool} (hc:decide (a=b)=c) (hx:ev s x=some (.agg (kq a).toArray)) (hy:ev s y=some (.agg (kq b).toArray)):VOp Tryz.prog w0 s H (.binOp .eql 143 x y t') ty (.bool c):=fun ρ w _ _ _ _ hρ _=>by
 subst hc
 have h:=F5 w 9995 a b
 simp only [Nat.reduceAdd] at h
 simp only [execOp,hρ x _ hx,hρ y _ hy,Sem.run_bind,run_eqGuard_agg w _ _ _ _ _ _ Tryz.eqGuardType143,Result.andThen_ok,run_eql_struct,h,Sem.run_pure]
end Go.SL
namespace Go.SL
open Go Go.Proofs
attribute [local irreducible] W WL WQ WG WA WX WLI WR WT WC WE VOp RW thn blk bL scp bi bz bY aQ FnIn FnP ceP
theorem Da {a b:Rct} (h:(dD a b).2=true):aG (dD a b).1=true:=by
 unfold dD at h ⊢
 split at h
 ·
  rename_i hall
  rw [if_pos hall]
  simp only [O5,List.all_nil,NI,M0] at hall
  exact hall.2.2
 ·
  cases h
theorem zF (r:Rct) (L:List Rl) (x:Rl):aU r (L++ [x])=aU r L++if (dD x.rect r).2=true then [((dD x.rect r).1.c1,(dD x.rect r).1.c2)] else []:=by
 unfold aU;simp
theorem yp (r:Rct) (L:List Rl) (x:Rl):aS r (L++ [x])=aS r L++if (dD x.rect r).2=true then [((dD x.rect r).1.r1,(dD x.rect r).1.r2)] else []:=by
 unfold aS;simp
theorem dN (r:Rct): ∀ L:List Rl,(aU r L).length≤L.length
 | []=>MZ _
 |x::L=>by
  have:=dN r L
  unfold aU at this ⊢
  rw [Nc,MT]
  split<;>simp only [Nq,Pp]<;>omega
theorem dI (r:Rct): ∀ L:List Rl,(aS r L).length≤L.length
 | []=>MZ _
 |x::L=>by
  have:=dI r L
  unfold aS at this ⊢
  rw [Nc,MT]
  split<;>simp only [Nq,Pp]<;>omega
theorem oJ {r:Rct} {L:List Rl}: ∀ p∈aU r L,0≤p.1∧p.1≤100000∧0≤p.2∧p.2≤100000:=fun p hp=>by
 obtain ⟨x,_,hx⟩:=NR.1 hp
 split at hx
 ·
  rename_i h
  have:=cQ.1 (Da h)
  rw [Nz.1 hx]
  simp only;omega
 ·
  cases hx
theorem nT {r:Rct} {L:List Rl}: ∀ p∈aS r L,0≤p.1∧p.1≤100000∧0≤p.2∧p.2≤100000:=fun p hp=>by
 obtain ⟨x,_,hx⟩:=NR.1 hp
 split at hx
 ·
  rename_i h
  have:=cQ.1 (Da h)
  rw [Nz.1 hx]
  simp only;omega
 ·
  cases hx
def pR (g:Nat) (A:Option Nat) (c:Nat) (C:List (Int × Int)):List Blk:= [.box g 210 [sl A C.length c],.own A 143 2 C.length c (C.flatMap cV)]
set_option maxHeartbeats 8000000 in
theorem C8 (r:Rct) (L:List Rl) (lv:Value) (gr gc gw:Nat) (A1 A2:Option Nat) (c1 c2:Nat) (C D:List (Int × Int)) (R:List Blk) (w0:World) (hl:Reads w0 lv L.length (L.flatMap bf)) (hC:C.length+L.length≤100000) (hD:D.length+L.length≤100000):
  FnIn Tryz.prog 129 [lv,.pointer (some ⟨gr,0,none⟩),.pointer (some ⟨gc,0,none⟩),.pointer (some ⟨gw,0,none⟩)] w0 (.box gr 33 (bK r)::(pR gc A1 c1 C++(pR gw A2 c2 D++R))) fun v H=>
   v= .tuple #[]∧ ∃ A1' c1' A2' c2',H= .box gr 33 (bK r)::(pR gc A1' c1' (C++aU r L)++(pR gw A2' c2' (D++aS r L)++R)):=by
 obtain ⟨Al,cl,rfl,hl1,hl2,hl3⟩:=hl
 refine dP Tryz.func129 rfl Tryz.ntmps129 rfl ?_
 simp only [pR,M5,MU,MW]
 repeat' (first|refine sT ?_|refine sS ?_|refine sM fun _=> ?_|(refine sC ?_ ?_<;>intro hb<;>try omega)|fail)
 refine ay [1,2,3,9,10] rfl (fun y:Nat × Option Nat × Nat × Option Nat × Nat=> [(11,.int .i64 (y.1:Int))]) (fun y=> .box gr 33 (bK r):: .box gc 210 [sl y.2.1 (C++aU r (L.take y.1)).length y.2.2.1]:: .own y.2.1 143 2 (C++aU r (L.take y.1)).length y.2.2.1 ((C++aU r (L.take y.1)).flatMap cV):: .box gw 210 [sl y.2.2.2.1 (D++aS r (L.take y.1)).length y.2.2.2.2]:: .own y.2.2.2.1 143 2 (D++aS r (L.take y.1)).length y.2.2.2.2 ((D++aS r (L.take y.1)).flatMap cV)::R) (fun y=>y.1≤L.length) (fun y=>L.length - y.1) (0,A1,c1,A2,c2) (Nl _) sB (by simp only [OB,aU,aS,NB,M4];exact mS) ?_
 rintro ⟨i,A1,c1,A2,c2⟩ hi
 dsimp only at hi ⊢
 by_cases hlt:i<L.length
 ·
  obtain ⟨gl,ol,rfl,hrl⟩:=hl3 (by omega)
  have he1:=hrl.elem dg i hlt
  have hcs:=zF r (L.take i) L[i]
  have hws:=yp r (L.take i) L[i]
  rw [← M9 hlt] at hcs hws
  have hcl:=dN r (L.take i)
  have hwl:=dI r (L.take i)
  rw [Nj] at hcl hwl
  generalize L[i]=x at he1 hcs hws
  have hM:=fun w=>Dp x.rect r w
  generalize dD x.rect r=mt at hM hcs hws
  obtain ⟨mr,mb⟩:=mt
  dsimp only at hM hcs hws
  generalize aU r (L.take i)=C1 at hcs hcl ⊢
  generalize aS r (L.take i)=D1 at hws hwl ⊢
  have hCl:(C++C1).length≤200000:=by rw [MT];omega
  have hDl:(D++D1).length≤200000:=by rw [MT];omega
  have hC2:C++aU r (L.take (i+1))=(C++C1)++if mb=true then [(mr.c1,mr.c2)] else []:=by rw [hcs,NC]
  have hD2:D++aS r (L.take (i+1))=(D++D1)++if mb=true then [(mr.r1,mr.r2)] else []:=by rw [hws,NC]
  generalize C++C1=C3 at hC2 hCl ⊢
  generalize D++D1=D3 at hD2 hDl ⊢
  cases mb
  ·
   rw [if_neg (by decide),M4] at hC2 hD2
   repeat' (first|(apply aa;exact rfl;exact rfl;(intro w hm;exact hM w))|refine sT ?_|refine sS ?_|refine sN ?_|refine sO ?_|refine sM fun _=> ?_|(refine sC ?_ ?_<;>intro hb<;>try omega)|fail)
   all_goals first
    |(exfalso;omega)
    |(refine ⟨(i+1,A1,c1,A2,c2),hlt,by dsimp only;omega,by exact sB,by exact sB,?_⟩;dsimp only;rw [hC2,hD2];exact mS)
    |trace_state
  ·
   rw [if_pos rfl] at hC2 hD2
   have hC4:(C3++ [(mr.c1,mr.c2)]).flatMap cV=C3.flatMap cV++ [.int .i64 mr.c1,.int .i64 mr.c2]:=by simp [cV]
   have hD4:(D3++ [(mr.r1,mr.r2)]).flatMap cV=D3.flatMap cV++ [.int .i64 mr.r1,.int .i64 mr.r2]:=by simp [cV]
   repeat' (first|(apply aa;exact rfl;exact rfl;(intro w hm;exact hM w))|(apply aj;exact rfl;apply ma;(iterate 5 exact rfl))|(apply cG (d:=30) (A:=A1) (m:=1);(iterate 3 exact rfl);exact pK;(intro w hm;exact hm.cells_own pK);exact rfl;(simp [Value.oneCell',sl]);omega;(simp only [maxLen];omega);(intro A3 c3 hA3))|(apply cG (d:=38) (A:=A2) (m:=1);(iterate 3 exact rfl);exact pK;(intro w hm;exact hm.cells_own pK);exact rfl;(simp [Value.oneCell',sl]);omega;(simp only [maxLen];omega);(intro A4 c4 hA4))|refine sT ?_|refine sS ?_|refine sN ?_|refine sO ?_|refine sM fun _=> ?_|(refine sC ?_ ?_<;>intro hb<;>try omega)|fail)
   all_goals first
    |(exfalso;omega)
    |(refine ⟨(i+1,A3,c3,A4,c4),hlt,by dsimp only;omega,by exact sB,by exact sB,?_⟩;dsimp only;rw [hC2,hD2,hC4,hD4,List.length_append,List.length_append];exact mS)
    |trace_state
 ·
  have e:i=L.length:=by omega
  subst e
  rw [N0]
  repeat' (first|refine sT ?_|refine sS ?_|refine sM fun _=> ?_|(refine sC ?_ ?_<;>intro hb<;>try omega)|fail)
  all_goals first
   |(exfalso;omega)
   |(exact ij eIO rfl (.refl _) ⟨rfl,A1,c1,A2,c2,rfl⟩)
   |trace_state
end Go.SL
namespace Go.SL
open Go Go.Proofs
attribute [local irreducible] W WL WQ WG WA WX WLI WR WT WC WE VOp RW thn blk bL scp bi bz bY aQ FnIn FnP ceP
def EK (p q:Pz):Int:=if p.rect.r1≠q.rect.r1 then p.rect.r1 - q.rect.r1 else p.rect.c1 - q.rect.c1
def rD (p:Pz):Prop:=0≤p.rect.r1∧p.rect.r1≤100000∧0≤p.rect.c1∧p.rect.c1≤100000
theorem J5 (p q:Pz) (hp:rD p) (hq:rD q) (w:World):ax Tryz.prog 134 [.agg (cU p).toArray,.agg (cU q).toArray] w (.int .i64 (EK p q)):=by
 refine aq Tryz.func134 rfl Tryz.ntmps134 rfl ?_
 obtain ⟨h1,h2,h3,h4⟩:=hp
 obtain ⟨h5,h6,h7,h8⟩:=hq
 repeat' (first|refine sT ?_|refine sJ ?_|refine sM fun _=> ?_|(refine sC ?_ ?_<;>intro hb<;>try omega)|fail)
 all_goals first
  |(exfalso;omega)
  |((refine rT1 ?_);rw [EK,if_pos hb];done)
  |((refine rT1 ?_);rw [EK,if_neg (fun h=>h hb)];done)
  |((refine rT1 ?_);rw [EK,if_neg (fun h=>hb h)];done)
  |trace_state
structure InZ (L:List Pz):Prop where
 sort:L.Pairwise GJ
 small: ∀ p∈L,rD p
 len:L.length≤1000000
theorem InZ.cmp {L:List Pz} (h:InZ L) {i j:Nat} (hij:i≤j) (hj:j<L.length): ∃ z:Int,0≤z∧ ∀ w,ax Tryz.prog 134 [.agg (cU L[j]).toArray,.agg (cU (L[i]'(by omega))).toArray] w (.int .i64 z):=by
 refine ⟨_,?_,fun w=>J5 _ _ (h.small _ (NK hj)) (h.small _ (NK _)) w⟩
 by_cases e:i=j
 ·
  subst e;simp [EK]
 ·
  have:=List.pairwise_iff_getElem.1 h.sort i j (by omega) hj (by omega)
  unfold EK
  rcases this with h1|⟨h1,h2⟩
  ·
   rw [if_pos (by omega)];omega
  ·
   rw [if_neg (by omega)];omega
abbrev J6:Value:= .func (.func 134) #[] #[]
set_option maxHeartbeats 4000000 in
theorem JN (L:List Pz) (hL:InZ L) (lv:Value) (w:World) (hl:Reads w lv L.length (L.flatMap cU)) (a b:Nat) (hb:b≤L.length) (ha:a≤L.length):
  ax Tryz.prog 213 [lv,.int .i64 (a:Int),.int .i64 (b:Int),J6] w (.tuple #[]):=by
 obtain ⟨Al,cl,rfl,hl1,hl2,hl3⟩:=hl
 refine aq Tryz.func213 rfl Tryz.ntmps213 rfl ?_
 have hlen:=hL.len
 repeat' (first|refine sT ?_|refine sS ?_|refine sN ?_|refine sM fun _=> ?_|(refine sC ?_ ?_<;>intro hb<;>try omega)|fail)
 refine ay [0,1,2,3] rfl (fun i:Nat=> [(8,.int .i64 (i:Int))]) (fun _=> []) (fun i=>a+1≤i∧i≤max b (a+1)) (fun i=>max b (a+1) - i) (a+1) ⟨MZ _,by omega⟩ sB mS ?_
 rintro i ⟨hi,hi2⟩
 by_cases hlt:i<b
 ·
  obtain ⟨gl,ol,rfl,hrl⟩:=hl3 (by omega)
  obtain ⟨z,hz,hc⟩:=hL.cmp (i:=i - 1) (j:=i) (by omega) (by omega)
  have h1:=hrl.elem cJ i (by omega)
  have h2:=hrl.elem cJ (i - 1) (by omega)
  generalize L[i]'(by omega)=p at h1 hc
  generalize L[i - 1]'(by omega)=q at h2 hc
  repeat' (first|refine sT ?_|refine sS ?_|refine sN ?_|refine sM fun _=> ?_|(refine sC ?_ ?_<;>intro hb<;>try omega)|fail)
  all_goals try (exfalso;omega)
  refine ay [0,1,2,3,8] rfl (fun _:Unit=> [(9,.int .i64 (i:Int))]) (fun _=> []) (fun _=>True) (fun _=>0) () trivial sB mS ?_
  rintro _ _
  repeat' (first|(apply fU (id:=4);kernel_rfl;kernel_rfl)|(apply aP (d:=25);exact rfl;apply ak (j:=i);exact rfl;exact rfl;omega)|(apply aP (d:=30);exact rfl;apply ak (j:=i - 1);exact rfl;exact rfl;omega)|(apply aP (d:=26);exact rfl;apply aA (xs:=cU p);exact rfl;exact h1;exact rfl)|(apply aP (d:=31);exact rfl;apply aA (xs:=cU q);exact rfl;exact h2;exact rfl)|(apply gC;exact rfl;exact rfl;infer_instance;exact rfl;(intro w' _;exact hc w'))|refine sT ?_|refine sS ?_|refine sQ ?_|refine sN ?_|refine sNQ ?_|refine sO ?_|refine sOQ ?_|refine sD ?_|refine sM fun _=> ?_|(refine sC ?_ ?_<;>intro hb<;>try omega)|(refine sCQ ?_ ?_<;>intro hb<;>try omega)|fail)
  all_goals first
   |(exfalso;omega)
   |(refine ⟨i+1,⟨by omega,by omega⟩,by omega,by exact sB,by exact sB,by exact mS⟩;done)
   |trace_state
 ·
  repeat' (first|refine sT ?_|refine sS ?_|refine sM fun _=> ?_|(refine sC ?_ ?_<;>intro hb<;>try omega)|fail)
  all_goals first
   |(exfalso;omega)
   |(exact ij eIO rfl (MSub.nil _) rfl)
   |trace_state
section
variable {P:Program} {n:Fr} {w0:World} {Q:bM} {s:az} {H:List Blk} {l rest:List Oper} {ty:TypeId} {p:String} {af:Array Edge}
theorem uC {x:Operand} {a:Nat} {t t' :TypeId} {d:TypeDesc} [hs:Und P t d] [hd:Und P t' (.int .u64)] (hx:ev s x=some (.int .i64 (a:Nat))) (h:a≤maxLen):VOp P w0 s H (.convert t t' x) ty (.int .u64 (a:Nat)):=
 bI (k:= .i64) hx (by rw [IntKind.wrap_u64];simp only [maxLen] at h;omega)
theorem uD {x:Operand} {a:Nat} {t t' :TypeId} {d:TypeDesc} [hs:Und P t d] [hd:Und P t' (.int .i64)] (hx:ev s x=some (.int .u64 (a:Nat))) (h:a≤maxLen):VOp P w0 s H (.convert t t' x) ty (.int .i64 (a:Nat)):=
 bI (k:= .u64) hx (I64.wrap ⟨by omega,by simp only [maxLen] at h;omega⟩)
theorem o3 {x y:Operand} {a:Nat} {t t' :TypeId} (hx:ev s x=some (.int .u64 (a:Nat))) (hy:ev s y=some (.int .u64 1)):VOp P w0 s H (.binOp .shr t x y t') ty (.int .u64 ((a / 2:Nat):Int)):=by
 have h:=FG (P:=P) (w0:=w0) (H:=H) (ty:=ty) (t:=t) (t' :=t') (m:=1) hx hy rfl
 have e:((a:Int) / 2 ^ 1)=((a / 2:Nat):Int):=by omega
 rwa [e] at h
theorem wq {x y:Operand} {a b:Nat} {t t' :TypeId} (hx:ev s x=some (.int .i64 (a:Nat))) (hy:ev s y=some (.int .i64 (b:Nat))) (ha:a*b≤maxLen):VOp P w0 s H (.binOp .mul t x y t') ty (.int .i64 ((a*b:Nat):Int)):=by
 rw [Int.natCast_mul]
 have e:((a:Int)*b)=((a*b:Nat):Int):=(Int.natCast_mul a b).symm
 exact ra hx hy ⟨by rw [e];omega,by rw [e];simp only [maxLen] at ha;omega⟩
end
set_option maxHeartbeats 16000000 in
theorem CM (L:List Pz) (hL:InZ L) (lv:Value) (w:World) (hl:Reads w lv L.length (L.flatMap cU)): ∀ (k a m b:Nat),b - a≤k→a<m→m<b→b≤L.length→ ∀ w',(∃ H',Mem w w' H')→
  ax Tryz.prog 214 [lv,.int .i64 (a:Int),.int .i64 (m:Int),.int .i64 (b:Int),J6] w' (.tuple #[])
 |0,a,m,b,hk,h1,h2,_=>by omega
 |k+1,a,m,b,hk,h1,h2,h3=>by
  intro w' ⟨H',hm'⟩
  have hl' :=hl.of_w0 hm'
  have IH:=fun (a m b:Nat) (g1:b - a≤k) (g2:a<m) (g3:m<b) (g4:b≤L.length) (w2:World) (H2:List Blk) (hm2:Mem w' w2 H2)=>CM L hL lv w' hl' k a m b g1 g2 g3 g4 w2 ⟨H2,hm2⟩
  have hl0:=hl'
  obtain ⟨Al,cl,rfl,hl1,hl2,hl3⟩:=hl'
  refine aq Tryz.func214 rfl Tryz.ntmps214 rfl ?_
  have hlen:=hL.len
  obtain ⟨gl,ol,rfl,hrl⟩:=hl3 (by omega)
  by_cases c1:m - a=1
  ·
   repeat' (first|refine sT ?_|refine sS ?_|refine sN ?_|refine sM fun _=> ?_|(refine sC ?_ ?_<;>intro hb<;>try omega)|fail)
   all_goals try (exfalso;omega)
   refine ay [0,1,2,3,4,10] rfl (fun j:Nat=> [(11,.int .i64 (j:Int))]) (fun _=> []) (fun j=>m≤j∧j≤b) (fun j=>j - m) b ⟨by omega,by omega⟩ sB mS ?_
   rintro j ⟨hj1,hj2⟩
   by_cases hlt:m<j
   ·
    obtain ⟨z,hz,hc⟩:=hL.cmp (i:=a) (j:=(m+j) / 2) (by omega) (by omega)
    have r1:=hrl.elem cJ ((m+j) / 2) (by omega)
    have r2:=hrl.elem cJ a (by omega)
    generalize L[(m+j) / 2]'(by omega)=p at r1 hc
    generalize L[a]'(by omega)=q at r2 hc
    repeat' (first|(apply aj;exact rfl;apply uC (a:=m+j);exact rfl;(simp only [maxLen];omega))|(apply aj;exact rfl;apply o3 (a:=m+j);exact rfl;exact rfl)|(apply aj;exact rfl;apply uD (a:=(m+j) / 2);exact rfl;(simp only [maxLen];omega))|(apply fU (id:=5);kernel_rfl;kernel_rfl)|(apply aP (d:=43);exact rfl;apply ak (j:=(m+j) / 2);exact rfl;exact rfl;omega)|(apply aP (d:=47);exact rfl;apply ak (j:=a);exact rfl;exact rfl;omega)|(apply aP (d:=44);exact rfl;apply aA (xs:=cU p);exact rfl;exact r1;exact rfl)|(apply aP (d:=48);exact rfl;apply aA (xs:=cU q);exact rfl;exact r2;exact rfl)|(apply gC;exact rfl;exact rfl;infer_instance;exact rfl;(intro w' _;exact hc w'))|refine sT ?_|refine sS ?_|refine sQ ?_|refine sN ?_|refine sNQ ?_|refine sD ?_|refine sM fun _=> ?_|(refine sC ?_ ?_<;>intro hb<;>try omega)|(refine sCQ ?_ ?_<;>intro hb<;>try omega)|fail)
    all_goals first
     |(exfalso;omega)
     |(refine ⟨(m+j) / 2,⟨by omega,by omega⟩,by omega,by exact sB,by exact sB,by exact mS⟩;done)
     |trace_state
   ·
    have e:j=m:=by omega
    subst e
    repeat' (first|refine sT ?_|refine sS ?_|refine sN ?_|refine sM fun _=> ?_|(refine sC ?_ ?_<;>intro hb<;>try omega)|fail)
    all_goals try (exfalso;omega)
    refine ay [0,1,2,3,4,10] rfl (fun _:Unit=> [(13,.int .i64 (a:Int))]) (fun _=> []) (fun _=>True) (fun _=>0) () trivial sB mS ?_
    rintro _ _
    repeat' (first|refine sT ?_|refine sS ?_|refine sN ?_|refine sM fun _=> ?_|(refine sC ?_ ?_<;>intro hb<;>try omega)|fail)
    all_goals first
     |(exfalso;omega)
     |(exact ij eIO rfl (MSub.nil _) rfl)
     |trace_state
  by_cases c2:b - m=1
  ·
   repeat' (first|refine sT ?_|refine sS ?_|refine sN ?_|refine sM fun _=> ?_|(refine sC ?_ ?_<;>intro hb<;>try omega)|fail)
   all_goals try (exfalso;omega)
   refine ay [0,1,2,3,4,15] rfl (fun i:Nat=> [(14,.int .i64 (i:Int))]) (fun _=> []) (fun i=>a≤i∧i≤m) (fun i=>m - i) a ⟨by omega,by omega⟩ sB mS ?_
   rintro i ⟨hi1,hi2⟩
   by_cases hlt:i<m
   ·
    obtain ⟨z,hz,hc⟩:=hL.cmp (i:=(i+m) / 2) (j:=m) (by omega) (by omega)
    have r1:=hrl.elem cJ m (by omega)
    have r2:=hrl.elem cJ ((i+m) / 2) (by omega)
    generalize L[m]'(by omega)=p at r1 hc
    generalize L[(i+m) / 2]'(by omega)=q at r2 hc
    repeat' (first|(apply aj;exact rfl;apply uC (a:=i+m);exact rfl;(simp only [maxLen];omega))|(apply aj;exact rfl;apply o3 (a:=i+m);exact rfl;exact rfl)|(apply aj;exact rfl;apply uD (a:=(i+m) / 2);exact rfl;(simp only [maxLen];omega))|(apply fU (id:=17);kernel_rfl;kernel_rfl)|(apply aP (d:=95);exact rfl;apply ak (j:=m);exact rfl;exact rfl;omega)|(apply aP (d:=99);exact rfl;apply ak (j:=(i+m) / 2);exact rfl;exact rfl;omega)|(apply aP (d:=96);exact rfl;apply aA (xs:=cU p);exact rfl;exact r1;exact rfl)|(apply aP (d:=100);exact rfl;apply aA (xs:=cU q);exact rfl;exact r2;exact rfl)|(apply gC;exact rfl;exact rfl;infer_instance;exact rfl;(intro w' _;exact hc w'))|refine sT ?_|refine sS ?_|refine sQ ?_|refine sN ?_|refine sNQ ?_|refine sD ?_|refine sM fun _=> ?_|(refine sC ?_ ?_<;>intro hb<;>try omega)|(refine sCQ ?_ ?_<;>intro hb<;>try omega)|fail)
    all_goals first
     |(exfalso;simp at hb;omega)
     |(exfalso;omega)
     |(refine ⟨(i+m) / 2+1,⟨by omega,by omega⟩,by omega,by exact sB,by exact sB,by exact mS⟩;done)
     |trace_state
   ·
    have e:i=m:=by omega
    subst e
    repeat' (first|refine sT ?_|refine sS ?_|refine sN ?_|refine sM fun _=> ?_|(refine sC ?_ ?_<;>intro hb<;>try omega)|fail)
    all_goals try (exfalso;omega)
    refine ay [0,1,2,3,4,14] rfl (fun _:Unit=> [(17,.int .i64 (i:Int))]) (fun _=> []) (fun _=>True) (fun _=>0) () trivial sB mS ?_
    rintro _ _
    repeat' (first|refine sT ?_|refine sS ?_|refine sN ?_|refine sM fun _=> ?_|(refine sC ?_ ?_<;>intro hb<;>try omega)|fail)
    all_goals first
     |(exfalso;omega)
     |(exact ij eIO rfl (MSub.nil _) rfl)
     |trace_state
  obtain ⟨d,hd⟩: ∃ d,d=(a+b) / 2:=⟨_,rfl⟩
  by_cases c3:d<m
  ·
   repeat' (first|(apply aj (d:=132);exact rfl;apply uC (a:=a+b);exact rfl;(simp only [maxLen];omega))|(apply aj (d:=133);exact rfl;apply o3 (a:=a+b);exact rfl;exact rfl)|(apply aj (d:=134);exact rfl;(rw [← hd];apply uD (a:=d));exact rfl;(simp only [maxLen];omega))|refine sT ?_|refine sS ?_|refine sN ?_|refine sM fun _=> ?_|(refine sC ?_ ?_<;>intro hb<;>try omega)|fail)
   all_goals try (exfalso;omega)
   refine ay [0,1,2,3,4,18,19,21,22] rfl (fun st:Nat=> [(20,.int .i64 (st:Int))]) (fun _=> []) (fun st=>d+m - b≤st∧st≤d) (fun st=>d - st) (d+m - b) ⟨by omega,by omega⟩ sB mS ?_
   rintro st ⟨hs1,hs2⟩
   by_cases hlt:st<d
   ·
    obtain ⟨z,hz,hc⟩:=hL.cmp (i:=(st+d) / 2) (j:=d+m - 1 - (st+d) / 2) (by omega) (by omega)
    have r1:=hrl.elem cJ (d+m - 1 - (st+d) / 2) (by omega)
    have r2:=hrl.elem cJ ((st+d) / 2) (by omega)
    generalize L[d+m - 1 - (st+d) / 2]'(by omega)=p at r1 hc
    generalize L[(st+d) / 2]'(by omega)=q at r2 hc
    repeat' (first|(apply aj;exact rfl;apply uC (a:=st+d);exact rfl;(simp only [maxLen];omega))|(apply aj;exact rfl;apply o3 (a:=st+d);exact rfl;exact rfl)|(apply aj;exact rfl;apply uD (a:=(st+d) / 2);exact rfl;(simp only [maxLen];omega))|(apply fU (id:=35);kernel_rfl;kernel_rfl)|(apply aP (d:=163);exact rfl;apply ak (j:=d+m - 1 - (st+d) / 2);exact rfl;exact rfl;omega)|(apply aP (d:=167);exact rfl;apply ak (j:=(st+d) / 2);exact rfl;exact rfl;omega)|(apply aP (d:=164);exact rfl;apply aA (xs:=cU p);exact rfl;exact r1;exact rfl)|(apply aP (d:=168);exact rfl;apply aA (xs:=cU q);exact rfl;exact r2;exact rfl)|(apply gC;exact rfl;exact rfl;infer_instance;exact rfl;(intro w' _;exact hc w'))|refine sT ?_|refine sS ?_|refine sQ ?_|refine sN ?_|refine sNQ ?_|refine sD ?_|refine sM fun _=> ?_|(refine sC ?_ ?_<;>intro hb<;>try omega)|(refine sCQ ?_ ?_<;>intro hb<;>try omega)|fail)
    all_goals first
     |(exfalso;simp at hb;omega)
     |(exfalso;omega)
     |(refine ⟨(st+d) / 2+1,⟨by omega,by omega⟩,by omega,by exact sB,by exact sB,by exact mS⟩;done)
     |trace_state
   ·
    have e:st=d:=by omega
    subst e
    repeat' (first|(apply aj (d:=177);exact rfl;apply jD (a:=st+m) (b:=st);exact rfl;exact rfl;omega;(simp only [maxLen];omega))|(apply aa (f:=214);exact rfl;exact rfl;(intro w2 hm2;(first|exact IH st (st+m - st) b (by omega) (by omega) (by omega) h3 w2 _ hm2)))|refine sT ?_|refine sS ?_|refine sN ?_|refine sM fun _=> ?_|(refine sC ?_ ?_<;>intro hb<;>try omega)|fail)
    all_goals first
     |(exfalso;omega)
     |(exact ij eIO rfl (MSub.nil _) rfl)
     |trace_state
  ·
   repeat' (first|(apply aj (d:=132);exact rfl;apply uC (a:=a+b);exact rfl;(simp only [maxLen];omega))|(apply aj (d:=133);exact rfl;apply o3 (a:=a+b);exact rfl;exact rfl)|(apply aj (d:=134);exact rfl;(rw [← hd];apply uD (a:=d));exact rfl;(simp only [maxLen];omega))|refine sT ?_|refine sS ?_|refine sN ?_|refine sM fun _=> ?_|(refine sC ?_ ?_<;>intro hb<;>try omega)|fail)
   all_goals try (exfalso;omega)
   refine ay [0,1,2,3,4,18,19,21,22] rfl (fun st:Nat=> [(20,.int .i64 (st:Int))]) (fun _=> []) (fun st=>a≤st∧st≤m) (fun st=>m - st) a ⟨by omega,by omega⟩ sB mS ?_
   rintro st ⟨hs1,hs2⟩
   by_cases hlt:st<m
   ·
    obtain ⟨z,hz,hc⟩:=hL.cmp (i:=(st+m) / 2) (j:=d+m - 1 - (st+m) / 2) (by omega) (by omega)
    have r1:=hrl.elem cJ (d+m - 1 - (st+m) / 2) (by omega)
    have r2:=hrl.elem cJ ((st+m) / 2) (by omega)
    generalize L[d+m - 1 - (st+m) / 2]'(by omega)=p at r1 hc
    generalize L[(st+m) / 2]'(by omega)=q at r2 hc
    repeat' (first|(apply aj;exact rfl;apply uC (a:=st+m);exact rfl;(simp only [maxLen];omega))|(apply aj;exact rfl;apply o3 (a:=st+m);exact rfl;exact rfl)|(apply aj;exact rfl;apply uD (a:=(st+m) / 2);exact rfl;(simp only [maxLen];omega))|(apply fU (id:=35);kernel_rfl;kernel_rfl)|(apply aP (d:=163);exact rfl;apply ak (j:=d+m - 1 - (st+m) / 2);exact rfl;exact rfl;omega)|(apply aP (d:=167);exact rfl;apply ak (j:=(st+m) / 2);exact rfl;exact rfl;omega)|(apply aP (d:=164);exact rfl;apply aA (xs:=cU p);exact rfl;exact r1;exact rfl)|(apply aP (d:=168);exact rfl;apply aA (xs:=cU q);exact rfl;exact r2;exact rfl)|(apply gC;exact rfl;exact rfl;infer_instance;exact rfl;(intro w' _;exact hc w'))|refine sT ?_|refine sS ?_|refine sQ ?_|refine sN ?_|refine sNQ ?_|refine sD ?_|refine sM fun _=> ?_|(refine sC ?_ ?_<;>intro hb<;>try omega)|(refine sCQ ?_ ?_<;>intro hb<;>try omega)|fail)
    all_goals first
     |(exfalso;simp at hb;omega)
     |(exfalso;omega)
     |(refine ⟨(st+m) / 2+1,⟨by omega,by omega⟩,by omega,by exact sB,by exact sB,by exact mS⟩;done)
     |trace_state
   ·
    have e:st=m:=by omega
    subst e
    by_cases c4:st<d
    ·
     repeat' (first|(apply aj (d:=177);exact rfl;apply jD (a:=d+st) (b:=st);exact rfl;exact rfl;omega;(simp only [maxLen];omega))|(apply aa (f:=214);exact rfl;exact rfl;(intro w2 hm2;exact IH a st d (by omega) (by omega) (by omega) (by omega) w2 _ hm2))|refine sT ?_|refine sS ?_|refine sN ?_|refine sM fun _=> ?_|(refine sC ?_ ?_<;>intro hb<;>try omega)|fail)
     all_goals first
      |(exfalso;omega)
      |(exact ij eIO rfl (MSub.nil _) rfl)
      |trace_state
    ·
     repeat' (first|(apply aj (d:=177);exact rfl;apply jD (a:=d+st) (b:=st);exact rfl;exact rfl;omega;(simp only [maxLen];omega))|refine sT ?_|refine sS ?_|refine sN ?_|refine sM fun _=> ?_|(refine sC ?_ ?_<;>intro hb<;>try omega)|fail)
     all_goals first
      |(exfalso;omega)
      |(exact ij eIO rfl (MSub.nil _) rfl)
      |trace_state
set_option maxHeartbeats 16000000 in
theorem AR (L:List Pz) (hL:InZ L) (lv:Value) (w:World) (hl:Reads w lv L.length (L.flatMap cU)):
  ax Tryz.prog 167 [lv,.int .i64 (L.length:Int),J6] w (.tuple #[]):=by
 have hI:=fun (a b:Nat) (h1:b≤L.length) (h2:a≤L.length) (w2:World) (H2:List Blk) (hm:Mem w w2 H2)=>JN L hL lv w2 (hl.of_w0 hm) a b h1 h2
 have hM:=fun (a m b:Nat) (h1:a<m) (h2:m<b) (h3:b≤L.length) (w2:World) (H2:List Blk) (hm:Mem w w2 H2)=>CM L hL lv w hl (b - a) a m b (MZ _) h1 h2 h3 w2 ⟨H2,hm⟩
 obtain ⟨Al,cl,rfl,hl1,hl2,hl3⟩:=hl
 refine aq Tryz.func167 rfl Tryz.ntmps167 rfl ?_
 have hlen:=hL.len
 repeat' (first|refine sT ?_|refine sS ?_|refine sN ?_|refine sM fun _=> ?_|(refine sC ?_ ?_<;>intro hb<;>try omega)|fail)
 refine ay [0,1,2,6] rfl (fun a:Nat=> [(7,.int .i64 (a:Int)),(8,.int .i64 ((a+20:Nat):Int))]) (fun _=> []) (fun a=>a≤L.length) (fun a=>L.length - a) 0 (Nl _) sB mS ?_
 rintro a ha
 by_cases hlt:a+20≤L.length
 ·
  repeat' (first|(apply aa (f:=213);exact rfl;exact rfl;(intro w2 hm2;exact hI a (a+20) hlt (by omega) w2 _ hm2))|(apply aj (d:=22);exact rfl;apply dc (a:=a+20) (b:=20);exact rfl;exact rfl;(simp only [maxLen];omega))|refine sT ?_|refine sS ?_|refine sN ?_|refine sM fun _=> ?_|(refine sC ?_ ?_<;>intro hb<;>try omega)|fail)
  all_goals first
   |(exfalso;omega)
   |(refine ⟨a+20,hlt,by omega,by exact sB,by exact sB,by exact mS⟩;done)
   |trace_state
 ·
  repeat' (first|(apply aa (f:=213);exact rfl;exact rfl;(intro w2 hm2;exact hI a L.length (MZ _) ha w2 _ hm2))|refine sT ?_|refine sS ?_|refine sN ?_|refine sM fun _=> ?_|(refine sC ?_ ?_<;>intro hb<;>try omega)|fail)
  all_goals try (exfalso;omega)
  refine ay [0,1,2] rfl (fun s:Nat=> [(6,.int .i64 (s:Int))]) (fun _=> []) (fun s=>20≤s∧s≤2*L.length+20) (fun s=>2*L.length+20 - s) 20 ⟨by omega,by omega⟩ sB mS ?_
  rintro s ⟨hs1,hs2⟩
  by_cases hsl:s<L.length
  ·
   repeat' (first|(apply aj (d:=32);exact rfl;apply wq (a:=2) (b:=s);exact rfl;exact rfl;(simp only [maxLen];omega))|refine sT ?_|refine sS ?_|refine sN ?_|refine sM fun _=> ?_|(refine sC ?_ ?_<;>intro hb<;>try omega)|fail)
   all_goals try (exfalso;omega)
   refine ay [0,1,2,6] rfl (fun a:Nat=> [(7,.int .i64 (a:Int)),(8,.int .i64 ((a+2*s:Nat):Int))]) (fun _=> []) (fun a=>a≤L.length) (fun a=>L.length - a) 0 (Nl _) (by rw [Nm];exact sB) mS ?_
   rintro a ha
   by_cases hla:a+2*s≤L.length
   ·
    repeat' (first|(apply aj (d:=40);exact rfl;apply dc (a:=a) (b:=s);exact rfl;exact rfl;(simp only [maxLen];omega))|(apply aa (f:=214);exact rfl;exact rfl;(intro w2 hm2;exact hM a (a+s) (a+2*s) (by omega) (by omega) hla w2 _ hm2))|(apply aj (d:=47);exact rfl;apply wq (a:=2) (b:=s);exact rfl;exact rfl;(simp only [maxLen];omega))|(apply aj (d:=48);exact rfl;apply dc (a:=a+2*s) (b:=2*s);exact rfl;exact rfl;(simp only [maxLen];omega))|refine sT ?_|refine sS ?_|refine sN ?_|refine sM fun _=> ?_|(refine sC ?_ ?_<;>intro hb<;>try omega)|fail)
    all_goals first
     |(exfalso;omega)
     |(refine ⟨a+2*s,hla,by omega,by exact sB,by exact sB,by exact mS⟩;done)
     |trace_state
   ·
    by_cases hlm:a+s<L.length
    ·
     repeat' (first|(apply aj (d:=51);exact rfl;apply dc (a:=a) (b:=s);exact rfl;exact rfl;(simp only [maxLen];omega))|(apply aa (f:=214);exact rfl;exact rfl;(intro w2 hm2;exact hM a (a+s) L.length (by omega) hlm (MZ _) w2 _ hm2))|(apply aj (d:=62);exact rfl;apply wq (a:=s) (b:=2);exact rfl;exact rfl;(simp only [maxLen];omega))|refine sT ?_|refine sS ?_|refine sN ?_|refine sM fun _=> ?_|(refine sC ?_ ?_<;>intro hb<;>try omega)|fail)
     all_goals first
      |(exfalso;omega)
      |(refine ⟨s*2,⟨by omega,by omega⟩,by omega,by exact sB,by exact sB,by exact mS⟩;done)
      |trace_state
    ·
     repeat' (first|(apply aj (d:=51);exact rfl;apply dc (a:=a) (b:=s);exact rfl;exact rfl;(simp only [maxLen];omega))|(apply aj (d:=62);exact rfl;apply wq (a:=s) (b:=2);exact rfl;exact rfl;(simp only [maxLen];omega))|refine sT ?_|refine sS ?_|refine sN ?_|refine sM fun _=> ?_|(refine sC ?_ ?_<;>intro hb<;>try omega)|fail)
     all_goals first
      |(exfalso;omega)
      |(refine ⟨s*2,⟨by omega,by omega⟩,by omega,by exact sB,by exact sB,by exact mS⟩;done)
      |trace_state
  ·
   repeat' (first|refine sT ?_|refine sS ?_|refine sM fun _=> ?_|(refine sC ?_ ?_<;>intro hb<;>try omega)|fail)
   all_goals first
    |(exfalso;omega)
    |(exact ij eIO rfl (MSub.nil _) rfl)
    |trace_state
theorem tW (L:List Pz) (hL:InZ L) (lv:Value) (w:World) (hl:Reads w lv L.length (L.flatMap cU)):
  ax Tryz.prog 133 [lv,J6] w (.tuple #[]):=by
 have hS:=fun (w2:World) (H2:List Blk) (hm:Mem w w2 H2)=>AR L hL lv w2 (hl.of_w0 hm)
 obtain ⟨Al,cl,rfl,hl1,hl2,hl3⟩:=hl
 refine aq Tryz.func133 rfl Tryz.ntmps133 rfl ?_
 repeat' (first|(apply aa (f:=167);exact rfl;exact rfl;(intro w2 hm2;exact hS w2 _ hm2))|refine sT ?_|refine sM fun _=> ?_|(refine sC ?_ ?_<;>intro hb<;>try omega)|fail)
 exact ij eIO rfl (MSub.nil _) rfl
end Go.SL
