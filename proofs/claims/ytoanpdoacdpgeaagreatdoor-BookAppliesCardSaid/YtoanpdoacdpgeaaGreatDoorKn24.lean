/-
  Lemmas and walks, put together: Hi.
-/
import Derived.Test.YtoanpdoacdpgeaaGreatDoorKn18
import Derived.Test.YtoanpdoacdpgeaaGreatDoorKn21
set_option linter.unusedSimpArgs false
set_option linter.unusedVariables false
set_option maxRecDepth 20000
namespace Go.SL
open Go Go.Proofs
def kC (p:Nat × Nat):List Value:= [.int .i64 (p.1:Int),.int .i64 (p.2:Int)]
theorem GS (w:World) (d:Nat) (a b:Nat × Nat):(Op.equalIn (d+5) 189 (.agg (kC a).toArray) (.agg (kC b).toArray)).run Tryz.prog w= .ok (decide (a=b)) w:=by
 obtain ⟨i,h1,h2⟩:=(inferInstance:Size Tryz.prog 3 1).out
 have hc:Tryz.prog.cellsOf 3=1:=by kernel_rfl
 rw [run_equalIn_array w (d+4) (kC a).toArray (kC b).toArray Tryz.underlying189 h1,hc,show List.range 2= [0,1] from rfl]
 have hr: ∀ (a b:Int) w,(Op.equalIn (d+4) 3 (.int .i64 a) (.int .i64 b)).run Tryz.prog w= .ok (a==b) w:=fun a b w=>run_equalIn_int w (d+3) 3 .i64 .i64 a b Tryz.underlying3
 have hpa: ∀ (c:Nat × Nat) w,(part 3 (kC c).toArray 0).run Tryz.prog w= .ok (.int .i64 (c.1:Int)) w:=by
  intro c w
  simp [part,go_sem,kC]
 have hpb: ∀ (c:Nat × Nat) w,(part 3 (kC c).toArray 1).run Tryz.prog w= .ok (.int .i64 (c.2:Int)) w:=by
  intro c w
  simp [part,go_sem,kC]
 have he:decide (a=b)=((a.1:Int)==b.1 && (a.2:Int)==b.2):=by
  obtain ⟨a1,a2⟩:=a
  obtain ⟨b1,b2⟩:=b
  rw [NL]
  simp
  omega
 rw [he]
 by_cases h1:((a.1:Int)==b.1)=true<;>by_cases h2:((a.2:Int)==b.2)=true<;>simp [Op.eqItems,hpa,hpb,hr,h1,h2]
theorem Dq {w0:World} {s:az} {H:List Blk} {ty t' :TypeId} {x y:Operand} {a b:Nat × Nat} {c:Bool} (hc:decide (a=b)=c) (hx:ev s x=some (.agg (kC a).toArray)) (hy:ev s y=some (.agg (kC b).toArray)):VOp Tryz.prog w0 s H (.binOp .eql 189 x y t') ty (.bool c):=fun ρ w _ _ _ _ hρ _=>by
 subst hc
 have h:=GS w 9995 a b
 simp only [Nat.reduceAdd] at h
 simp only [execOp,hρ x _ hx,hρ y _ hy,Sem.run_bind,run_eqGuard_agg w _ _ _ _ _ _ Tryz.eqGuardType189,Result.andThen_ok,run_eql_struct,h,Sem.run_pure]
end Go.SL
namespace Go.SL
open Go Go.Proofs
attribute [local irreducible] W WL WQ WG WA WX WLI WR WT WC WE VOp RW thn blk bE scp ba bo bL aP FnIn FnP ceP
theorem DN {a b:Rct} (h:(dN a b).2=true):aI (dN a b).1=true:=by
 unfold dN at h ⊢
 split at h
 ·
  rename_i hall
  rw [if_pos hall]
  simp only [Pm,List.all_nil,NX,Nm] at hall
  exact hall.2.2
 ·
  cases h
theorem Aw (r:Rct) (L:List Rl) (x:Rl):aY r (L++ [x])=aY r L++if (dN x.rect r).2=true then [((dN x.rect r).1.c1,(dN x.rect r).1.c2)] else []:=by
 unfold aY;simp
theorem yZ (r:Rct) (L:List Rl) (x:Rl):aX r (L++ [x])=aX r L++if (dN x.rect r).2=true then [((dN x.rect r).1.r1,(dN x.rect r).1.r2)] else []:=by
 unfold aX;simp
theorem dY (r:Rct): ∀ L:List Rl,(aY r L).length≤L.length
 | []=>Ni _
 |x::L=>by
  have:=dY r L
  unfold aY at this ⊢
  rw [Np,Na]
  split<;>simp only [NB,O4]<;>omega
theorem dU (r:Rct): ∀ L:List Rl,(aX r L).length≤L.length
 | []=>Ni _
 |x::L=>by
  have:=dU r L
  unfold aX at this ⊢
  rw [Np,Na]
  split<;>simp only [NB,O4]<;>omega
theorem pq {r:Rct} {L:List Rl}: ∀ p∈aY r L,0≤p.1∧p.1≤100000∧0≤p.2∧p.2≤100000:=fun p hp=>by
 obtain ⟨x,_,hx⟩:=NU.1 hp
 split at hx
 ·
  rename_i h
  have:=cj.1 (DN h)
  rw [NS.1 hx]
  simp only;omega
 ·
  cases hx
theorem oJ {r:Rct} {L:List Rl}: ∀ p∈aX r L,0≤p.1∧p.1≤100000∧0≤p.2∧p.2≤100000:=fun p hp=>by
 obtain ⟨x,_,hx⟩:=NU.1 hp
 split at hx
 ·
  rename_i h
  have:=cj.1 (DN h)
  rw [NS.1 hx]
  simp only;omega
 ·
  cases hx
def qz (g:Nat) (A:Option Nat) (c:Nat) (C:List (Int × Int)):List Blk:= [.box g 232 [sl A C.length c],.own A 189 2 C.length c (C.flatMap dc)]
set_option maxHeartbeats 8000000 in
theorem DL (r:Rct) (L:List Rl) (lv:Value) (gr gc gw:Nat) (A1 A2:Option Nat) (c1 c2:Nat) (C D:List (Int × Int)) (R:List Blk) (w0:World) (hl:Reads w0 lv L.length (L.flatMap aV)) (hC:C.length+L.length≤100000) (hD:D.length+L.length≤100000):
  FnIn Tryz.prog 180 [lv,.pointer (some ⟨gr,0,none⟩),.pointer (some ⟨gc,0,none⟩),.pointer (some ⟨gw,0,none⟩)] w0 (.box gr 32 (bH r)::(qz gc A1 c1 C++(qz gw A2 c2 D++R))) fun v H=>
   v= .tuple #[]∧ ∃ A1' c1' A2' c2',H= .box gr 32 (bH r)::(qz gc A1' c1' (C++aY r L)++(qz gw A2' c2' (D++aX r L)++R)):=by
 obtain ⟨Al,cl,rfl,hl1,hl2,hl3⟩:=hl
 refine dZ Tryz.func180 rfl Tryz.ntmps180 rfl ?_
 simp only [qz,Nr,Nf,Ng]
 repeat' (first|refine sT ?_|refine sS ?_|refine sM fun _=> ?_|(refine sC ?_ ?_<;>intro hb<;>try omega)|fail)
 refine ax [1,2,3,9,10] rfl (fun y:Nat × Option Nat × Nat × Option Nat × Nat=> [(11,.int .i64 (y.1:Int))]) (fun y=> .box gr 32 (bH r):: .box gc 232 [sl y.2.1 (C++aY r (L.take y.1)).length y.2.2.1]:: .own y.2.1 189 2 (C++aY r (L.take y.1)).length y.2.2.1 ((C++aY r (L.take y.1)).flatMap dc):: .box gw 232 [sl y.2.2.2.1 (D++aX r (L.take y.1)).length y.2.2.2.2]:: .own y.2.2.2.1 189 2 (D++aX r (L.take y.1)).length y.2.2.2.2 ((D++aX r (L.take y.1)).flatMap dc)::R) (fun y=>y.1≤L.length) (fun y=>L.length - y.1) (0,A1,c1,A2,c2) (Ns _) sB (by simp only [OA,aY,aX,NE,Nl];exact mS) ?_
 rintro ⟨i,A1,c1,A2,c2⟩ hi
 dsimp only at hi ⊢
 by_cases hlt:i<L.length
 ·
  obtain ⟨gl,ol,rfl,hrl⟩:=hl3 (by omega)
  have he1:=hrl.elem cI i hlt
  have hcs:=Aw r (L.take i) L[i]
  have hws:=yZ r (L.take i) L[i]
  rw [← Nk hlt] at hcs hws
  have hcl:=dY r (L.take i)
  have hwl:=dU r (L.take i)
  rw [Nu] at hcl hwl
  generalize L[i]=x at he1 hcs hws
  have hM:=fun w=>D8 x.rect r w
  generalize dN x.rect r=mt at hM hcs hws
  obtain ⟨mr,mb⟩:=mt
  dsimp only at hM hcs hws
  generalize aY r (L.take i)=C1 at hcs hcl ⊢
  generalize aX r (L.take i)=D1 at hws hwl ⊢
  have hCl:(C++C1).length≤200000:=by rw [Na];omega
  have hDl:(D++D1).length≤200000:=by rw [Na];omega
  have hC2:C++aY r (L.take (i+1))=(C++C1)++if mb=true then [(mr.c1,mr.c2)] else []:=by rw [hcs,NG]
  have hD2:D++aX r (L.take (i+1))=(D++D1)++if mb=true then [(mr.r1,mr.r2)] else []:=by rw [hws,NG]
  generalize C++C1=C3 at hC2 hCl ⊢
  generalize D++D1=D3 at hD2 hDl ⊢
  cases mb
  ·
   rw [if_neg (by decide),Nl] at hC2 hD2
   repeat' (first|(apply aa;exact rfl;exact rfl;(intro w hm;exact hM w))|refine sT ?_|refine sS ?_|refine sN ?_|refine sO ?_|refine sM fun _=> ?_|(refine sC ?_ ?_<;>intro hb<;>try omega)|fail)
   all_goals first
    |(exfalso;omega)
    |(refine ⟨(i+1,A1,c1,A2,c2),hlt,by dsimp only;omega,by exact sB,by exact sB,?_⟩;dsimp only;rw [hC2,hD2];exact mS)
    |trace_state
  ·
   rw [if_pos rfl] at hC2 hD2
   have hC4:(C3++ [(mr.c1,mr.c2)]).flatMap dc=C3.flatMap dc++ [.int .i64 mr.c1,.int .i64 mr.c2]:=by simp [dc]
   have hD4:(D3++ [(mr.r1,mr.r2)]).flatMap dc=D3.flatMap dc++ [.int .i64 mr.r1,.int .i64 mr.r2]:=by simp [dc]
   repeat' (first|(apply aa;exact rfl;exact rfl;(intro w hm;exact hM w))|(apply ak;exact rfl;apply mB;(iterate 5 exact rfl))|(apply bA (d:=30) (A:=A1) (m:=1);(iterate 3 exact rfl);exact pK;(intro w hm;exact hm.cells_own pK);exact rfl;(simp [Value.oneCell',sl]);omega;(simp only [maxLen];omega);(intro A3 c3 hA3))|(apply bA (d:=38) (A:=A2) (m:=1);(iterate 3 exact rfl);exact pK;(intro w hm;exact hm.cells_own pK);exact rfl;(simp [Value.oneCell',sl]);omega;(simp only [maxLen];omega);(intro A4 c4 hA4))|refine sT ?_|refine sS ?_|refine sN ?_|refine sO ?_|refine sM fun _=> ?_|(refine sC ?_ ?_<;>intro hb<;>try omega)|fail)
   all_goals first
    |(exfalso;omega)
    |(refine ⟨(i+1,A3,c3,A4,c4),hlt,by dsimp only;omega,by exact sB,by exact sB,?_⟩;dsimp only;rw [hC2,hD2,hC4,hD4,List.length_append,List.length_append];exact mS)
    |trace_state
 ·
  have e:i=L.length:=by omega
  subst e
  rw [N0]
  repeat' (first|refine sT ?_|refine sS ?_|refine sM fun _=> ?_|(refine sC ?_ ?_<;>intro hb<;>try omega)|fail)
  all_goals first
   |(exfalso;omega)
   |(exact iB eIO rfl (.refl _) ⟨rfl,A1,c1,A2,c2,rfl⟩)
   |trace_state
end Go.SL
