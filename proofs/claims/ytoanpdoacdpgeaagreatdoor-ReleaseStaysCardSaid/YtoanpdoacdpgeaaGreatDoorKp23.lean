/-
  Lemmas and walks, put together: Hn Ja Jb Nb Oa.
-/
import Derived.Test.YtoanpdoacdpgeaaGreatDoorKp21
set_option linter.unusedSimpArgs false
set_option linter.unusedVariables false
set_option maxRecDepth 20000
namespace Go.SL
open Go Go.Proofs
attribute [local irreducible] W WL WQ WG WA WX WLI WR WT WC WE VOp RW thn blk bF scp aR bk bJ aL FnIn FnP ceP ny iL ku
def orS (l:List (BitVec 64)):BitVec 64:=l.foldl (· ||| ·) 0#64
theorem J1 {l:List (BitVec 64)} {x:BitVec 64}:orS (l++ [x])=orS l|||x:=by unfold orS;rw [Tp];rfl
def l3 (fn:Int) (r:Rct) (L:List Rl) (G:List Gn):BitVec 64 × List Nat × Int:=
 if fn<46∨50<fn then (0#64,[],2) else if dC r≠0 then (0#64,[],3) else if (ed 64 L).2≠0 then (0#64,[],(ed 64 L).2) else if (jH 64 G).2≠0 then (0#64,[],(jH 64 G).2)
 else (orS ((du fn r L G 0).map fun x=>x.2.to),(du fn r L G 0).map fun x=>x.1,0)
theorem yM (fn:Int) (r:Rct) (lv gv:Value) (w:World) {m1 m2:Nat} {x1 x2:List Value} (hl:Reads w lv m1 x1) (hg:Reads w gv m2 x2):aL Tryz.prog 158 [.int .u8 fn,.agg (bK r).toArray,lv,gv] w fun v H=> ∃ gg gr gf gl,v= .func (.func 204) #[] #[.pointer (some ⟨gg,0,none⟩),.pointer (some ⟨gr,0,none⟩),.pointer (some ⟨gf,0,none⟩),.pointer (some ⟨gl,0,none⟩)]∧H= [.box gg 24 [gv],.box gr 32 (bK r),.box gf 5 [.int .u8 fn],.box gl 23 [lv]]:=by
 obtain ⟨Al,cl,rfl,_⟩:=hl
 obtain ⟨Ag,cg,rfl,_⟩:=hg
 refine aq Tryz.func158 rfl Tryz.ntmps158 rfl ?_
 repeat' (first|refine sT ?_|refine sM fun _=> ?_|(refine sC ?_ ?_<;>intro hb<;>try omega)|fail)
 rename_i gf gr gl gg
 exact cf eIO rfl rfl (H' := [.box gg 24 [_],.box gr 32 (bK r),.box gf 5 [.int .u8 fn],.box gl 23 [_]]) mS ⟨gg,gr,gf,gl,rfl,rfl⟩
set_option maxHeartbeats 8000000 in
theorem Ph (fn:Int) (r:Rct) (L:List Rl) (G:List Gn) (lv gv:Value) (w:World) (hl:Reads w lv L.length (L.flatMap bw)) (hg:Reads w gv G.length (G.flatMap bn)) (hn:G.length≤1000000):
    aL Tryz.prog 126 [.int .u8 fn,.agg (bK r).toArray,lv,gv] w fun v H=> ∃ A cap,v= .tuple #[vS (l3 fn r L G).1,sl A (l3 fn r L G).2.1.length cap,.int .i64 (l3 fn r L G).2.2]∧H= [.own A 3 1 (l3 fn r L G).2.1.length cap (kZ (l3 fn r L G).2.1)]:=by
  refine m8 Tryz.func126 rfl Tryz.ntmps126 (by rfl) ?_
  have h1:=fun w=>fR r w
  have h2:=fun (w' :World) (H:List Blk) (hm:Mem w w' H)=>iU 64 L lv w' (hl.of_w0 hm)
  have h3:=fun (w' :World) (H:List Blk) (hm:Mem w w' H)=>mZ 64 G gv w' (hg.of_w0 hm)
  have h4:=fun (w' :World) (H:List Blk) (hm:Mem w w' H)=>yM fn r lv gv w' (hl.of_w0 hm) (hg.of_w0 hm)
  have h5:=fun gg gr gf gl=>Mv fn r L G gv lv w hg hl hn gg gr gf gl
  have hrl:=mC fn r L G 0
  unfold l3
  generalize dC r=e1 at h1
  generalize (ed 64 L).2=e2 at h2
  generalize (jH 64 G).2=e3 at h3
  generalize du fn r L G 0=us at h5 hrl
  refine pF ?_
  refine aC 3 1 ?_
  repeat' (first|(apply aa;exact rfl;exact rfl;(intro w hm;exact h1 w))|(apply aa (f:=60);exact rfl;exact rfl;(intro w' hm;exact h2 w' _ hm))|(apply aa (f:=61);exact rfl;exact rfl;(intro w' hm;exact h3 w' _ hm))|(apply aA (f:=158);exact rfl;exact rfl;(intro w' hm;exact h4 w' _ hm);rintro _ _ ⟨gg,gr,gf,gl,rfl,rfl⟩)|refine sT ?_|refine sS ?_|refine sR ?_|refine sM fun _=> ?_|(refine sC ?_ ?_<;>intro hb<;>try omega)|(refine sCR ?_ ?_<;>intro hb<;>try omega)|fail)
  all_goals first
    |(exfalso;omega)
    | (refine FU ?_
       exact JO eIO rfl rfl pK rfl pK rfl (H' := [.own none 3 1 0 0 []]) mS ⟨none,0,by first|(rw [if_pos (by omega)];exact ⟨rfl,rfl⟩)|(rw [if_neg (by omega),if_pos hb];exact ⟨rfl,rfl⟩)|(rw [if_neg (by omega),if_neg (by omega),if_pos hb];exact ⟨rfl,rfl⟩)|(rw [if_neg (by omega),if_neg (by omega),if_neg (by omega),if_pos hb];exact ⟨rfl,rfl⟩)⟩)
    |skip
  rename_i g5 g8 g9 k1 k2 k3 k4
  rw [if_neg (by omega),if_neg (by omega),if_neg (by omega),if_neg (by omega)]
  refine tF (ps:= [47,48]) (us:=us) (encs:=NN) (Hc:= [.box gg 24 [gv],.box gr 32 (bK r),.box gf 5 [.int .u8 fn],.box gl 23 [lv]]) (HU0:= [.box g8 33 [vS 0#64],.box g9 75 [.slice none 0 0],.own none 3 1 0 0 []]) rfl (fun _=>rfl) rfl (h5 gg gr gf gl)
    (fun pre HU=> ∃ A cap,HU= [.box g8 33 [vS (orS (pre.map fun x=>x.2.to))],.box g9 75 [sl A pre.length cap],.own A 3 1 pre.length cap (kZ (pre.map fun x=>x.1))]) (fun _=>False) ?_ ⟨none,0,rfl⟩ ?_ ?_ ?_
  · exact mS
  · rintro l pre ⟨i,g⟩ post hus _ ⟨A,cap,rfl⟩ F F'
    have hlu:=congrArg List.length hus
    simp only [Qk,QF] at hlu
    change WR _ _ _ l _ _ ((48,Value.agg (bn g).toArray)::(47,Value.int .i64 (i:Int))::_) (.box g8 33 [vS (orS (pre.map fun x=>x.2.to))]:: .box g9 75 [sl A pre.length cap]:: .own A 3 1 pre.length cap (kZ (pre.map fun x=>x.1))::F)
    repeat' (first|refine sT ?_|refine sR ?_|refine sM fun _=> ?_|(refine sC ?_ ?_<;>intro hb<;>try omega)|(refine sCR ?_ ?_<;>intro hb<;>try omega)|fail)
    rename_i g16
    refine vY ⟨[.box g16 56 (bn g),.box g8 33 [vS (orS (pre.map fun x=>x.2.to))],.box g9 75 [sl A pre.length cap],.own A 3 1 pre.length cap (kZ (pre.map fun x=>x.1))],MSub.refl _,?_⟩
    change WR _ _ _ l _ _ _ (.box g16 56 (bn g):: .box g8 33 [vS (orS (pre.map fun x=>x.2.to))]:: .box g9 75 [sl A pre.length cap]:: .own A 3 1 pre.length cap (kZ (pre.map fun x=>x.1))::F')
    repeat' (first|(apply ak;exact rfl;apply oT (b:=g.to);exact rfl;exact rfl)|(apply bO;(iterate 3 exact rfl);(repeat first|exact .hd|apply Sel.tl|apply In.tl);(intro w hm;exact hm.cells_own (by (repeat first|exact .hd|apply Sel.tl|apply In.tl)));exact rfl;(simp [Value.oneCell',sl]);omega;(simp only [maxLen];omega);(intro A' cap' hA'))|refine sT ?_|refine sR ?_|refine sM fun _=> ?_|(refine sC ?_ ?_<;>intro hb<;>try omega)|(refine sCR ?_ ?_<;>intro hb<;>try omega)|fail)
    refine yL [.box g8 33 [vS (orS (pre.map fun x=>x.2.to)|||g.to)],.box g9 75 [sl A' (pre.length+1) cap'],.own A' 3 1 (pre.length+1) cap' (kZ (pre.map fun x=>x.1)++ [.int .i64 (i:Int)])] ?_ ⟨A',cap',?_⟩
    · change MSub (_::_::_::F') _
      exact mS
    · simp only [Ru,QL,RG,J1,Qk,Qo,kZ]
  · rintro D _ ⟨A,cap,rfl⟩
    change bJ _ _ _ _ _ (iR D:: .box g8 33 [vS (orS (us.map fun x=>x.2.to))]:: .box g9 75 [sl A us.length cap]:: .own A 3 1 us.length cap (kZ (us.map fun x=>x.1))::_)
    repeat' (first|refine sT ?_|refine sS ?_|refine sR ?_|refine sM fun _=> ?_|(refine sC ?_ ?_<;>intro hb<;>try omega)|(refine sCR ?_ ?_<;>intro hb<;>try omega)|fail)
    generalize orS (us.map fun x=>x.2.to)=o
    refine tN (id:=16) [⟨2,g8,33,vS o,vS o⟩,⟨3,g9,75,sl A us.length cap,sl A us.length cap⟩] [iR D,.own A 3 1 us.length cap (kZ (us.map fun x=>x.1))] (by kernel_rfl) (by kernel_rfl) rfl mS ?_
    repeat' (first|(refine sU ⟨2,g8,33,vS o,vS o⟩ (.head _) (f:=60) (j:=2) rfl (by decide+kernel) rfl rfl rfl ?_)|(refine sU ⟨3,g9,75,sl A us.length cap,sl A us.length cap⟩ (.tail _ (.head _)) (f:=60) (j:=3) rfl (by decide+kernel) rfl rfl rfl ?_)|(refine jN [] [⟨3,g9,75,sl A us.length cap,sl A us.length cap⟩] ⟨2,g8,33,vS o,vS o⟩ rfl rfl rfl rfl rfl rfl ?_)|(refine jN [⟨2,g8,33,vS o,vS o⟩] [] ⟨3,g9,75,sl A us.length cap,sl A us.length cap⟩ rfl rfl rfl rfl rfl rfl ?_)|(apply E3;exact rfl;exact rfl;(exact vC))|refine sT ?_|refine sS ?_|refine sR ?_|refine sG ?_|refine sM fun _=> ?_|(refine sC ?_ ?_<;>intro hb<;>try omega)|(refine sCR ?_ ?_<;>intro hb<;>try omega)|fail)
    refine vz pK ?_
    exact JO eIO rfl rfl pK rfl pK rfl (H' := [.own A 3 1 us.length cap (kZ (us.map fun x=>x.1))]) mS ⟨A,cap,by dsimp only;rw [List.length_map],by dsimp only;rw [List.length_map]⟩
  · rintro D HU h
    exact h.elim
end Go.SL
namespace Go.SL
open Go Go.Proofs
attribute [local irreducible] W WL WQ WG WA WX WLI WR WT WC WE VOp RW thn blk bF scp aR bk bJ aL FnIn FnP ceP
theorem Iw (n:Nat) (h:n<64):zx (n+1)=zx n|||1#64<<<n:=by
 have h1: ∀ n:Fin 64,zx (n.val+1)=zx n.val|||1#64<<<n.val:=by decide+kernel
 exact h1 ⟨n,h⟩
theorem xp (m:Nat) (h:m≤64) (w:World):ay Tryz.prog 112 [.int .i64 (m:Int)] w (vS (1#64<<<m)):=by
 refine aq Tryz.func112 rfl Tryz.ntmps112 rfl ?_
 repeat' (first|(apply ak;exact rfl;apply bP (c:=(m:Int));exact rfl;(simp only [IntKind.wrap_u64];omega))|(apply ak;exact rfl;apply yF (a:=1#64) (m:=m);exact rfl;exact rfl;omega)|refine sT ?_|refine sM fun _=> ?_|(refine sC ?_ ?_<;>intro hb<;>try omega)|fail)
 all_goals first|(exfalso;omega)|((refine rT1 ?_);rfl)
theorem Ba (u:Int) (w:World):ay Tryz.prog 132 [.int .i64 u] w (.tuple #[vS (cY u).1,.int .i64 (cY u).2]):=by
 refine aq Tryz.func132 rfl Tryz.ntmps132 rfl ?_
 by_cases h:u<0∨64<u
 ·
  rw [cY,if_pos h]
  repeat' (first|refine sT ?_|refine sM fun _=> ?_|(refine sC ?_ ?_<;>intro hb<;>try omega)|fail)
  all_goals first|(exfalso;omega)|((refine rT2 ?_);rfl)
 ·
  rw [cY,if_neg h]
  obtain ⟨m,rfl⟩: ∃ m:Nat,u=(m:Int):=⟨u.toNat,by omega⟩
  rw [RX]
  repeat' (first|refine sT ?_|refine sS ?_|refine sM fun _=> ?_|(refine sC ?_ ?_<;>intro hb<;>try omega)|fail)
  all_goals try (exfalso;omega)
  refine ax [0] rfl (fun i:Nat=> [(4,vS (zx i)),(5,.int .i64 (i:Int))]) (fun _=> []) (fun i=>i≤m) (fun i=>m - i) 0 (by omega) sB mS ?_
  rintro i hi
  by_cases hlt:i<m
  ·
   have hB:=fun w=>xp i (by omega) w
   have hs:=Iw i (by omega)
   repeat' (first|(apply aa;exact rfl;exact rfl;(intro w hm;exact hB w))|(apply ak;exact rfl;apply oT (a:=zx i);exact rfl;exact rfl)|refine sT ?_|refine sS ?_|refine sN ?_|refine sM fun _=> ?_|(refine sC ?_ ?_<;>intro hb<;>try omega)|fail)
   all_goals first
    |(exfalso;omega)
    |(rw [← hs];refine ⟨i+1,hlt,by omega,by exact sB,by exact sB,by exact mS⟩;done)
  ·
   have e:i=m:=by omega
   subst e
   repeat' (first|refine sT ?_|refine sS ?_|refine sM fun _=> ?_|(refine sC ?_ ?_<;>intro hb<;>try omega)|fail)
   all_goals first|(exfalso;omega)|((refine rT2 ?_);rfl)
theorem jk (x:BitVec 64) (u:Int) (w:World):ay Tryz.prog 86 [vS x,.int .i64 u] w (.bool (decide (x &&& ~~~(cY u).1=0#64))):=by
 refine aq Tryz.func86 rfl Tryz.ntmps86 rfl ?_
 have h1:=fun w=>Ba u w
 generalize (cY u).1=a at h1 ⊢
 generalize (cY u).2=e at h1
 repeat' (first|(apply aa;exact rfl;exact rfl;(intro w hm;exact h1 w))|(apply ak;exact rfl;apply dU (b:=a);exact rfl;exact rfl)|(apply ak;exact rfl;apply Fe (b:=0#64);exact rfl;exact rfl)|refine sT ?_|refine sM fun _=> ?_|(refine sC ?_ ?_<;>intro hb<;>try omega)|fail)
 all_goals first|(exfalso;omega)|((refine rT1 ?_);rfl)
theorem jS (r:Rct) (w:World):ay Tryz.prog 85 [.agg (bK r).toArray] w (.bool (aJ r)):=by
 refine aq Tryz.func85 rfl Tryz.ntmps85 rfl ?_
 have h:aJ r=true↔(1≤r.c1∧r.c1≤r.c2∧r.c2≤1024∧1≤r.r1∧r.r1≤r.r2∧r.r2≤1024):=by
  simp only [aJ,valid,Qu,decide_eq_true_eq]
  omega
 by_cases hk:aJ r=true
 ·
  have hk2:=h.1 hk
  rw [hk]
  repeat' (first|refine sT ?_|refine sM fun _=> ?_|(refine sC ?_ ?_<;>intro hb<;>try omega)|fail)
  all_goals first|(exfalso;omega)|((refine rT1 ?_);simp;omega)|((refine rT1 ?_);rfl)
 ·
  have hk2:=fun a=>hk (h.2 a)
  rw [show aJ r=false by simpa using hk]
  repeat' (first|refine sT ?_|refine sM fun _=> ?_|(refine sC ?_ ?_<;>intro hb<;>try omega)|fail)
  all_goals first|(exfalso;omega)|((refine rT1 ?_);rfl)|((refine rT1 ?_);exact congrArg Value.bool (decide_eq_false fun hz=>hk2 ⟨by omega,by omega,by omega,by omega,by omega,by omega⟩))
theorem J2 (a b c s:BitVec 64):((a|||b|||c) &&& s=0#64)↔(a &&& s=0#64∧b &&& s=0#64∧c &&& s=0#64):=by
 have h: ∀ x:BitVec 64,(x=0#64)↔ ∀ i,x.getLsbD i=false:=fun x=>⟨fun h i=>by rw [h];simp,fun h=>Tn fun i _=>by rw [h i];simp⟩
 simp only [h,SI,BitVec.getLsbD_or,RF,SB]
 constructor
 ·
  intro hh
  refine ⟨fun i=> ?_,fun i=> ?_,fun i=> ?_⟩<;>rcases hh i with ⟨⟨h1,h2⟩,h3⟩|h1<;>simp_all
 ·
  rintro ⟨h1,h2,h3⟩ i
  rcases h1 i with a|a
  ·
   rcases h2 i with b|b
   ·
    rcases h3 i with c|c
    ·
     exact .inl ⟨⟨a,b⟩,c⟩
    ·
     exact .inr c
   ·
    exact .inr b
  ·
   exact .inr a
theorem P8 (r:Rl) (a:BitVec 64):((r.read|||r.write|||r.own) &&& ~~~a≠0#64)↔(r.read &&& ~~~a≠0#64∨r.write &&& ~~~a≠0#64∨r.own &&& ~~~a≠0#64):=by
 rw [ne_eq,J2]
 constructor
 ·
  intro h
  by_cases h1:r.read &&& ~~~a=0#64
  ·
   by_cases h2:r.write &&& ~~~a=0#64
   ·
    exact .inr (.inr fun h3=>h ⟨h1,h2,h3⟩)
   ·
    exact .inr (.inl h2)
  ·
   exact .inl h1
 ·
  rintro (h|h|h) ⟨h1,h2,h3⟩
  ·
   exact h h1
  ·
   exact h h2
  ·
   exact h h3
set_option maxHeartbeats 8000000 in
theorem oC (u:Int) (L:List Rl) (lv:Value) (w:World) (hl:Reads w lv L.length (L.flatMap bw)):ay Tryz.prog 34 [.int .i64 u,lv] w (.tuple #[.int .i64 (ed u L).1,.int .i64 (ed u L).2]):=by
 obtain ⟨Al,cl,rfl,hl1,hl2,hl3⟩:=hl
 refine aq Tryz.func34 rfl Tryz.ntmps34 rfl ?_
 unfold ed
 by_cases h1:u<0∨64<u∨u=0∨L= []
 ·
  rw [if_pos h1]
  have h1' :u<1∨64<u∨L.length=0:=by
   rcases h1 with h|h|h|h
   ·
    exact .inl (by omega)
   ·
    exact .inr (.inl h)
   ·
    exact .inl (by omega)
   ·
    exact .inr (.inr (by rw [h];rfl))
  repeat' (first|refine sT ?_|refine sM fun _=> ?_|(refine sC ?_ ?_<;>intro hb<;>try omega)|fail)
  all_goals first|(exfalso;omega)|((refine rT2 ?_);rfl)
 rw [if_neg h1]
 have hne:0<L.length:=by
  rcases Rz L.length with h|h
  ·
   exact absurd (.inr (.inr (.inr (QV h)))) h1
  ·
   exact h
 by_cases h64:64<L.length
 ·
  rw [if_pos h64]
  repeat' (first|refine sT ?_|refine sM fun _=> ?_|(refine sC ?_ ?_<;>intro hb<;>try omega)|fail)
  all_goals first|(exfalso;omega)|((refine rT2 ?_);rfl)
 rw [if_neg h64]
 obtain ⟨gl,ol,rfl,hrl⟩:=hl3 hne
 have hS:=fun w=>uw w
 obtain ⟨h0a,_⟩:=Rl.ro (hrl.elem dA 0 hne)
 have hhd:L.head?.map (·.rect)=some L[0].rect:=by rw [List.head?_eq_getElem?,Ql hne];rfl
 rw [hhd]
 by_cases hsh:some L[0].rect≠some mA
 ·
  rw [if_pos hsh]
  have hc:decide (L[0].rect=mA)=false:=decide_eq_false fun e=>hsh (congrArg some e)
  generalize L[0].rect=r0 at h0a hc
  repeat' (first|(apply bX (id:=5) [4] [];kernel_rfl;kernel_rfl;kernel_rfl)|(apply di;(iterate 3 exact rfl);apply aj (j:=0);exact rfl;exact rfl;omega)|(apply di;(iterate 3 exact rfl);apply aB;exact rfl;exact h0a;exact rfl)|(apply di;(iterate 3 exact rfl);apply nH hc;exact rfl;exact rfl)|(apply aa (f:=84);exact rfl;exact rfl;(intro w' _;exact hS w'))|refine sT ?_|refine sS ?_|refine sW ?_|refine sO ?_|refine sM fun _=> ?_|(refine sC ?_ ?_<;>intro hb<;>try omega)|(refine sCW ?_ ?_<;>intro hb<;>try omega)|fail)
  all_goals first|(exfalso;omega)|((refine rT2 ?_);rfl)
 rw [if_neg hsh]
 have hc:decide (L[0].rect=mA)=true:=decide_eq_true (Option.some.inj (Decidable.not_not.1 hsh))
 obtain ⟨ac,hac⟩: ∃ ac,eH u L 0=ac:=⟨_,rfl⟩
 rw [hac]
 generalize L[0].rect=r0 at h0a hc
 repeat' (first|(apply bX (id:=5) [4] [];kernel_rfl;kernel_rfl;kernel_rfl)|(apply di;(iterate 3 exact rfl);apply aj (j:=0);exact rfl;exact rfl;omega)|(apply di;(iterate 3 exact rfl);apply aB;exact rfl;exact h0a;exact rfl)|(apply di;(iterate 3 exact rfl);apply nH hc;exact rfl;exact rfl)|(apply aa (f:=84);exact rfl;exact rfl;(intro w' _;exact hS w'))|refine sT ?_|refine sS ?_|refine sW ?_|refine sO ?_|refine sM fun _=> ?_|(refine sC ?_ ?_<;>intro hb<;>try omega)|(refine sCW ?_ ?_<;>intro hb<;>try omega)|fail)
 all_goals try (exfalso;omega)
 refine ax [0,1] rfl (fun i:Nat=> [(6,.int .i64 (i:Int))]) (fun _=> []) (fun i=>i≤L.length∧ac=eH u (L.drop i) (i:Int)) (fun i=>L.length - i) 0 ⟨by omega,hac.symm⟩ sB mS ?_
 rintro i ⟨hi,hrec⟩
 by_cases hlt:i<L.length
 ·
  obtain ⟨hr1,_,_,_,hr2⟩:=Rl.ro (hrl.elem dA i hlt)
  rw [Qs hlt,eH] at hrec
  simp only [P8] at hrec
  generalize L[i]=r at hr1 hr2 hrec
  have hR:=fun w=>jS r.rect w
  have hW:=fun (x:BitVec 64) w=>jk x u w
  generalize aJ r.rect=ro at hR hrec
  generalize (cY u).1=sa at hW hrec
  by_cases h3:ro=false
  ·
   rw [if_pos h3] at hrec
   subst h3
   repeat' (first|(apply ak;exact rfl;apply aj (j:=i);exact rfl;exact rfl;omega)|(apply aa;exact rfl;exact rfl;(intro w hm;exact hR w))|refine sT ?_|refine sS ?_|refine sO ?_|refine sM fun _=> ?_|(refine sC ?_ ?_<;>intro hb<;>try omega)|fail)
   all_goals first|(exfalso;omega)|((refine rT2 ?_);rw [hrec];done)
  rw [if_neg h3] at hrec
  have h3' :ro=true:=by simpa using h3
  subst h3'
  by_cases h4:r.read &&& ~~~sa≠0#64∨r.write &&& ~~~sa≠0#64∨r.own &&& ~~~sa≠0#64
  ·
   rw [if_pos h4] at hrec
   repeat' (first|(apply ak;exact rfl;apply aj (j:=i);exact rfl;exact rfl;omega)|(apply ak;exact rfl;apply aB;exact rfl;exact hr2;exact rfl)|(apply aa;exact rfl;exact rfl;(intro w hm;exact hR w))|(apply aa (f:=86);exact rfl;exact rfl;(intro w' _;exact hW _ w'))|refine sT ?_|refine sS ?_|refine sO ?_|refine sM fun _=> ?_|(refine sC ?_ ?_<;>intro hb<;>try omega)|fail)
   all_goals first
    |(exfalso;omega)
    |((refine rT2 ?_);rw [hrec];done)
    |(exfalso;rcases h4 with h|h|h<;>exact h (by assumption))
  ·
   rw [if_neg h4] at hrec
   repeat' (first|(apply ak;exact rfl;apply aj (j:=i);exact rfl;exact rfl;omega)|(apply ak;exact rfl;apply aB;exact rfl;exact hr2;exact rfl)|(apply aa;exact rfl;exact rfl;(intro w hm;exact hR w))|(apply aa (f:=86);exact rfl;exact rfl;(intro w' _;exact hW _ w'))|refine sT ?_|refine sS ?_|refine sN ?_|refine sO ?_|refine sM fun _=> ?_|(refine sC ?_ ?_<;>intro hb<;>try omega)|fail)
   all_goals first
    |(exfalso;omega)
    |(exfalso;exact h4 (by first|exact .inl (by assumption)|exact .inr (.inl (by assumption))|exact .inr (.inr (by assumption))))
    |(refine ⟨i+1,⟨hlt,by rw [hrec];rfl⟩,by omega,by exact sB,by exact sB,by exact mS⟩;done)
 ·
  have e:i=L.length:=by omega
  subst e
  rw [Rk,eH] at hrec
  rw [hrec]
  repeat' (first|refine sT ?_|refine sS ?_|refine sM fun _=> ?_|(refine sC ?_ ?_<;>intro hb<;>try omega)|fail)
  all_goals first|(exfalso;omega)|((refine rT2 ?_);rfl)
def MY:Bk:=⟨3,xJ,bkR,[],[],[],0⟩
theorem zE (w:World):aL Tryz.prog 57 [] w fun v H=> ∃ a:Bo,v= .agg (bo MY a.v).toArray∧H=bi MY a:=by
 refine aq Tryz.func57 rfl Tryz.ntmps57 rfl ?_
 refine aC 56 8 ?_
 refine aC 58 9 ?_
 refine aC 62 11 ?_
 repeat' (first|(apply aA (f:=116);exact rfl;exact rfl;(intro w' hm;exact IL w');rintro _ _ ⟨ge,gr,gn,rfl,rfl⟩)|refine sT ?_|refine sS ?_|refine sM fun _=> ?_|(refine sC ?_ ?_<;>intro hb<;>try omega)|fail)
 exact uy (.inl rfl) rfl rfl pK rfl (H' :=bi MY ⟨some ge,some gr,none,none,none,6,2,0,0,0⟩) (by unfold bi;exact mS) ⟨⟨some ge,some gr,none,none,none,6,2,0,0,0⟩,rfl,rfl⟩
def ut (b:Bk):Bool:=
 decide (b.ents.length≤40) && (decide (b.rules.length≤10)||(decide ((ed b.users b.rules).2≠0) && decide (b.rules.length<70))) && (decide (b.grants.length≤10)||(decide (64<b.grants.length) && decide (b.grants.length<70))) && decide (b.log.length≤60) && decide (b.rels.length≤60)
theorem GH {b:Bk} (h:ut b=true):b.ents.length≤40∧b.rules.length<70∧b.grants.length<70∧b.log.length≤60∧b.rels.length≤60:=by
 simp only [ut,Qu,Sj,decide_eq_true_eq] at h
 omega
set_option maxHeartbeats 8000000 in
theorem EQ (b:Bk) (x:Bv) (w:World) (h:BRd w b x):ay Tryz.prog 9 [.agg (bo b x).toArray] w (.bool (ut b)):=by
 refine aq Tryz.func9 rfl Tryz.ntmps9 rfl ?_
 have h1:=fun (w' :World) (H:List Blk) (hm:Mem w w' H)=>oC b.users b.rules _ w' (h.r.of_w0 hm)
 unfold ut
 generalize ed b.users b.rules=ae at h1 ⊢
 obtain ⟨us,E,RU,G,L,M,st⟩:=b
 obtain ⟨ae1,ar1,ag1,al1,as1,ce1,cr1,cg1,cl1,cs1⟩:=x
 dsimp only at*
 clear h
 simp only [bo]
 generalize E.length=nE
 generalize RU.length=nR at h1 ⊢
 generalize G.length=nG
 generalize L.length=nL
 generalize M.length=nM
 repeat' (first|(apply aa (f:=34);exact rfl;exact rfl;(intro w' hm;exact h1 w' _ hm))|refine sT ?_|refine sS ?_|refine sM fun _=> ?_|(refine sC ?_ ?_<;>intro hb<;>try omega)|fail)
 all_goals first
  |(exfalso;omega)
  |((refine rT1 ?_);refine congrArg Value.bool (Rs.2 ?_);simp only [Qu,Sj,decide_eq_true_eq,QZ,true_iff,false_iff];omega)
theorem CC (n:Nat) (h:n≤64) (i:Nat):(zx n).getLsbD i=decide (i<n):=by
 have h1: ∀ n:Fin 65,∀ i:Fin 64,(zx n.val).getLsbD i.val=decide (i.val<n.val):=by decide+kernel
 by_cases hi:i<64
 ·
  exact h1 ⟨n,by omega⟩ ⟨i,hi⟩
 ·
  rw [BitVec.getLsbD_of_ge _ _ (by omega),decide_eq_false (by omega)]
theorem qi {u b:Int} (h: ¬ (u<0∨64<u∨u=0)):fX (cY u).1 b=(decide (0≤b) && decide (b<u)):=by
 unfold cY fX
 rw [if_neg (by omega)]
 rw [CC _ (by omega),Rs]
 simp only [Qu,decide_eq_true_eq]
 omega
set_option maxHeartbeats 8000000 in
theorem wH (u:Int) (L:List Gn) (lv:Value) (w:World) (hl:Reads w lv L.length (L.flatMap bn)):ay Tryz.prog 64 [.int .i64 u,lv] w (.tuple #[.int .i64 (jH u L).1,.int .i64 (jH u L).2]):=by
 obtain ⟨Al,cl,rfl,hl1,hl2,hl3⟩:=hl
 refine aq Tryz.func64 rfl Tryz.ntmps64 rfl ?_
 unfold jH
 by_cases h1:u<0∨64<u∨u=0
 ·
  rw [if_pos h1]
  repeat' (first|refine sT ?_|refine sM fun _=> ?_|(refine sC ?_ ?_<;>intro hb<;>try omega)|fail)
  all_goals first|(exfalso;omega)|((refine rT2 ?_);rfl)
 rw [if_neg h1]
 by_cases h64:64<L.length
 ·
  rw [if_pos h64]
  repeat' (first|refine sT ?_|refine sM fun _=> ?_|(refine sC ?_ ?_<;>intro hb<;>try omega)|fail)
  all_goals first|(exfalso;omega)|((refine rT2 ?_);rfl)
 rw [if_neg h64]
 obtain ⟨ac,hac⟩: ∃ ac,fS u L 0=ac:=⟨_,rfl⟩
 rw [hac]
 repeat' (first|refine sT ?_|refine sS ?_|refine sM fun _=> ?_|(refine sC ?_ ?_<;>intro hb<;>try omega)|fail)
 all_goals try (exfalso;omega)
 refine ax [0,1] rfl (fun i:Nat=> [(6,.int .i64 (i:Int))]) (fun _=> []) (fun i=>i≤L.length∧ac=fS u (L.drop i) (i:Int)) (fun i=>L.length - i) 0 ⟨by omega,hac.symm⟩ sB mS ?_
 rintro i ⟨hi,hrec⟩
 by_cases hlt:i<L.length
 ·
  obtain ⟨gl,ol,rfl,hrl⟩:=hl3 (by omega)
  have he1:=hrl.elem dg i hlt
  rw [Qs hlt,fS,Eo,qi h1] at hrec
  generalize L[i]=r at he1 hrec
  have hR:=fun w=>jS r.rect w
  have hW:=fun w=>jk r.to u w
  generalize aJ r.rect=ro at hR hrec
  generalize (cY u).1=sa at hW hrec
  obtain ⟨wi,hwi⟩: ∃ wi,decide (r.to &&& ~~~sa=0#64)=wi:=⟨_,rfl⟩
  rw [hwi] at hW hrec
  cases ro with
  |false=>
   rw [if_pos rfl] at hrec
   repeat' (first|(apply ak;exact rfl;apply aj (j:=i);exact rfl;exact rfl;omega)|(apply aa;exact rfl;exact rfl;(intro w hm;exact hR w))|refine sT ?_|refine sS ?_|refine sO ?_|refine sM fun _=> ?_|(refine sC ?_ ?_<;>intro hb<;>try omega)|fail)
   all_goals first|(exfalso;omega)|((refine rT2 ?_);rw [hrec];done)
  |true=>
   rw [if_neg (by decide)] at hrec
   by_cases hg:1≤r.fns∧r.fns≤31∧wi=true∧0≤r.by_∧r.by_<u
   ·
    obtain ⟨g1,g2,rfl,g4,g5⟩:=hg
    rw [decide_eq_true g1,decide_eq_true g2,decide_eq_true g4,decide_eq_true g5] at hrec
    rw [if_neg (by decide)] at hrec
    repeat' (first|(apply ak;exact rfl;apply aj (j:=i);exact rfl;exact rfl;omega)|(apply aa;exact rfl;exact rfl;(intro w hm;exact hR w))|(apply aa;exact rfl;exact rfl;(intro w hm;exact hW w))|refine sT ?_|refine sS ?_|refine sN ?_|refine sO ?_|refine sM fun _=> ?_|(refine sC ?_ ?_<;>intro hb<;>try omega)|fail)
    all_goals first
     |(exfalso;omega)
     |(refine ⟨i+1,⟨hlt,by rw [hrec];rfl⟩,by omega,by exact sB,by exact sB,by exact mS⟩;done)
   ·
    rw [if_pos (by rw [← TM,Qu,Qu,Qu,Qu,decide_eq_true_eq,decide_eq_true_eq,decide_eq_true_eq,decide_eq_true_eq];rintro ⟨⟨⟨a1,a2⟩,a3⟩,a4,a5⟩;exact hg ⟨a1,a2,a3,a4,a5⟩)] at hrec
    cases wi
    all_goals
     repeat' (first|(apply ak;exact rfl;apply aj (j:=i);exact rfl;exact rfl;omega)|(apply aa;exact rfl;exact rfl;(intro w hm;exact hR w))|(apply aa;exact rfl;exact rfl;(intro w hm;exact hW w))|refine sT ?_|refine sS ?_|refine sN ?_|refine sO ?_|refine sM fun _=> ?_|(refine sC ?_ ?_<;>intro hb<;>try omega)|fail)
    all_goals first
     |(exfalso;omega)
     |(exfalso;exact hg ⟨by omega,by omega,rfl,by omega,by omega⟩)
     |((refine rT2 ?_);rw [hrec];done)
 ·
  have e:i=L.length:=by omega
  subst e
  rw [Rk,fS] at hrec
  rw [hrec]
  repeat' (first|refine sT ?_|refine sS ?_|refine sM fun _=> ?_|(refine sC ?_ ?_<;>intro hb<;>try omega)|fail)
  all_goals first|(exfalso;omega)|((refine rT2 ?_);rfl)
theorem Ka (L:List Et):(∃ e,e≠0∧o8 L=(none,e))∨ ∃ G,o8 L=(some G,0)∧GrOk G∧G.length≤L.length:=by
 rw [tj]
 split
 ·
  rename_i h;exact .inl ⟨_,h,rfl⟩
 ·
  refine .inr ⟨_,rfl,BV L KF,?_⟩
  have:=xI L []
  rw [SQ] at this
  omega
theorem Ns (x:BitVec 64) (m:Nat) (h:m<64):(x &&& 1#64<<<m=0#64)↔x.getLsbD m=false:=by
 have hb: ∀ m:Fin 64,∀ i:Fin 64,(1#64<<<m.val).getLsbD i.val=decide (i.val=m.val):=by decide+kernel
 constructor
 ·
  intro e
  have h1:(x &&& 1#64<<<m).getLsbD m=false:=by rw [e];simp
  rw [SI,hb ⟨m,h⟩ ⟨m,h⟩] at h1
  simpa using h1
 ·
  intro e
  apply Tn
  intro i hi
  rw [SI,hb ⟨m,h⟩ ⟨i,hi⟩]
  by_cases e2:i=m
  ·
   subst e2;rw [e];simp
  ·
   simp [e2]
theorem yU (u:Int) (w:World):ay Tryz.prog 110 [.int .i64 u] w (.bool (decide (0≤u) && decide (u<64))):=by
 refine aq Tryz.func110 rfl Tryz.ntmps110 rfl ?_
 repeat' (first|refine sT ?_|refine sM fun _=> ?_|(refine sC ?_ ?_<;>intro hb<;>try omega)|fail)
 all_goals first|(exfalso;omega)|((refine rT1 ?_);simp;omega)|((refine rT1 ?_);simp_all;done)
theorem Bd (x:BitVec 64) (u:Int) (w:World):ay Tryz.prog 145 [vS x,.int .i64 u] w (.bool (fX x u)):=by
 refine aq Tryz.func145 rfl Tryz.ntmps145 rfl ?_
 have hU:=fun w=>yU u w
 by_cases h:0≤u∧u<64
 ·
  obtain ⟨m,rfl⟩: ∃ m:Nat,u=(m:Int):=⟨u.toNat,by omega⟩
  have hm:m<64:=by omega
  have hB:=fun w=>xp m (by omega) w
  have hs:=Ns x m hm
  have he:fX x (m:Int)=x.getLsbD m:=by simp [fX];omega
  rw [he]
  rw [decide_eq_true h.1,decide_eq_true h.2] at hU
  cases hx:x.getLsbD m
  ·
   have hz:=hs.2 hx
   repeat' (first|(apply aa;exact rfl;exact rfl;(intro w hm;exact hU w))|(apply aa;exact rfl;exact rfl;(intro w hm;exact hB w))|(apply ak;exact rfl;apply sZ (b:=1#64<<<m);exact rfl;exact rfl)|(apply ak;exact rfl;apply gG (b:=0#64);exact rfl;exact rfl)|refine sT ?_|refine sM fun _=> ?_|(refine sC ?_ ?_<;>intro hb<;>try omega)|fail)
   all_goals first|(exfalso;omega)|((refine rT1 ?_);simp [hz];done)
  ·
   have hz: ¬ (x &&& 1#64<<<m=0#64):=fun e=>by rw [hs.1 e] at hx;cases hx
   repeat' (first|(apply aa;exact rfl;exact rfl;(intro w hm;exact hU w))|(apply aa;exact rfl;exact rfl;(intro w hm;exact hB w))|(apply ak;exact rfl;apply sZ (b:=1#64<<<m);exact rfl;exact rfl)|(apply ak;exact rfl;apply gG (b:=0#64);exact rfl;exact rfl)|refine sT ?_|refine sM fun _=> ?_|(refine sC ?_ ?_<;>intro hb<;>try omega)|fail)
   all_goals first|(exfalso;omega)|((refine rT1 ?_);simp [hz];done)
 ·
  have he:fX x u=false:=by
   unfold fX
   by_cases h1:0≤u
   ·
    have h2: ¬ u<64:=fun h2=>h ⟨h1,h2⟩
    simp [h2]
   ·
    simp [h1]
  have hf:(decide (0≤u) && decide (u<64))=false:=by
   rw [← TM,Qu,decide_eq_true_eq,decide_eq_true_eq];exact h
  rw [hf] at hU
  rw [he]
  repeat' (first|(apply aa;exact rfl;exact rfl;(intro w hm;exact hU w))|refine sT ?_|refine sM fun _=> ?_|(refine sC ?_ ?_<;>intro hb<;>try omega)|fail)
  all_goals first|(exfalso;omega)|((refine rT1 ?_);rfl)
theorem Bb (x:Ox) (w:World):ay Tryz.prog 49 [.agg (bN x).toArray] w (.bool (kw x.kind)):=by
 refine aq Tryz.func49 rfl Tryz.ntmps49 rfl ?_
 repeat' (first|refine sT ?_|refine sS ?_|refine sM fun _=> ?_|(refine sC ?_ ?_<;>intro hb<;>try omega)|fail)
 all_goals first
  |(exfalso;omega)
  |((refine rT1 ?_);simp_all [kw];done)
theorem yS (k:Int) (w:World):ay Tryz.prog 49 [.agg (bN (qB k)).toArray] w (.bool (kw k)):=Bb (qB k) w
theorem yT (a:Rf) (w:World):ay Tryz.prog 72 [.agg (bf a).toArray] w (.bool a.valid):=by
 refine aq Tryz.func72 rfl Tryz.ntmps72 rfl ?_
 have h:a.valid=true↔(1≤a.col∧a.col≤1024∧1≤a.row∧a.row≤1024):=by
  show valid a.col a.row=true↔_
  rw [wT]
 by_cases hk:a.valid=true
 ·
  have hk2:=h.1 hk
  rw [hk]
  repeat' (first|refine sT ?_|refine sM fun _=> ?_|(refine sC ?_ ?_<;>intro hb<;>try omega)|fail)
  all_goals first|(exfalso;omega)|((refine rT1 ?_);simp;omega)|((refine rT1 ?_);rfl)
 ·
  have hk2:=fun x=>hk (h.2 x)
  rw [show a.valid=false by simpa using hk]
  repeat' (first|refine sT ?_|refine sM fun _=> ?_|(refine sC ?_ ?_<;>intro hb<;>try omega)|fail)
  all_goals first|(exfalso;omega)|((refine rT1 ?_);rfl)|((refine rT1 ?_);exact congrArg Value.bool (decide_eq_false fun hz=>hk2 ⟨by omega,by omega,by omega,by omega⟩))
theorem Bc (fn:Int) (w:World):ay Tryz.prog 152 [.int .u8 fn] w (.bool (decide (46≤fn) && decide (fn≤50))):=by
 refine aq Tryz.func152 rfl Tryz.ntmps152 rfl ?_
 repeat' (first|refine sT ?_|refine sM fun _=> ?_|(refine sC ?_ ?_<;>intro hb<;>try omega)|fail)
 all_goals first|(exfalso;omega)|((refine rT1 ?_);simp;omega)|((refine rT1 ?_);simp_all;done)
def kD (all:BitVec 64) (last:Int) (x:Ev):Int:=
 if x.step≤last then 12 else if (kw x.kind && fX all x.user)=false then 2 else if aJ x.rect=false then 3 else if (decide (x.to &&& ~~~all=0#64) && fX x.to x.user)=false then 2 else 0
theorem iA (all:BitVec 64) (last:Int) (x:Ev) (l:List Ev):dZ all last (x::l)=if kD all last x≠0 then kD all last x else dZ all x.step l:=by
 rw [dZ,kD]
 split
 ·
  rfl
 split
 ·
  rfl
 split
 ·
  rfl
 split<;>rfl
def oV (all:BitVec 64) (last:Int) (x:Rv):Int:=
 if x.step<last then 12 else if (x.call.at_.valid && aJ x.rect)=false then 3 else if JE all x=false then 2 else 0
theorem oW (all:BitVec 64) (last:Int) (x:Rv) (l:List Rv):fE all last (x::l)=if oV all last x≠0 then oV all last x else fE all x.step l:=by
 rw [fE,oV]
 split
 ·
  rfl
 split
 ·
  rfl
 split<;>rfl
set_option maxHeartbeats 4000000 in
theorem EA (u:Int) (hu: ¬ (u<0∨64<u∨u=0)) (last:Int) (x:Ev) (w:World):ay Tryz.prog 120 [.int .i64 u,.int .i64 last,.agg (aZ x).toArray] w (.int .i64 (kD (cY u).1 last x)):=by
 refine aq Tryz.func120 rfl Tryz.ntmps120 rfl ?_
 have hM:=fun w=>yS x.kind w
 have hR:=fun w=>jS x.rect w
 have hW:=fun w=>jk x.to u w
 have hH:=fun w=>Bd x.to x.user w
 unfold kD
 rw [qi hu]
 generalize kw x.kind=mk at hM ⊢
 generalize aJ x.rect=ro at hR ⊢
 generalize fX x.to x.user=hs at hH ⊢
 generalize (cY u).1=sa at hW ⊢
 generalize decide (x.to &&& ~~~sa=0#64)=wi at hW ⊢
 repeat' (first|(apply aa;exact rfl;exact rfl;(intro w hm;exact hM w))|(apply aa;exact rfl;exact rfl;(intro w hm;exact hR w))|(apply aa;exact rfl;exact rfl;(intro w hm;exact hW w))|(apply aa;exact rfl;exact rfl;(intro w hm;exact hH w))|refine sT ?_|refine sS ?_|refine sM fun _=> ?_|(refine sC ?_ ?_<;>intro hb<;>try omega)|fail)
 all_goals first
  |(exfalso;omega)
  |((refine rT1 ?_);simp_all;done)
  |((refine rT1 ?_);simp_all;omega)
set_option maxHeartbeats 4000000 in
theorem yN (u:Int) (last:Int) (x:Rv) (w:World):ay Tryz.prog 121 [.int .i64 u,.int .i64 last,.agg (aX x).toArray] w (.int .i64 (oV (cY u).1 last x)):=by
 refine aq Tryz.func121 rfl Tryz.ntmps121 rfl ?_
 have hA:=fun w=>yT x.call.at_ w
 have hR:=fun w=>jS x.rect w
 have hL:=fun w=>Bc x.fn w
 have hW:=fun w=>jk x.to u w
 unfold oV JE
 generalize x.call.at_.valid=va at hA ⊢
 generalize aJ x.rect=ro at hR ⊢
 generalize (cY u).1=sa at hW ⊢
 generalize decide (x.to &&& ~~~sa=0#64)=wi at hW ⊢
 repeat' (first|(apply aa;exact rfl;exact rfl;(intro w hm;exact hA w))|(apply aa;exact rfl;exact rfl;(intro w hm;exact hR w))|(apply aa;exact rfl;exact rfl;(intro w hm;exact hL w))|(apply aa;exact rfl;exact rfl;(intro w hm;exact hW w))|refine sT ?_|refine sS ?_|refine sM fun _=> ?_|(refine sC ?_ ?_<;>intro hb<;>try omega)|fail)
 all_goals first
  |(exfalso;omega)
  |((refine rT1 ?_);simp_all;done)
  |((refine rT1 ?_);simp_all;omega)
set_option maxHeartbeats 8000000 in
theorem wG (u:Int) (L:List Ev) (M:List Rv) (lv mv:Value) (w:World) (hl:Reads w lv L.length (L.flatMap aZ)) (hm:Reads w mv M.length (M.flatMap aX)):ay Tryz.prog 65 [.int .i64 u,lv,mv] w (.int .i64 (ri u L M)):=by
 obtain ⟨Al,cl,rfl,hl1,hl2,hl3⟩:=hl
 obtain ⟨Am,cm,rfl,hm1,hm2,hm3⟩:=hm
 refine aq Tryz.func65 rfl Tryz.ntmps65 rfl ?_
 unfold ri
 by_cases h1:u<0∨64<u∨u=0
 ·
  rw [if_pos h1]
  repeat' (first|refine sT ?_|refine sM fun _=> ?_|(refine sC ?_ ?_<;>intro hb<;>try omega)|fail)
  all_goals first|(exfalso;omega)|((refine rT1 ?_);rfl)
 rw [if_neg h1]
 have hE:=fun last (x:Ev) w=>EA u h1 last x w
 have hR:=fun last (x:Rv) w=>yN u last x w
 generalize (cY u).1=sa at hE hR ⊢
 obtain ⟨ef,hef⟩: ∃ ef,dZ sa (-1) L=ef:=⟨_,rfl⟩
 rw [hef]
 repeat' (first|refine sT ?_|refine sS ?_|refine sM fun _=> ?_|(refine sC ?_ ?_<;>intro hb<;>try omega)|fail)
 all_goals try (exfalso;omega)
 refine ax [0,1,2] rfl (fun i:Nat=> [(7,.int .i64 (kz L i)),(8,.int .i64 (i:Int))]) (fun _=> []) (fun i=>i≤L.length∧ef=dZ sa (kz L i) (L.drop i)) (fun i=>L.length - i) 0 ⟨Qt _,hef.symm⟩ sB mS ?_
 rintro i ⟨hi,hrec⟩
 by_cases hlt:i<L.length
 ·
  obtain ⟨gl,ol,rfl,hrl⟩:=hl3 (by omega)
  have he1:=hrl.elem iB i hlt
  have hnext:kz L (i+1)=L[i].step:=by unfold kz;rw [if_neg (by omega),RZ,Ql hlt];rfl
  rw [Qs hlt,iA] at hrec
  generalize kz L i=last at hrec
  generalize L[i]=r at hnext he1 hrec
  have hE1:=fun w=>hE last r w
  have hs:=(Ev.ro he1).1
  generalize kD sa last r=e1 at hE1 hrec
  repeat' (first|(apply ak;exact rfl;apply aj (j:=i);exact rfl;exact rfl;omega)|(apply ak;exact rfl;apply aB;exact rfl;exact he1;exact rfl)|(apply aa;exact rfl;exact rfl;(intro w hm;exact hE1 w))|refine sT ?_|refine sS ?_|refine sN ?_|refine sO ?_|refine sM fun _=> ?_|(refine sC ?_ ?_<;>intro hb<;>try omega)|fail)
  all_goals first
   |(exfalso;omega)
   |(rw [if_pos hb] at hrec;(refine rT1 ?_);rw [hrec,if_pos hb];done)
   |(rw [if_neg (by omega)] at hrec;refine ⟨i+1,⟨hlt,?_⟩,by omega,by (try simp only [hnext]);exact sB,by (try simp only [hnext]);exact sB,by exact mS⟩;rw [hnext];exact hrec)
 ·
  have e:i=L.length:=by omega
  subst e
  rw [Rk,dZ] at hrec
  subst hrec
  rw [if_neg (by decide)]
  obtain ⟨rf,hrf⟩: ∃ rf,fE sa (-1) M=rf:=⟨_,rfl⟩
  rw [hrf]
  repeat' (first|refine sT ?_|refine sS ?_|refine sM fun _=> ?_|(refine sC ?_ ?_<;>intro hb<;>try omega)|fail)
  refine ax [0,2] rfl (fun i:Nat=> [(7,.int .i64 (ky M i)),(10,.int .i64 (i:Int))]) (fun _=> []) (fun i=>i≤M.length∧rf=fE sa (ky M i) (M.drop i)) (fun i=>M.length - i) 0 ⟨Qt _,hrf.symm⟩ sB mS ?_
  rintro i ⟨hi,hrec⟩
  by_cases hlt:i<M.length
  ·
   obtain ⟨gm,om,rfl,hrm⟩:=hm3 (by omega)
   have he1:=hrm.elem dS i hlt
   have hnext:ky M (i+1)=M[i].step:=by unfold ky;rw [if_neg (by omega),RZ,Ql hlt];rfl
   rw [Qs hlt,oW] at hrec
   generalize ky M i=last at hrec
   generalize M[i]=r at hnext he1 hrec
   have hE1:=fun w=>hR last r w
   have hs:=Rv.ro1 he1
   generalize oV sa last r=e1 at hE1 hrec
   repeat' (first|(apply ak;exact rfl;apply aj (j:=i);exact rfl;exact rfl;omega)|(apply ak;exact rfl;apply aB;exact rfl;exact he1;exact rfl)|(apply aa;exact rfl;exact rfl;(intro w hm;exact hE1 w))|refine sT ?_|refine sS ?_|refine sN ?_|refine sO ?_|refine sM fun _=> ?_|(refine sC ?_ ?_<;>intro hb<;>try omega)|fail)
   all_goals first
    |(exfalso;omega)
    |(rw [if_pos hb] at hrec;(refine rT1 ?_);rw [hrec];done)
    |(rw [if_neg (by omega)] at hrec;refine ⟨i+1,⟨hlt,?_⟩,by omega,by (try simp only [hnext]);exact sB,by (try simp only [hnext]);exact sB,by exact mS⟩;rw [hnext];exact hrec)
  ·
   have e:i=M.length:=by omega
   subst e
   rw [Rk,fE] at hrec
   subst hrec
   repeat' (first|refine sT ?_|refine sS ?_|refine sM fun _=> ?_|(refine sC ?_ ?_<;>intro hb<;>try omega)|fail)
   all_goals first|(exfalso;omega)|((refine rT1 ?_);rfl)
end Go.SL
