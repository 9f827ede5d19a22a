/-
  Lemmas and walks, put together: Il Hh If Hi Fo Fp Fq Hj.
-/
import Derived.Test.YtoanpdoacdpgeaaGreatDoorKq19
import Derived.Test.YtoanpdoacdpgeaaGreatDoorKq20
set_option linter.unusedSimpArgs false
set_option linter.unusedVariables false
set_option maxRecDepth 20000
namespace Go.SL
open Go Go.Proofs
attribute [local irreducible] W WL WQ WG WA WX WLI WR WT WC WE RW thn blk bE scp aV bo bI aK FnIn FnP ceP
section
variable {P:Program} {w0:World} {s:az} {H:List Blk} {ty:TypeId}
theorem JG {t e hi m c sz:Nat} {A:Option Nat} {x q r:Operand} {k k' :IntKind} [ht:Und P t (.slice e)] [hz:Size P e sz] (hx:ev s x=some (sl A m c)) (hq:ev s q=some (.int k (hi:Nat))) (hr:ev s r=some (.int k' (hi:Nat))) (h2:hi≤c):
  VOp P w0 s H (.slice t x none (some q) (some r)) ty (sl A hi hi):=fun ρ w _ _ _ _ hρ _=>by
 obtain ⟨i,hi1,hi2⟩:=hz.out
 have e2:((hi:Nat):Int)≤((c:Nat):Int):=by omega
 have e3:((0:Nat):Int)≤((hi:Nat):Int):=by omega
 have e4:(A.map fun g=>(⟨g,0,none⟩:Addr)).map (·.add 0)=A.map fun g=>⟨g,0,none⟩:=by cases A<;>simp [cK]
 unfold sl at hx ⊢
 simp [execOp,hρ x _ hx,hρ q _ hq,hρ r _ hr,Instr.sliceAt,run_underlying ht.out,Instr.slice,Instr.sliceBounds,Instr.sliceBound,asIntOf,sizeOf,typeInfo,hi1,h2]
 intro _
 cases A<;>simp [cK]
end
attribute [local irreducible] VOp
theorem HG {w0 w:World} {H:List Blk} {A:Option Nat} {cap i:Nat} {L:List Et} (hm:Mem w0 w H) (hi:In (.own A 52 3 L.length cap (L.flatMap aJ)) H) (h:i≤L.length):Reads w (sl A i i) i ((L.take i).flatMap aJ):=by
 have h1:=Reads.of_own hm hi
 obtain ⟨A',c',e,h2,h3,h4⟩:=h1
 unfold sl at e
 cases e
 refine ⟨_,_,rfl,QV _,by omega,fun hp=> ?_⟩
 obtain ⟨g,o,e,hr⟩:=h4 (by omega)
 refine ⟨g,o,e,?_⟩
 rw [← jC bJ]
 exact hr.take
set_option maxHeartbeats 8000000 in
theorem Iu (L:List Et) (i:Nat) (hi:i≤L.length) (x:Et) (A:Option Nat) (cap:Nat) (hL:L.length≤1000000) (w0:World) (R:List Blk):
  FnIn Tryz.prog 47 [sl A L.length cap,.int .i64 (i:Int),.agg (aJ x).toArray] w0 (.own A 52 3 L.length cap (L.flatMap aJ)::R) fun v H=> ∃ A' c,v=sl A' (L.length+1) c∧H= .own A' 52 3 (L.length+1) c ((L.take i++x::L.drop i).flatMap aJ)::R:=by
 refine dD Tryz.func47 rfl Tryz.ntmps47 rfl ?_
 refine OI (A:=A) .hd fun hle=> ?_
 repeat' (first|refine sT ?_|refine sS ?_|refine sM fun _=> ?_|(refine sC ?_ ?_<;>intro hb<;>try omega)|fail)
 rename_i g5
 have hrd:=fun (w:World) (H:List Blk) (hi2:In (.own A 52 3 L.length cap (L.flatMap aJ)) H) (hm:Mem w0 w H)=>HG hm hi2 hi
 have hdr:(((L.flatMap aJ).drop (i*3)).take ((L.length - i)*3))=(L.drop i).flatMap aJ:=by
  rw [lD bJ]
  exact RS (by rw [aP bJ,Rk];exact QV _)
 have hrd2:=fun (w:World) (H:List Blk) (hi2:In (.own A 52 3 L.length cap (L.flatMap aJ)) H) (hm:Mem w0 w H)=>hdr ▸ (Reads.of_own hm hi2).cut (lo:=i) (hi:=L.length) hi (QV _)
 refine iL (id:=1) [5,6,10] [] [.box g5 52 (aJ x),.own A 52 3 L.length cap (L.flatMap aJ)] (by kernel_rfl) (by kernel_rfl) (by kernel_rfl) mS ?_
 repeat' (first|(apply da (d:=10);(iterate 3 exact rfl);apply JG (hi:=i);(iterate 3 exact rfl);omega)|(apply da (d:=16);(iterate 3 exact rfl);apply lJ (lo:=i) (hi:=L.length);exact rfl;exact ⟨_,rfl⟩;exact rfl;exact hi;exact hle)|(apply Dd (d:=13) (n' :=i) (m:=1);(iterate 3 exact rfl);(intro w hm;exact hrd w _ pK hm);exact aP bJ _|>.trans (by rw [Rq];congr 1;omega);(intro w hm;exact hm.cells_own pK);exact rfl;(intro u hu;simp [aJ] at hu;rcases hu with rfl|rfl|rfl<;>rfl);omega;omega;(simp only [maxLen];omega);intro g13 c13)|(apply dr (d:=17) (n' :=i+1) (m:=L.length - i);(iterate 3 exact rfl);exact pK;(intro w hm;exact hrd2 w _ pK hm);(rw [aP bJ,Rk]);exact wq _;omega;(simp only [maxLen];omega);intro A17 c17 h17)|refine sT ?_|refine sS ?_|refine sW ?_|refine sM fun _=> ?_|(refine sC ?_ ?_<;>intro hb<;>try omega)|(refine sCW ?_ ?_<;>intro hb<;>try omega)|fail)
 have e1:i+1+(L.length - i)=L.length+1:=by omega
 have e2:(L.take i++x::L.drop i).flatMap aJ=(L.take i).flatMap aJ++ [.int .i64 x.at_.col,.int .i64 x.at_.row,.string x.input]++(L.drop i).flatMap aJ:=by
  rw [Rm,Rj,Rx]
  rfl
 rw [e2,e1]
 exact cH (.inl rfl) rfl rfl (H' := .own A17 52 3 (L.length+1) c17 ((L.take i).flatMap aJ++ [.int .i64 x.at_.col,.int .i64 x.at_.row,.string x.input]++(L.drop i).flatMap aJ)::R) mS ⟨A17,c17,rfl,rfl⟩
end Go.SL
namespace Go.SL
open Go Go.Proofs
attribute [local irreducible] W WL WQ WG WA WX WLI WR WT WC WE VOp RW thn blk bE scp aV bo bI aK FnIn FnP ceP
--
def dl (p:Int × Int):List Value:= [.int .i64 p.1,.int .i64 p.2]
theorem jD (p:Int × Int):(dl p).length=2:=rfl
theorem CH (lo:Int) (ps:List (Int × Int)) (p:Int × Int):dg lo (ps++ [p])=dg lo ps++ [p.1,p.2+1]:=by
 unfold dg;simp
def pG (lo hi x:Int):Bool:=decide (lo≤x) && decide (x≤hi)
theorem HS {l:List Int} {h x:Int} (hl:l≠ []):((dK l h).flatMap dl).set (0+((dK l h).length - 1)*2+1) (fG (x - 1))=(dK l (x - 1)).flatMap dl:=by
 obtain ⟨f,a,h1,h2⟩:=BA l h (x - 1) hl
 rw [h1,h2]
 simp only [Rm,QP,QS,SF,Rj,RC,QW,dl]
 rw [TA _ _ (by rw [aP jD];omega),aP jD]
 congr 1
 rw [show 0+f.length*2+1 - f.length*2=1 by omega]
 rfl
set_option maxHeartbeats 8000000 in
theorem CI (lo hi:Int) (ps:List (Int × Int)) (lv:Value) (w:World) (hl:Reads w lv ps.length (ps.flatMap dl)) (hn:ps.length≤100000) (hlo:0≤lo∧lo≤100000) (hhi:0≤hi∧hi≤100000) (hps: ∀ p∈ps,0≤p.1∧p.1≤100000∧0≤p.2∧p.2≤100000):
    aK Tryz.prog 182 [.int .i64 lo,.int .i64 hi,lv] w fun v H=> ∃ A cap,v=sl A (cG lo hi ps).length cap∧H= [.own A 189 2 (cG lo hi ps).length cap ((cG lo hi ps).flatMap dl)]:=by
  obtain ⟨Al,cl,rfl,hl1,hl2,hl3⟩:=hl
  refine aq Tryz.func182 rfl Tryz.ntmps182 rfl ?_
  repeat' (first|refine sT ?_|refine sS ?_|refine sT2 ?_|refine sM fun _=> ?_|(refine sC ?_ ?_<;>intro hb<;>try omega)|fail)
  rename_i gb
  refine ax [0,1,15,16] rfl (fun y:Nat × Option Nat × Nat=> [(7,sl y.2.1 (1+2*y.1) y.2.2),(17,.int .i64 (y.1:Int))]) (fun y=> [.own y.2.1 3 1 (1+2*y.1) y.2.2 ((dg lo (ps.take y.1)).map fG)]) (fun y=>y.1≤ps.length) (fun y=>ps.length - y.1) (0,some gb,1) (QX _) sB mS ?_
  rintro ⟨i,A,c⟩ hi0
  dsimp only at hi0 ⊢
  by_cases hlt:i<ps.length
  · obtain ⟨gl,ol,rfl,hrl⟩:=hl3 (by omega)
    have he1:=hrl.elem jD i hlt
    have hbs:dg lo (ps.take (i+1))=dg lo (ps.take i)++ [ps[i].1,ps[i].2+1]:=by rw [Rg hlt,CH]
    have hpb:=hps _ (RQ hlt)
    generalize ps[i]=p at he1 hbs hpb
    repeat' (first|(apply bR (A:=A) (m:=2);(iterate 3 exact rfl);exact pK;(intro w hm;exact hm.cells_own pK);exact rfl;(simp [Value.oneCell',sl]);omega;(simp only [maxLen];omega);(intro A' cap' hA'))|refine sT ?_|refine sS ?_|refine sT2 ?_|refine sN ?_|refine sJ ?_|refine sO ?_|refine sM fun _=> ?_|(refine sC ?_ ?_<;>intro hb<;>try omega)|fail)
    all_goals first
      |(exfalso;omega)
      | (refine ⟨(i + 1, A', cap'), hlt, by dsimp only; omega, by exact sB, by exact sB, ?_⟩
         dsimp only
         rw [hbs,RX]
         exact mS)
  · have e:i=ps.length:=by omega
    subst e
    rw [Sc]
    have hbl:=tr lo ps
    have hs1:=fun (R:List Blk)=>AF (dg lo ps) A c (by omega) R w
    have hsl:(jh (dg lo ps)).length=1+2*ps.length:=by rw [(ij _).length_eq,hbl]
    have hs2:=fun (R:List Blk)=>CX (jh (dg lo ps)) A c (by omega) R w
    rw [hbl] at hs1
    rw [hsl] at hs2
    have hcl:=wy (jh (dg lo ps))
    rw [hsl] at hcl
    have hcut:wu lo hi ps=(fS (jh (dg lo ps))).filter (pG lo hi):=rfl
    have hbd: ∀ x∈fS (jh (dg lo ps)),0≤x∧x≤100001:=fun x hx=>by
      rw [m9,(ij _).mem_iff,dg,Rd,RY] at hx
      rcases hx with rfl|⟨p,hp,hx⟩
      · omega
      · have:=hps p hp
        simp at hx
        omega
    unfold cG
    rw [hcut]
    generalize fS (jh (dg lo ps))=C at hs2 hcl hbd
    refine aH 189 2 ?_
    repeat' (first|(apply aw (f:=230);exact rfl;exact rfl;exact FnIn.msub (hs1 _) (MSub.pick pK (MSub.refl _));rintro _ _ ⟨rfl,rfl⟩)|(apply aw (f:=231);exact rfl;exact rfl;exact FnIn.msub (hs2 _) (MSub.pick pK (MSub.refl _));rintro _ _ ⟨rfl,rfl⟩)|refine sT ?_|refine sS ?_|refine sT2 ?_|refine sN ?_|refine sM fun _=> ?_|(refine sC ?_ ?_<;>intro hb<;>try omega)|fail)
    all_goals try (exfalso;omega)
    refine ax [0,1,33,34] rfl (fun y:Nat × Option Nat × Nat=> [(10,sl y.2.1 (dK ((C.take y.1).filter (pG lo hi)) hi).length y.2.2),(35,.int .i64 (y.1:Int))]) (fun y=> [.own y.2.1 189 2 (dK ((C.take y.1).filter (pG lo hi)) hi).length y.2.2 ((dK ((C.take y.1).filter (pG lo hi)) hi).flatMap dl),.own A 3 1 C.length c (C.map fG)]) (fun y=>y.1≤C.length) (fun y=>C.length - y.1) (0,none,0) (QX _) sB mS ?_
    rintro ⟨k,A2,c2⟩ hk
    dsimp only at hk ⊢
    by_cases hlk:k<C.length
    · refine eH (A:=A) pK (by omega) fun gc hA=> ?_
      subst hA
      have hrd:(C.map fG)[0+k*1]? =some (.int .i64 C[k]):=O9 hlk
      have hxb:=hbd _ (RQ hlk)
      have hfs:(C.take (k+1)).filter (pG lo hi)=if pG lo hi C[k]=true then (C.take k).filter (pG lo hi)++ [C[k]] else (C.take k).filter (pG lo hi):=by
        rw [Rg hlk,Ud]
        cases h:pG lo hi C[k]<;>simp [h]
      have hfl:((C.take k).filter (pG lo hi)).length≤300000:=Rt (SX _ _) (by rw [Rq];omega)
      generalize hx:C[k]=x at hrd hxb hfs
      generalize hF:(C.take k).filter (pG lo hi)=Fk at hfs hfl
      have hpl:=lW hi Fk
      by_cases hin:lo≤x∧x≤hi
      · have hin2:pG lo hi x=true:=by simp [pG,hin.1,hin.2]
        rw [if_pos hin2] at hfs
        have hsn:=kq x hi Fk
        rw [← hfs] at hsn
        have hpl2:=lW (x - 1) Fk
        by_cases h0:Fk= []
        · subst h0
          rw [show dK [] (x - 1)= [] from rfl,QU] at hsn
          repeat' (first|(apply ak (d:=37);exact rfl;apply aj (j:=k);exact rfl;exact rfl;exact hlk)|(apply ak (d:=38);exact rfl;apply bQ;exact rfl;exact pK;exact hrd)|(apply ak;exact rfl;apply nY;(iterate 5 exact rfl))|(apply bR (A:=A2) (m:=1);(iterate 3 exact rfl);exact pK;(intro w hm;exact hm.cells_own pK);exact rfl;(simp [Value.oneCell',sl]);omega;(simp only [maxLen];omega);(intro A' cap' hA'))|refine sT ?_|refine sS ?_|refine sT2 ?_|refine sN ?_|refine sJ ?_|refine sO ?_|refine sM fun _=> ?_|(refine sC ?_ ?_<;>intro hb<;>try omega)|fail)
          all_goals first
            |(exfalso;omega)
            | (refine ⟨(k + 1, A', cap'), hlk, by dsimp only; omega, ?_, by exact sB, ?_⟩
               · dsimp only;rw [hsn];exact sB
               · dsimp only;rw [hsn];exact mS)
        · have hpos:0<Fk.length:=Sx.2 h0
          have hset:=HS (h:=hi) (x:=x) h0
          rw [hpl] at hset
          refine eH (A:=A2) pK (by omega) fun g2 hA=> ?_
          subst hA
          rw [hpl]
          repeat' (first|(apply ak (d:=37);exact rfl;apply aj (j:=k);exact rfl;exact rfl;exact hlk)|(apply ak (d:=38);exact rfl;apply bQ;exact rfl;exact pK;exact hrd)|(apply ak (d:=53);exact rfl;apply dM (a:=Fk.length);exact rfl;exact rfl;omega;(simp only [maxLen];omega))|(apply ak (d:=56);exact rfl;apply aj (j:=Fk.length - 1);exact rfl;exact rfl;omega)|(apply gF (v:=fG (x - 1)) (off:=0+(Fk.length - 1)*2+1);exact rfl;exact rfl;exact pK;exact rfl;(rw [aP jD,hpl];omega);rw [hset])|(apply ak;exact rfl;apply nY;(iterate 5 exact rfl))|(apply bR (A:=some g2) (m:=1);(iterate 3 exact rfl);exact pK;(intro w hm;exact hm.cells_own pK);exact rfl;(simp [Value.oneCell',sl]);omega;(simp only [maxLen];omega);(intro A' cap' hA'))|refine sT ?_|refine sS ?_|refine sT2 ?_|refine sN ?_|refine sJ ?_|refine sO ?_|refine sM fun _=> ?_|(refine sC ?_ ?_<;>intro hb<;>try omega)|fail)
          all_goals first
            |(exfalso;omega)
            | (refine ⟨(k + 1, A', cap'), hlk, by dsimp only; omega, ?_, by exact sB, ?_⟩
               · dsimp only;rw [hsn,List.length_append,hpl2];exact sB
               · dsimp only;rw [hsn,List.length_append,hpl2,List.flatMap_append];exact mS)
      · have hin2: ¬ pG lo hi x=true:=by simp only [pG,QZ,decide_eq_true_eq];exact hin
        rw [if_neg hin2] at hfs
        repeat' (first|(apply ak (d:=37);exact rfl;apply aj (j:=k);exact rfl;exact rfl;exact hlk)|(apply ak (d:=38);exact rfl;apply bQ;exact rfl;exact pK;exact hrd)|refine sT ?_|refine sS ?_|refine sT2 ?_|refine sN ?_|refine sJ ?_|refine sO ?_|refine sM fun _=> ?_|(refine sC ?_ ?_<;>intro hb<;>try omega)|fail)
        all_goals first
          |(exfalso;omega)
          | (refine ⟨(k + 1, A2, c2), hlk, by dsimp only; omega, ?_, by exact sB, ?_⟩
             · dsimp only;rw [hfs];exact sB
             · dsimp only;rw [hfs];exact mS)
    · have e:k=C.length:=by omega
      subst e
      rw [Sc]
      repeat' (first|refine sT ?_|refine sS ?_|refine sT2 ?_|refine sM fun _=> ?_|(refine sC ?_ ?_<;>intro hb<;>try omega)|fail)
      all_goals first
        |(exfalso;omega)
        |(exact cH eIO rfl rfl mS ⟨A2,c2,rfl,rfl⟩)
structure Bk where
 users:Int
 ents:List Et
 rules:List Rl
 grants:List Gn
 log:List Ev
 rels:List Rv
 step:Int
structure Bv where
 ae:Option Addr
 ar:Option Addr
 ag:Option Addr
 al:Option Addr
 as_:Option Addr
 ce:Nat
 cr:Nat
 cg:Nat
 cl:Nat
 cs:Nat
def aW (b:Bk) (x:Bv):List Value:= [.int .i64 b.users,.slice x.ae b.ents.length x.ce,.slice x.ar b.rules.length x.cr,.slice x.ag b.grants.length x.cg,.slice x.al b.log.length x.cl,.slice x.as_ b.rels.length x.cs,.int .i64 b.step]
structure BRd (w:World) (b:Bk) (x:Bv):Prop where
 e:Reads w (.slice x.ae b.ents.length x.ce) b.ents.length (b.ents.flatMap aJ)
 r:Reads w (.slice x.ar b.rules.length x.cr) b.rules.length (b.rules.flatMap bu)
 g:Reads w (.slice x.ag b.grants.length x.cg) b.grants.length (b.grants.flatMap bn)
 l:Reads w (.slice x.al b.log.length x.cl) b.log.length (b.log.flatMap bf)
 s:Reads w (.slice x.as_ b.rels.length x.cs) b.rels.length (b.rels.flatMap aO)
theorem BRd.of_w0 {w w' :World} {b:Bk} {x:Bv} {H:List Blk} (h:BRd w b x) (hm:Mem w w' H):BRd w' b x:=⟨h.e.of_w0 hm,h.r.of_w0 hm,h.g.of_w0 hm,h.l.of_w0 hm,h.s.of_w0 hm⟩
def iX (s:Int) (L:List Ev):Bool:=if 0<L.length then decide (s≤((L[L.length - 1]?).map Ev.step).getD 0) else false
def lw (s:Int) (L:List Rv):Bool:=if 0<L.length then decide (s≤((L[L.length - 1]?).map Rv.step).getD 0) else false
def bkE (b:Bk):Int:=
 if b.users<1∨64<b.users then 2
 else if (df b.ents).2≠0 then (df b.ents).2
 else if (dX b.users b.rules).2≠0 then (dX b.users b.rules).2
 else if (jS b.users b.grants).2≠0 then (jS b.users b.grants).2
 else if rV b.users b.log b.rels≠0 then rV b.users b.log b.rels
 else if b.step<0∨1099511627776<b.step then 2
 else if iX b.step b.log=true then 2
 else if lw b.step b.rels=true then 2 else 0
theorem Rv.ro1 {w:World} {g o:Nat} {r:Rv} (h:Ro w g o (aO r)):Ro w g o [.int .i64 r.step]:=h.take (k:=1)
set_option maxHeartbeats 16000000 in
theorem iJ (b:Bk) (x:Bv) (w:World) (h:BRd w b x) (hW:Words w) (hlen:b.ents.length≤1000000):ay Tryz.prog 15 [.agg (aW b x).toArray] w (.int .i64 (bkE b)):=by
 have hent:=fun (w' :World) (H:List Blk) (hm:Mem w w' H)=>oW b.ents _ w' (h.e.of_w0 hm) hlen (hW.next hm)
 have hacl:=fun (w' :World) (H:List Blk) (hm:Mem w w' H)=>ja b.users b.rules _ w' (h.r.of_w0 hm)
 have hgnt:=fun (w' :World) (H:List Blk) (hm:Mem w w' H)=>nB b.users b.grants _ w' (h.g.of_w0 hm)
 have haud:=fun (w' :World) (H:List Blk) (hm:Mem w w' H)=>CJ b.users b.log b.rels _ _ w' (h.l.of_w0 hm) (h.s.of_w0 hm)
 refine aq Tryz.func15 rfl Tryz.ntmps15 rfl ?_
 unfold bkE
 obtain ⟨Al,cl,el,hl1,hl2,hl3⟩:=h.l
 obtain ⟨Am,cm,em,hm1,hm2,hm3⟩:=h.s
 have hl3' :0<b.log.length→ ∃ g o,x.al=some ⟨g,o,none⟩∧Ro w g o (b.log.flatMap bf):=by
  cases el
  exact hl3
 have hm3' :0<b.rels.length→ ∃ g o,x.as_=some ⟨g,o,none⟩∧Ro w g o (b.rels.flatMap aO):=by
  cases em
  exact hm3
 have hLm:b.log.length≤maxLen:=Rt hl1 hl2
 have hMm:b.rels.length≤maxLen:=Rt hm1 hm2
 clear hl1 hl2 hl3 hm1 hm2 hm3 el em
 generalize df b.ents=ce at hent ⊢
 generalize dX b.users b.rules=ae at hacl ⊢
 generalize jS b.users b.grants=ge at hgnt ⊢
 generalize rV b.users b.log b.rels=ue at haud ⊢
 obtain ⟨us,E,RU,G,L,M,st⟩:=b
 obtain ⟨ae1,ar1,ag1,al1,as1,ce1,cr1,cg1,cl1,cs1⟩:=x
 dsimp only at*
 simp only [aW] at*
 have hL:(L.length=0∧iX st L=false)∨(0<L.length∧ ∃ g o s,al1=some ⟨g,o,none⟩∧Ro w g (o+(L.length - 1)*9) [.int .i64 s]∧iX st L=decide (st≤s)):=by
  rcases Sf L.length with h0|hp
  ·
   exact .inl ⟨h0,by unfold iX;rw [if_neg (by omega)]⟩
  ·
   obtain ⟨g,o,e,hr⟩:=hl3' hp
   have hlt:L.length - 1<L.length:=by omega
   exact .inr ⟨hp,g,o,L[L.length - 1].step,e,(Ev.ro (hr.elem gC (L.length - 1) hlt)).1,by unfold iX;rw [if_pos hp,QQ hlt];rfl⟩
 have hM:(M.length=0∧lw st M=false)∨(0<M.length∧ ∃ g o s,as1=some ⟨g,o,none⟩∧Ro w g (o+(M.length - 1)*11) [.int .i64 s]∧lw st M=decide (st≤s)):=by
  rcases Sf M.length with h0|hp
  ·
   exact .inl ⟨h0,by unfold lw;rw [if_neg (by omega)]⟩
  ·
   obtain ⟨g,o,e,hr⟩:=hm3' hp
   have hlt:M.length - 1<M.length:=by omega
   exact .inr ⟨hp,g,o,M[M.length - 1].step,e,Rv.ro1 (hr.elem cB (M.length - 1) hlt),by unfold lw;rw [if_pos hp,QQ hlt];rfl⟩
 generalize iX st L=le at hL ⊢
 generalize lw st M=lr at hM ⊢
 clear hl3' hm3'
 generalize L.length=nl at*
 generalize M.length=nm at*
 generalize E.length=nE at*
 generalize RU.length=nR at*
 generalize G.length=nG at*
 rcases hL with ⟨hL,rfl⟩|⟨hL,g1,o1,s1,rfl,hr1,rfl⟩<;>rcases hM with ⟨hM,rfl⟩|⟨hM,g2,o2,s2,rfl,hr2,rfl⟩
 all_goals
  repeat' (first|(apply aa (f:=59);exact rfl;exact rfl;(intro w' hm;exact hent w' _ hm))|(apply aa (f:=60);exact rfl;exact rfl;(intro w' hm;exact hacl w' _ hm))|(apply aa (f:=61);exact rfl;exact rfl;(intro w' hm;exact hgnt w' _ hm))|(apply aa (f:=62);exact rfl;exact rfl;(intro w' hm;exact haud w' _ hm))|(apply aS;exact rfl;apply dM;exact rfl;exact rfl;omega;(simp only [maxLen] at*;omega))|(apply aS;exact rfl;apply aj (j:=nl - 1);exact rfl;exact rfl;omega)|(apply aS;exact rfl;apply aj (j:=nm - 1);exact rfl;exact rfl;omega)|refine sT ?_|refine sS ?_|refine sQ ?_|refine sN ?_|refine sNQ ?_|refine sO ?_|refine sOQ ?_|refine sD ?_|refine sM fun _=> ?_|(refine sC ?_ ?_<;>intro hb<;>try omega)|(refine sCQ ?_ ?_<;>intro hb<;>try omega)|fail)
 all_goals first
  |(exfalso;omega)
  |((refine rT1 ?_);simp_all;done)
  |((refine rT1 ?_);simp_all;omega)
end Go.SL
namespace Go.SL
open Go Go.Proofs
def lF (p:Nat × Nat):List Value:= [.int .i64 (p.1:Int),.int .i64 (p.2:Int)]
theorem J4 (w:World) (d:Nat) (a b:Nat × Nat):(Op.equalIn (d+5) 189 (.agg (lF a).toArray) (.agg (lF b).toArray)).run Tryz.prog w= .ok (decide (a=b)) w:=by
 obtain ⟨i,h1,h2⟩:=(inferInstance:Size Tryz.prog 3 1).out
 have hc:Tryz.prog.cellsOf 3=1:=by kernel_rfl
 rw [run_equalIn_array w (d+4) (lF a).toArray (lF b).toArray Tryz.underlying189 h1,hc,show List.range 2= [0,1] from rfl]
 have hr: ∀ (a b:Int) w,(Op.equalIn (d+4) 3 (.int .i64 a) (.int .i64 b)).run Tryz.prog w= .ok (a==b) w:=fun a b w=>run_equalIn_int w (d+3) 3 .i64 .i64 a b Tryz.underlying3
 have hpa: ∀ (c:Nat × Nat) w,(part 3 (lF c).toArray 0).run Tryz.prog w= .ok (.int .i64 (c.1:Int)) w:=by
  intro c w
  simp [part,go_sem,lF]
 have hpb: ∀ (c:Nat × Nat) w,(part 3 (lF c).toArray 1).run Tryz.prog w= .ok (.int .i64 (c.2:Int)) w:=by
  intro c w
  simp [part,go_sem,lF]
 have he:decide (a=b)=((a.1:Int)==b.1 && (a.2:Int)==b.2):=by
  obtain ⟨a1,a2⟩:=a
  obtain ⟨b1,b2⟩:=b
  rw [RP]
  simp
  omega
 rw [he]
 by_cases h1:((a.1:Int)==b.1)=true<;>by_cases h2:((a.2:Int)==b.2)=true<;>simp [Op.eqItems,hpa,hpb,hr,h1,h2]
theorem FH {w0:World} {s:az} {H:List Blk} {ty t' :TypeId} {x y:Operand} {a b:Nat × Nat} {c:Bool} (hc:decide (a=b)=c) (hx:ev s x=some (.agg (lF a).toArray)) (hy:ev s y=some (.agg (lF b).toArray)):VOp Tryz.prog w0 s H (.binOp .eql 189 x y t') ty (.bool c):=fun ρ w _ _ _ _ hρ _=>by
 subst hc
 have h:=J4 w 9995 a b
 simp only [Nat.reduceAdd] at h
 simp only [execOp,hρ x _ hx,hρ y _ hy,Sem.run_bind,run_eqGuard_agg w _ _ _ _ _ _ Tryz.eqGuardType189,Result.andThen_ok,run_eql_struct,h,Sem.run_pure]
end Go.SL
namespace Go.SL
open Go Go.Proofs
attribute [local irreducible] W WL WQ WG WA WX WLI WR WT WC WE VOp RW thn blk bE scp aV bo bI aK FnIn FnP ceP
theorem F9 {a b:Rct} (h:(dU a b).2=true):aD (dU a b).1=true:=by
 unfold dU at h ⊢
 split at h
 ·
  rename_i hall
  rw [if_pos hall]
  simp only [Tu,List.all_nil,TZ,QZ] at hall
  exact hall.2.2
 ·
  cases h
theorem CD (r:Rct) (L:List Rl) (x:Rl):aY r (L++ [x])=aY r L++if (dU x.rect r).2=true then [((dU x.rect r).1.c1,(dU x.rect r).1.c2)] else []:=by
 unfold aY;simp
theorem AQ (r:Rct) (L:List Rl) (x:Rl):aX r (L++ [x])=aX r L++if (dU x.rect r).2=true then [((dU x.rect r).1.r1,(dU x.rect r).1.r2)] else []:=by
 unfold aX;simp
theorem eu (r:Rct): ∀ L:List Rl,(aY r L).length≤L.length
 | []=>QV _
 |x::L=>by
  have:=eu r L
  unfold aY at this ⊢
  rw [Rj,QP]
  split<;>simp only [Rp,Tp]<;>omega
theorem dZ (r:Rct): ∀ L:List Rl,(aX r L).length≤L.length
 | []=>QV _
 |x::L=>by
  have:=dZ r L
  unfold aX at this ⊢
  rw [Rj,QP]
  split<;>simp only [Rp,Tp]<;>omega
theorem qG {r:Rct} {L:List Rl}: ∀ p∈aY r L,0≤p.1∧p.1≤100000∧0≤p.2∧p.2≤100000:=fun p hp=>by
 obtain ⟨x,_,hx⟩:=RY.1 hp
 split at hx
 ·
  rename_i h
  have:=dc.1 (F9 h)
  rw [RA.1 hx]
  simp only;omega
 ·
  cases hx
theorem qe {r:Rct} {L:List Rl}: ∀ p∈aX r L,0≤p.1∧p.1≤100000∧0≤p.2∧p.2≤100000:=fun p hp=>by
 obtain ⟨x,_,hx⟩:=RY.1 hp
 split at hx
 ·
  rename_i h
  have:=dc.1 (F9 h)
  rw [RA.1 hx]
  simp only;omega
 ·
  cases hx
def sx (g:Nat) (A:Option Nat) (c:Nat) (C:List (Int × Int)):List Blk:= [.box g 232 [sl A C.length c],.own A 189 2 C.length c (C.flatMap dl)]
set_option maxHeartbeats 8000000 in
theorem F5 (r:Rct) (L:List Rl) (lv:Value) (gr gc gw:Nat) (A1 A2:Option Nat) (c1 c2:Nat) (C D:List (Int × Int)) (R:List Blk) (w0:World) (hl:Reads w0 lv L.length (L.flatMap bu)) (hC:C.length+L.length≤100000) (hD:D.length+L.length≤100000):
  FnIn Tryz.prog 180 [lv,.pointer (some ⟨gr,0,none⟩),.pointer (some ⟨gc,0,none⟩),.pointer (some ⟨gw,0,none⟩)] w0 (.box gr 32 (bK r)::(sx gc A1 c1 C++(sx gw A2 c2 D++R))) fun v H=>
   v= .tuple #[]∧ ∃ A1' c1' A2' c2',H= .box gr 32 (bK r)::(sx gc A1' c1' (C++aY r L)++(sx gw A2' c2' (D++aX r L)++R)):=by
 obtain ⟨Al,cl,rfl,hl1,hl2,hl3⟩:=hl
 refine dD Tryz.func180 rfl Tryz.ntmps180 rfl ?_
 simp only [sx,Re,QR,QU]
 repeat' (first|refine sT ?_|refine sS ?_|refine sM fun _=> ?_|(refine sC ?_ ?_<;>intro hb<;>try omega)|fail)
 refine ax [1,2,3,9,10] rfl (fun y:Nat × Option Nat × Nat × Option Nat × Nat=> [(11,.int .i64 (y.1:Int))]) (fun y=> .box gr 32 (bK r):: .box gc 232 [sl y.2.1 (C++aY r (L.take y.1)).length y.2.2.1]:: .own y.2.1 189 2 (C++aY r (L.take y.1)).length y.2.2.1 ((C++aY r (L.take y.1)).flatMap dl):: .box gw 232 [sl y.2.2.2.1 (D++aX r (L.take y.1)).length y.2.2.2.2]:: .own y.2.2.2.1 189 2 (D++aX r (L.take y.1)).length y.2.2.2.2 ((D++aX r (L.take y.1)).flatMap dl)::R) (fun y=>y.1≤L.length) (fun y=>L.length - y.1) (0,A1,c1,A2,c2) (QX _) sB (by simp only [Su,aY,aX,RC,QW];exact mS) ?_
 rintro ⟨i,A1,c1,A2,c2⟩ hi
 dsimp only at hi ⊢
 by_cases hlt:i<L.length
 ·
  obtain ⟨gl,ol,rfl,hrl⟩:=hl3 (by omega)
  have he1:=hrl.elem dm i hlt
  have hcs:=CD r (L.take i) L[i]
  have hws:=AQ r (L.take i) L[i]
  rw [← Rg hlt] at hcs hws
  have hcl:=eu r (L.take i)
  have hwl:=dZ r (L.take i)
  rw [Rq] at hcl hwl
  generalize L[i]=x at he1 hcs hws
  have hM:=fun w=>Gw x.rect r w
  generalize dU x.rect r=mt at hM hcs hws
  obtain ⟨mr,mb⟩:=mt
  dsimp only at hM hcs hws
  generalize aY r (L.take i)=C1 at hcs hcl ⊢
  generalize aX r (L.take i)=D1 at hws hwl ⊢
  have hCl:(C++C1).length≤200000:=by rw [QP];omega
  have hDl:(D++D1).length≤200000:=by rw [QP];omega
  have hC2:C++aY r (L.take (i+1))=(C++C1)++if mb=true then [(mr.c1,mr.c2)] else []:=by rw [hcs,Rx]
  have hD2:D++aX r (L.take (i+1))=(D++D1)++if mb=true then [(mr.r1,mr.r2)] else []:=by rw [hws,Rx]
  generalize C++C1=C3 at hC2 hCl ⊢
  generalize D++D1=D3 at hD2 hDl ⊢
  cases mb
  ·
   rw [if_neg (by decide),QW] at hC2 hD2
   repeat' (first|(apply aa;exact rfl;exact rfl;(intro w hm;exact hM w))|refine sT ?_|refine sS ?_|refine sN ?_|refine sO ?_|refine sM fun _=> ?_|(refine sC ?_ ?_<;>intro hb<;>try omega)|fail)
   all_goals first
    |(exfalso;omega)
    |(refine ⟨(i+1,A1,c1,A2,c2),hlt,by dsimp only;omega,by exact sB,by exact sB,?_⟩;dsimp only;rw [hC2,hD2];exact mS)
  ·
   rw [if_pos rfl] at hC2 hD2
   have hC4:(C3++ [(mr.c1,mr.c2)]).flatMap dl=C3.flatMap dl++ [.int .i64 mr.c1,.int .i64 mr.c2]:=by simp [dl]
   have hD4:(D3++ [(mr.r1,mr.r2)]).flatMap dl=D3.flatMap dl++ [.int .i64 mr.r1,.int .i64 mr.r2]:=by simp [dl]
   repeat' (first|(apply aa;exact rfl;exact rfl;(intro w hm;exact hM w))|(apply ak;exact rfl;apply nY;(iterate 5 exact rfl))|(apply bR (d:=30) (A:=A1) (m:=1);(iterate 3 exact rfl);exact pK;(intro w hm;exact hm.cells_own pK);exact rfl;(simp [Value.oneCell',sl]);omega;(simp only [maxLen];omega);(intro A3 c3 hA3))|(apply bR (d:=38) (A:=A2) (m:=1);(iterate 3 exact rfl);exact pK;(intro w hm;exact hm.cells_own pK);exact rfl;(simp [Value.oneCell',sl]);omega;(simp only [maxLen];omega);(intro A4 c4 hA4))|refine sT ?_|refine sS ?_|refine sN ?_|refine sO ?_|refine sM fun _=> ?_|(refine sC ?_ ?_<;>intro hb<;>try omega)|fail)
   all_goals first
    |(exfalso;omega)
    |(refine ⟨(i+1,A3,c3,A4,c4),hlt,by dsimp only;omega,by exact sB,by exact sB,?_⟩;dsimp only;rw [hC2,hD2,hC4,hD4,List.length_append,List.length_append];exact mS)
 ·
  have e:i=L.length:=by omega
  subst e
  rw [Sc]
  repeat' (first|refine sT ?_|refine sS ?_|refine sM fun _=> ?_|(refine sC ?_ ?_<;>intro hb<;>try omega)|fail)
  all_goals first
   |(exfalso;omega)
   |(exact fO eIO rfl (.refl _) ⟨rfl,A1,c1,A2,c2,rfl⟩)
end Go.SL
namespace Go.SL
open Go Go.Proofs Go.ChangeShapes Go.WideShapes Go.ChangeAt Go.RowKit Go.Deep
section
variable {H:Type} {enc:TypeId × Value→H} {w:World} {base:Nat} {spare:Nat→Bool} {held:Bool}
theorem r9 {P:Program} {e:TypeId} {d:DataW H} {n:Nat} (hn:n∈d.weights P e): ∀ {ds:List (DataW H)},d∈ds→n∈DataW.weightsAll P e ds
 | [],h=>by cases h
 |x::r,h=>by
  rw [DataW.weightsAll]
  rcases Rd.1 h with rfl|h
  ·
   exact TE _ hn
  ·
   exact TB _ (r9 hn h)
theorem jK {n:Nat} {c:Value} {x:DataW H × List MemPlace} (h:DataW.trod enc Tryz.prog w base spare held n 33 [c]=some x): ∃ a:BitVec 64,c=vS a:=by
 obtain ⟨a0,q0,_,w0⟩:=DataW.trod_int Tryz.underlying33 h
 simp only [List.cons.injEq,and_true] at q0
 have w1:0≤a0∧a0≤18446744073709551615:=by
  simp [Lit.wf] at w0
  exact w0
 refine ⟨BitVec.ofNat 64 a0.toNat,?_⟩
 subst q0
 unfold vS
 rw [BitVec.toNat_ofNat]
 congr 1
 omega
theorem pZ {n:Nat} {c:Value} {x:DataW H × List MemPlace} (h:DataW.trod enc Tryz.prog w base spare held n 5 [c]=some x): ∃ a:Int,c= .int .u8 a:=by
 obtain ⟨a0,q0,_,w0⟩:=DataW.trod_int Tryz.underlying5 h
 simp only [List.cons.injEq,and_true] at q0
 exact ⟨a0,q0⟩
theorem JS {n:Nat} {c:Value} {x:DataW H × List MemPlace} (h:DataW.trod enc Tryz.prog w base spare held n 4 [c]=some x): ∃ a:Bool,c= .bool a:=by
 obtain ⟨a0,q0,_⟩:=DataW.trod_bool Tryz.underlying4 h
 simp only [List.cons.injEq,and_true] at q0
 exact ⟨a0,q0⟩
set_option maxRecDepth 100000 in
theorem Aq {fuel:Nat} {cs:List Value} {x:DataW H × List MemPlace} (h:DataW.trod enc Tryz.prog w base spare held fuel 52 cs=some x): ∃ v:Et,cs=aJ v∧v.input.size∈x.1.weights Tryz.prog 52:=by
 obtain ⟨xs,n,_,rfl,hlen,hxl,hf⟩:=DataW.trod_struct Tryz.underlying52 h
 have eS:Tryz.prog.cellsOf 52=3:=by kernel_rfl
 have eI:Tryz.prog.cellsOf 50=2:=by kernel_rfl
 have eT:Tryz.prog.cellsOf 9=1:=by kernel_rfl
 rw [eS] at hlen
 match cs,hlen,xs,hxl with
 | [c0,c1,c2],_,[x0,x1],_=>
  have h0:DataW.trod enc Tryz.prog w base spare held n 50 ((([c0,c1,c2]:List Value).drop 0).take (Tryz.prog.cellsOf 50))=some x0:=hf 0 _ rfl
  rw [eI] at h0
  obtain ⟨a,q,wa⟩:=Ak (cs:= [c0,c1]) h0
  simp only [bh,List.cons.injEq,and_true] at q
  obtain ⟨rfl,rfl⟩:=q
  have h2:DataW.trod enc Tryz.prog w base spare held n 9 ((([Value.int .i64 a.col,.int .i64 a.row,c2]:List Value).drop 2).take (Tryz.prog.cellsOf 9))=some x1:=hf 1 _ rfl
  rw [eT] at h2
  obtain ⟨a2,q2,q3,_⟩:=DataW.trod_string Tryz.underlying9 h2
  simp only [TK,SA,Sg,Su,List.cons.injEq,and_true] at q2
  subst q2
  subst q3
  refine ⟨⟨a,a2⟩,rfl,?_⟩
  simp [DataW.weights,Tryz.underlying52,DataW.weightsEach]
def Lw (x:BitVec 64 × BitVec 64 × BitVec 64):List Value:= [vS x.1,vS x.2.1,vS x.2.2]
set_option maxRecDepth 100000 in
theorem sq {fuel:Nat} {cs:List Value} {x:DataW H × List MemPlace} (h:DataW.trod enc Tryz.prog w base spare held fuel 35 cs=some x): ∃ v:BitVec 64 × BitVec 64 × BitVec 64,cs=Lw v:=by
 obtain ⟨xs,n,_,_,hlen,hxl,hf⟩:=DataW.trod_struct Tryz.underlying35 h
 have eS:Tryz.prog.cellsOf 35=3:=by kernel_rfl
 have e_s:Tryz.prog.cellsOf 33=1:=by kernel_rfl
 rw [eS] at hlen
 match cs,hlen,xs,hxl with
 | [c0,c1,c2],_,[x0,x1,x2],_=>
  have h0:DataW.trod enc Tryz.prog w base spare held n 33 ((([c0,c1,c2]:List Value).drop 0).take (Tryz.prog.cellsOf 33))=some x0:=hf 0 _ rfl
  rw [e_s] at h0
  obtain ⟨a0,rfl⟩:=jK (c:=c0) h0
  have h1:DataW.trod enc Tryz.prog w base spare held n 33 ((([(vS a0:Value),c1,c2]:List Value).drop 1).take (Tryz.prog.cellsOf 33))=some x1:=hf 1 _ rfl
  rw [e_s] at h1
  obtain ⟨a1,rfl⟩:=jK (c:=c1) h1
  have h2:DataW.trod enc Tryz.prog w base spare held n 33 ((([(vS a0:Value),(vS a1:Value),c2]:List Value).drop 2).take (Tryz.prog.cellsOf 33))=some x2:=hf 2 _ rfl
  rw [e_s] at h2
  obtain ⟨a2,rfl⟩:=jK (c:=c2) h2
  exact ⟨⟨a0,a1,a2⟩,rfl⟩
set_option maxRecDepth 100000 in
theorem G5 {fuel:Nat} {cs:List Value} {x:DataW H × List MemPlace} (h:DataW.trod enc Tryz.prog w base spare held fuel 60 cs=some x): ∃ v:Cl,cs=qD v:=by
 obtain ⟨xs,n,_,_,hlen,hxl,hf⟩:=DataW.trod_struct Tryz.underlying60 h
 have eS:Tryz.prog.cellsOf 60=3:=by kernel_rfl
 have e_F:Tryz.prog.cellsOf 50=2:=by kernel_rfl
 have e_i:Tryz.prog.cellsOf 3=1:=by kernel_rfl
 rw [eS] at hlen
 match cs,hlen,xs,hxl with
 | [c0,c1,c2],_,[x0,x1],_=>
  have h0:DataW.trod enc Tryz.prog w base spare held n 50 ((([c0,c1,c2]:List Value).drop 0).take (Tryz.prog.cellsOf 50))=some x0:=hf 0 _ rfl
  rw [e_F] at h0
  obtain ⟨a0,q,_⟩:=Ak (cs:= [c0,c1]) h0
  simp only [bh,List.cons.injEq,and_true] at q
  obtain ⟨rfl,rfl⟩:=q
  have h1:DataW.trod enc Tryz.prog w base spare held n 3 ((([(.int .i64 a0.col:Value),(.int .i64 a0.row:Value),c2]:List Value).drop 2).take (Tryz.prog.cellsOf 3))=some x1:=hf 1 _ rfl
  rw [e_i] at h1
  obtain ⟨a1,rfl,_⟩:=fH (c:=c2) h1
  exact ⟨⟨a0,a1⟩,rfl⟩
set_option maxRecDepth 100000 in
theorem G3 {fuel:Nat} {cs:List Value} {x:DataW H × List MemPlace} (h:DataW.trod enc Tryz.prog w base spare held fuel 54 cs=some x): ∃ v:Rl,cs=bu v:=by
 obtain ⟨xs,n,_,_,hlen,hxl,hf⟩:=DataW.trod_struct Tryz.underlying54 h
 have eS:Tryz.prog.cellsOf 54=7:=by kernel_rfl
 have e_R:Tryz.prog.cellsOf 32=4:=by kernel_rfl
 have e_T:Tryz.prog.cellsOf 35=3:=by kernel_rfl
 rw [eS] at hlen
 match cs,hlen,xs,hxl with
 | [c0,c1,c2,c3,c4,c5,c6],_,[x0,x1],_=>
  have h0:DataW.trod enc Tryz.prog w base spare held n 32 ((([c0,c1,c2,c3,c4,c5,c6]:List Value).drop 0).take (Tryz.prog.cellsOf 32))=some x0:=hf 0 _ rfl
  rw [e_R] at h0
  obtain ⟨a0,q,_⟩:=kU (cs:= [c0,c1,c2,c3]) h0
  simp only [bK,List.cons.injEq,and_true] at q
  obtain ⟨rfl,rfl,rfl,rfl⟩:=q
  have h1:DataW.trod enc Tryz.prog w base spare held n 35 ((([(.int .i64 a0.c1:Value),(.int .i64 a0.r1:Value),(.int .i64 a0.c2:Value),(.int .i64 a0.r2:Value),c4,c5,c6]:List Value).drop 4).take (Tryz.prog.cellsOf 35))=some x1:=hf 1 _ rfl
  rw [e_T] at h1
  obtain ⟨a1,q⟩:=sq (cs:= [c4,c5,c6]) h1
  simp only [Lw,List.cons.injEq,and_true] at q
  obtain ⟨rfl,rfl,rfl⟩:=q
  exact ⟨⟨a0,a1.1,a1.2.1,a1.2.2⟩,rfl⟩
set_option maxRecDepth 100000 in
theorem Dw {fuel:Nat} {cs:List Value} {x:DataW H × List MemPlace} (h:DataW.trod enc Tryz.prog w base spare held fuel 56 cs=some x): ∃ v:Gn,cs=bn v:=by
 obtain ⟨xs,n,_,_,hlen,hxl,hf⟩:=DataW.trod_struct Tryz.underlying56 h
 have eS:Tryz.prog.cellsOf 56=8:=by kernel_rfl
 have e_R:Tryz.prog.cellsOf 32=4:=by kernel_rfl
 have e_b:Tryz.prog.cellsOf 4=1:=by kernel_rfl
 have e_c:Tryz.prog.cellsOf 5=1:=by kernel_rfl
 have e_i:Tryz.prog.cellsOf 3=1:=by kernel_rfl
 have e_s:Tryz.prog.cellsOf 33=1:=by kernel_rfl
 rw [eS] at hlen
 match cs,hlen,xs,hxl with
 | [c0,c1,c2,c3,c4,c5,c6,c7],_,[x0,x1,x2,x3,x4],_=>
  have h0:DataW.trod enc Tryz.prog w base spare held n 32 ((([c0,c1,c2,c3,c4,c5,c6,c7]:List Value).drop 0).take (Tryz.prog.cellsOf 32))=some x0:=hf 0 _ rfl
  rw [e_R] at h0
  obtain ⟨a0,q,_⟩:=kU (cs:= [c0,c1,c2,c3]) h0
  simp only [bK,List.cons.injEq,and_true] at q
  obtain ⟨rfl,rfl,rfl,rfl⟩:=q
  have h1:DataW.trod enc Tryz.prog w base spare held n 5 ((([(.int .i64 a0.c1:Value),(.int .i64 a0.r1:Value),(.int .i64 a0.c2:Value),(.int .i64 a0.r2:Value),c4,c5,c6,c7]:List Value).drop 4).take (Tryz.prog.cellsOf 5))=some x1:=hf 1 _ rfl
  rw [e_c] at h1
  obtain ⟨a1,rfl⟩:=pZ (c:=c4) h1
  have h2:DataW.trod enc Tryz.prog w base spare held n 33 ((([(.int .i64 a0.c1:Value),(.int .i64 a0.r1:Value),(.int .i64 a0.c2:Value),(.int .i64 a0.r2:Value),(.int .u8 a1:Value),c5,c6,c7]:List Value).drop 5).take (Tryz.prog.cellsOf 33))=some x2:=hf 2 _ rfl
  rw [e_s] at h2
  obtain ⟨a2,rfl⟩:=jK (c:=c5) h2
  have h3:DataW.trod enc Tryz.prog w base spare held n 3 ((([(.int .i64 a0.c1:Value),(.int .i64 a0.r1:Value),(.int .i64 a0.c2:Value),(.int .i64 a0.r2:Value),(.int .u8 a1:Value),(vS a2:Value),c6,c7]:List Value).drop 6).take (Tryz.prog.cellsOf 3))=some x3:=hf 3 _ rfl
  rw [e_i] at h3
  obtain ⟨a3,rfl,_⟩:=fH (c:=c6) h3
  have h4:DataW.trod enc Tryz.prog w base spare held n 4 ((([(.int .i64 a0.c1:Value),(.int .i64 a0.r1:Value),(.int .i64 a0.c2:Value),(.int .i64 a0.r2:Value),(.int .u8 a1:Value),(vS a2:Value),(.int .i64 a3:Value),c7]:List Value).drop 7).take (Tryz.prog.cellsOf 4))=some x4:=hf 4 _ rfl
  rw [e_b] at h4
  obtain ⟨a4,rfl⟩:=JS (c:=c7) h4
  exact ⟨⟨a0,a1,a2,a3,a4⟩,rfl⟩
set_option maxRecDepth 100000 in
theorem Dx {fuel:Nat} {cs:List Value} {x:DataW H × List MemPlace} (h:DataW.trod enc Tryz.prog w base spare held fuel 58 cs=some x): ∃ v:Ev,cs=bf v:=by
 obtain ⟨xs,n,_,_,hlen,hxl,hf⟩:=DataW.trod_struct Tryz.underlying58 h
 have eS:Tryz.prog.cellsOf 58=9:=by kernel_rfl
 have e_R:Tryz.prog.cellsOf 32=4:=by kernel_rfl
 have e_b:Tryz.prog.cellsOf 4=1:=by kernel_rfl
 have e_c:Tryz.prog.cellsOf 5=1:=by kernel_rfl
 have e_i:Tryz.prog.cellsOf 3=1:=by kernel_rfl
 have e_s:Tryz.prog.cellsOf 33=1:=by kernel_rfl
 rw [eS] at hlen
 match cs,hlen,xs,hxl with
 | [c0,c1,c2,c3,c4,c5,c6,c7,c8],_,[x0,x1,x2,x3,x4,x5],_=>
  have h0:DataW.trod enc Tryz.prog w base spare held n 3 ((([c0,c1,c2,c3,c4,c5,c6,c7,c8]:List Value).drop 0).take (Tryz.prog.cellsOf 3))=some x0:=hf 0 _ rfl
  rw [e_i] at h0
  obtain ⟨a0,rfl,_⟩:=fH (c:=c0) h0
  have h1:DataW.trod enc Tryz.prog w base spare held n 3 ((([(.int .i64 a0:Value),c1,c2,c3,c4,c5,c6,c7,c8]:List Value).drop 1).take (Tryz.prog.cellsOf 3))=some x1:=hf 1 _ rfl
  rw [e_i] at h1
  obtain ⟨a1,rfl,_⟩:=fH (c:=c1) h1
  have h2:DataW.trod enc Tryz.prog w base spare held n 5 ((([(.int .i64 a0:Value),(.int .i64 a1:Value),c2,c3,c4,c5,c6,c7,c8]:List Value).drop 2).take (Tryz.prog.cellsOf 5))=some x2:=hf 2 _ rfl
  rw [e_c] at h2
  obtain ⟨a2,rfl⟩:=pZ (c:=c2) h2
  have h3:DataW.trod enc Tryz.prog w base spare held n 32 ((([(.int .i64 a0:Value),(.int .i64 a1:Value),(.int .u8 a2:Value),c3,c4,c5,c6,c7,c8]:List Value).drop 3).take (Tryz.prog.cellsOf 32))=some x3:=hf 3 _ rfl
  rw [e_R] at h3
  obtain ⟨a3,q,_⟩:=kU (cs:= [c3,c4,c5,c6]) h3
  simp only [bK,List.cons.injEq,and_true] at q
  obtain ⟨rfl,rfl,rfl,rfl⟩:=q
  have h4:DataW.trod enc Tryz.prog w base spare held n 4 ((([(.int .i64 a0:Value),(.int .i64 a1:Value),(.int .u8 a2:Value),(.int .i64 a3.c1:Value),(.int .i64 a3.r1:Value),(.int .i64 a3.c2:Value),(.int .i64 a3.r2:Value),c7,c8]:List Value).drop 7).take (Tryz.prog.cellsOf 4))=some x4:=hf 4 _ rfl
  rw [e_b] at h4
  obtain ⟨a4,rfl⟩:=JS (c:=c7) h4
  have h5:DataW.trod enc Tryz.prog w base spare held n 33 ((([(.int .i64 a0:Value),(.int .i64 a1:Value),(.int .u8 a2:Value),(.int .i64 a3.c1:Value),(.int .i64 a3.r1:Value),(.int .i64 a3.c2:Value),(.int .i64 a3.r2:Value),(.bool a4:Value),c8]:List Value).drop 8).take (Tryz.prog.cellsOf 33))=some x5:=hf 5 _ rfl
  rw [e_s] at h5
  obtain ⟨a5,rfl⟩:=jK (c:=c8) h5
  exact ⟨⟨a0,a1,a2,a3,a4,a5⟩,rfl⟩
set_option maxRecDepth 100000 in
theorem yO {fuel:Nat} {cs:List Value} {x:DataW H × List MemPlace} (h:DataW.trod enc Tryz.prog w base spare held fuel 62 cs=some x): ∃ v:Rv,cs=aO v:=by
 obtain ⟨xs,n,_,_,hlen,hxl,hf⟩:=DataW.trod_struct Tryz.underlying62 h
 have eS:Tryz.prog.cellsOf 62=11:=by kernel_rfl
 have e_C:Tryz.prog.cellsOf 60=3:=by kernel_rfl
 have e_R:Tryz.prog.cellsOf 32=4:=by kernel_rfl
 have e_c:Tryz.prog.cellsOf 5=1:=by kernel_rfl
 have e_i:Tryz.prog.cellsOf 3=1:=by kernel_rfl
 have e_s:Tryz.prog.cellsOf 33=1:=by kernel_rfl
 rw [eS] at hlen
 match cs,hlen,xs,hxl with
 | [c0,c1,c2,c3,c4,c5,c6,c7,c8,c9,c10],_,[x0,x1,x2,x3,x4,x5],_=>
  have h0:DataW.trod enc Tryz.prog w base spare held n 3 ((([c0,c1,c2,c3,c4,c5,c6,c7,c8,c9,c10]:List Value).drop 0).take (Tryz.prog.cellsOf 3))=some x0:=hf 0 _ rfl
  rw [e_i] at h0
  obtain ⟨a0,rfl,_⟩:=fH (c:=c0) h0
  have h1:DataW.trod enc Tryz.prog w base spare held n 60 ((([(.int .i64 a0:Value),c1,c2,c3,c4,c5,c6,c7,c8,c9,c10]:List Value).drop 1).take (Tryz.prog.cellsOf 60))=some x1:=hf 1 _ rfl
  rw [e_C] at h1
  obtain ⟨a1,q⟩:=G5 (cs:= [c1,c2,c3]) h1
  simp only [qD,List.cons.injEq,and_true] at q
  obtain ⟨rfl,rfl,rfl⟩:=q
  have h2:DataW.trod enc Tryz.prog w base spare held n 5 ((([(.int .i64 a0:Value),(.int .i64 a1.at_.col:Value),(.int .i64 a1.at_.row:Value),(.int .i64 a1.node:Value),c4,c5,c6,c7,c8,c9,c10]:List Value).drop 4).take (Tryz.prog.cellsOf 5))=some x2:=hf 2 _ rfl
  rw [e_c] at h2
  obtain ⟨a2,rfl⟩:=pZ (c:=c4) h2
  have h3:DataW.trod enc Tryz.prog w base spare held n 32 ((([(.int .i64 a0:Value),(.int .i64 a1.at_.col:Value),(.int .i64 a1.at_.row:Value),(.int .i64 a1.node:Value),(.int .u8 a2:Value),c5,c6,c7,c8,c9,c10]:List Value).drop 5).take (Tryz.prog.cellsOf 32))=some x3:=hf 3 _ rfl
  rw [e_R] at h3
  obtain ⟨a3,q,_⟩:=kU (cs:= [c5,c6,c7,c8]) h3
  simp only [bK,List.cons.injEq,and_true] at q
  obtain ⟨rfl,rfl,rfl,rfl⟩:=q
  have h4:DataW.trod enc Tryz.prog w base spare held n 3 ((([(.int .i64 a0:Value),(.int .i64 a1.at_.col:Value),(.int .i64 a1.at_.row:Value),(.int .i64 a1.node:Value),(.int .u8 a2:Value),(.int .i64 a3.c1:Value),(.int .i64 a3.r1:Value),(.int .i64 a3.c2:Value),(.int .i64 a3.r2:Value),c9,c10]:List Value).drop 9).take (Tryz.prog.cellsOf 3))=some x4:=hf 4 _ rfl
  rw [e_i] at h4
  obtain ⟨a4,rfl,_⟩:=fH (c:=c9) h4
  have h5:DataW.trod enc Tryz.prog w base spare held n 33 ((([(.int .i64 a0:Value),(.int .i64 a1.at_.col:Value),(.int .i64 a1.at_.row:Value),(.int .i64 a1.node:Value),(.int .u8 a2:Value),(.int .i64 a3.c1:Value),(.int .i64 a3.r1:Value),(.int .i64 a3.c2:Value),(.int .i64 a3.r2:Value),(.int .i64 a4:Value),c10]:List Value).drop 10).take (Tryz.prog.cellsOf 33))=some x5:=hf 5 _ rfl
  rw [e_s] at h5
  obtain ⟨a5,rfl⟩:=jK (c:=c10) h5
  exact ⟨⟨a0,a1,a2,a3,a4,a5⟩,rfl⟩
instance:Inhabited Rl:=⟨⟨⟨0,0,0,0⟩,0#64,0#64,0#64⟩⟩
instance:Inhabited Gn:=⟨⟨⟨0,0,0,0⟩,0,0#64,0,false⟩⟩
instance:Inhabited Ev:=⟨⟨0,0,0,⟨0,0,0,0⟩,false,0#64⟩⟩
instance:Inhabited Rv:=⟨⟨0,⟨⟨0,0⟩,0⟩,0,⟨0,0,0,0⟩,0,0#64⟩⟩
theorem Ej {fuel:Nat} {cs:List Value} {x:DataW H × List MemPlace} (h:DataW.trod enc Tryz.prog w 0 spare held fuel 22 cs=some x):
  ∃ (v:Value) (L:List Et),cs= [v]∧Reads w v L.length (L.flatMap aJ)∧ ∀ a∈L,a.input.size∈x.1.weights Tryz.prog 22:=by
 have hm:Tryz.prog.cellsOf 52=3:=by kernel_rfl
 have ht:=Tryz.underlying22
 rcases open_slice ht h with ⟨h0,_⟩|⟨a,len,cap,mm,n,D,Pl,h0,hb,hl,hmx,hmm,hxe,hx⟩
 ·
  exact ⟨_,[],h0,⟨none,0,rfl,QV _,QX _,fun h=>by cases h⟩,fun _ h=>by cases h⟩
 ·
  have hlm:len≤mm:=by rw [hmm];split<;>omega
  obtain ⟨F,hF⟩:=choose_lt (α:=Et) (n:=len) (p:=fun i nd=>w.cells? 0 (a.add (i*3)) 3=some (aJ nd)∧nd.input.size∈(D i).weights Tryz.prog 52) (fun i hi=>by
   obtain ⟨cs',h1,h2⟩:=hx i (by omega)
   rw [hm] at h1
   obtain ⟨nd,rfl,hw⟩:=Aq h2
   exact ⟨nd,h1,hw⟩)
  have hlen:((List.range len).map F).length=len:=by simp
  refine ⟨_,(List.range len).map F,h0,⟨some a,cap,by rw [hlen],by omega,hmx,fun hpos=> ?_⟩,fun n hn=> ?_⟩
  rotate_left
  ·
   obtain ⟨i,hi,rfl⟩:=RD.1 hn
   have h1:=(hF i (List.mem_range.1 hi)).2
   rw [hxe]
   simp only [DataW.weights,ht]
   exact Rc _ (TE _ (r9 h1 (RD.2 ⟨i,hi,rfl⟩)))
  rw [hlen] at hpos
  obtain ⟨g,o,spot⟩:=a
  have hspot:spot=none:=by
   obtain ⟨_,_,h3⟩:=World.cells?_some (hF 0 (by omega)).1
   have h4' :=h3 0 (by decide)
   rw [QQ (by rw [bJ];decide)] at h4'
   have h4:=World.cell?_spot h4'
   simpa [Addr.add] using h4
  subst hspot
  have hcell: ∀ (i:Nat) (nd:Et),((List.range len).map F)[i]? =some nd→Cells w g (o+i*3) (aJ nd):=by
   intro i nd hnd k v hv
   have hil:i<len:=by have:=(Rn.1 hnd).1;omega
   have hnd' :F i=nd:=by simpa [hil] using hnd
   subst hnd'
   have hk:k<3:=by have:=(Rn.1 hv).1;rwa [bJ] at this
   obtain ⟨_,_,h3⟩:=World.cells?_some (hF i hil).1
   have:=h3 k hk
   rw [hv,cK,cK] at this
   exact this
  refine ⟨g,o,rfl,?_,wz bJ w g o _ hcell⟩
  obtain ⟨u,hu⟩: ∃ u,(aJ (F 0))[0]? =some u:=⟨_,QQ (by rw [bJ];decide)⟩
  have h5:=hcell 0 (F 0) (by simp [hpos]) 0 u hu
  simp only [World.cell?] at h5
  split at h5
  ·
   rename_i h6
   exact (RI.1 h6).1
  ·
   cases h5
theorem mL {v:Value} {m:Nat} {xs:List Value} (h:Reads w v m xs): ∃ A c,v= .slice A m c:=by
 obtain ⟨A,c,e,_⟩:=h
 exact ⟨A,c,e⟩
set_option maxRecDepth 100000 in
theorem HY {v:Value} {d:DataW H} {p:List MemPlace} {base' :Nat} (hv:Value.okWide Tryz.prog w .any base' 28 v) (h:DataW.Trod enc Tryz.prog w 0 spare held 28 v d p): ∃ (b:Bk) (x:Bv),v= .agg (aW b x).toArray∧BRd w b x∧ ∀ e∈b.ents,e.input.size∈d.weights Tryz.prog 28:=by
 obtain ⟨fuel,hf⟩:=h
 obtain ⟨cs,rfl,_⟩:=okWide_struct Tryz.underlying28 hv
 have hcs:(Value.agg cs).cells.toList=cs.toList:=by simp [Value.cells]
 rw [hcs] at hf
 obtain ⟨xs,n,_,hd,hlen,hxl,hg⟩:=DataW.trod_struct Tryz.underlying28 hf
 have eS:Tryz.prog.cellsOf 28=7:=by kernel_rfl
 have e_i:Tryz.prog.cellsOf 3=1:=by kernel_rfl
 have e_e:Tryz.prog.cellsOf 22=1:=by kernel_rfl
 have e_r:Tryz.prog.cellsOf 23=1:=by kernel_rfl
 have e_g:Tryz.prog.cellsOf 24=1:=by kernel_rfl
 have e_l:Tryz.prog.cellsOf 25=1:=by kernel_rfl
 have e_s:Tryz.prog.cellsOf 26=1:=by kernel_rfl
 rw [eS] at hlen
 obtain ⟨cl,rfl⟩: ∃ cl,cs=cl.toArray:=⟨cs.toList,by simp⟩
 simp only [TJ] at hlen hg
 match cl,hlen,xs,hxl with
 | [c0,c1,c2,c3,c4,c5,c6],_,[x0,x1,x2,x3,x4,x5,x6],_=>
  have h0:DataW.trod enc Tryz.prog w 0 spare held n 3 ((([c0,c1,c2,c3,c4,c5,c6]:List Value).drop 0).take (Tryz.prog.cellsOf 3))=some x0:=hg 0 _ rfl
  have h1:DataW.trod enc Tryz.prog w 0 spare held n 22 ((([c0,c1,c2,c3,c4,c5,c6]:List Value).drop 1).take (Tryz.prog.cellsOf 22))=some x1:=hg 1 _ rfl
  have h2:DataW.trod enc Tryz.prog w 0 spare held n 23 ((([c0,c1,c2,c3,c4,c5,c6]:List Value).drop 2).take (Tryz.prog.cellsOf 23))=some x2:=hg 2 _ rfl
  have h3:DataW.trod enc Tryz.prog w 0 spare held n 24 ((([c0,c1,c2,c3,c4,c5,c6]:List Value).drop 3).take (Tryz.prog.cellsOf 24))=some x3:=hg 3 _ rfl
  have h4:DataW.trod enc Tryz.prog w 0 spare held n 25 ((([c0,c1,c2,c3,c4,c5,c6]:List Value).drop 4).take (Tryz.prog.cellsOf 25))=some x4:=hg 4 _ rfl
  have h5:DataW.trod enc Tryz.prog w 0 spare held n 26 ((([c0,c1,c2,c3,c4,c5,c6]:List Value).drop 5).take (Tryz.prog.cellsOf 26))=some x5:=hg 5 _ rfl
  have h6:DataW.trod enc Tryz.prog w 0 spare held n 3 ((([c0,c1,c2,c3,c4,c5,c6]:List Value).drop 6).take (Tryz.prog.cellsOf 3))=some x6:=hg 6 _ rfl
  rw [e_i] at h0 h6
  rw [e_e] at h1
  rw [e_r] at h2
  rw [e_g] at h3
  rw [e_l] at h4
  rw [e_s] at h5
  obtain ⟨us,rfl,_⟩:=fH (c:=c0) h0
  obtain ⟨st,rfl,_⟩:=fH (c:=c6) h6
  obtain ⟨v1,L1,q1,r1,w1⟩:=Ej (cs:= [c1]) h1
  obtain ⟨v2,L2,q2,r2,_⟩:=lh (ok:=fun _:Rl=>True) Tryz.underlying23 (by kernel_rfl) (by decide) dm (fun _ _ _ h=>let ⟨a,e⟩:=G3 h;⟨a,e,trivial⟩) (cs:= [c2]) h2
  obtain ⟨v3,L3,q3,r3,_⟩:=lh (ok:=fun _:Gn=>True) Tryz.underlying24 (by kernel_rfl) (by decide) cX (fun _ _ _ h=>let ⟨a,e⟩:=Dw h;⟨a,e,trivial⟩) (cs:= [c3]) h3
  obtain ⟨v4,L4,q4,r4,_⟩:=lh (ok:=fun _:Ev=>True) Tryz.underlying25 (by kernel_rfl) (by decide) gC (fun _ _ _ h=>let ⟨a,e⟩:=Dx h;⟨a,e,trivial⟩) (cs:= [c4]) h4
  obtain ⟨v5,L5,q5,r5,_⟩:=lh (ok:=fun _:Rv=>True) Tryz.underlying26 (by kernel_rfl) (by decide) cB (fun _ _ _ h=>let ⟨a,e⟩:=yO h;⟨a,e,trivial⟩) (cs:= [c5]) h5
  simp only [List.cons.injEq,and_true] at q1 q2 q3 q4 q5
  subst q1;subst q2;subst q3;subst q4;subst q5
  obtain ⟨A1,k1,rfl⟩:=mL r1
  obtain ⟨A2,k2,rfl⟩:=mL r2
  obtain ⟨A3,k3,rfl⟩:=mL r3
  obtain ⟨A4,k4,rfl⟩:=mL r4
  obtain ⟨A5,k5,rfl⟩:=mL r5
  refine ⟨⟨us,L1,L2,L3,L4,L5,st⟩,⟨A1,A2,A3,A4,A5,k1,k2,k3,k4,k5⟩,rfl,⟨r1,r2,r3,r4,r5⟩,fun e he=> ?_⟩
  have h7:=w1 e he
  have hd1:d=DataW.agg [x0.1,x1.1,x2.1,x3.1,x4.1,x5.1,x6.1]:=congrArg Prod.fst hd
  rw [hd1]
  simp only [DataW.weights,Tryz.underlying28,Rz,Sl,DataW.weightsEach]
  exact TB _ (TE _ h7)
end
section
variable {H:Type} {enc:TypeId × Value→H} {w:World} {base:Nat} {spare:Nat→Bool} {held:Bool}
set_option maxRecDepth 100000 in
theorem MQ {fuel:Nat} {cs:List Value} {x:DataW H × List MemPlace} (h:DataW.trod enc Tryz.prog w base spare held fuel 37 cs=some x): ∃ v:Ox,cs=bO v:=by
 obtain ⟨xs,n,_,_,hlen,hxl,hf⟩:=DataW.trod_struct Tryz.underlying37 h
 have eS:Tryz.prog.cellsOf 37=13:=by kernel_rfl
 have e_R:Tryz.prog.cellsOf 32=4:=by kernel_rfl
 have e_T:Tryz.prog.cellsOf 35=3:=by kernel_rfl
 have e_c:Tryz.prog.cellsOf 5=1:=by kernel_rfl
 have e_i:Tryz.prog.cellsOf 3=1:=by kernel_rfl
 have e_s:Tryz.prog.cellsOf 33=1:=by kernel_rfl
 have e_t:Tryz.prog.cellsOf 9=1:=by kernel_rfl
 rw [eS] at hlen
 match cs,hlen,xs,hxl with
 | [c0,c1,c2,c3,c4,c5,c6,c7,c8,c9,c10,c11,c12],_,[x0,x1,x2,x3,x4,x5,x6,x7],_=>
  have h0:DataW.trod enc Tryz.prog w base spare held n 5 ((([c0,c1,c2,c3,c4,c5,c6,c7,c8,c9,c10,c11,c12]:List Value).drop 0).take (Tryz.prog.cellsOf 5))=some x0:=hf 0 _ rfl
  rw [e_c] at h0
  obtain ⟨a0,rfl⟩:=pZ (c:=c0) h0
  have h1:DataW.trod enc Tryz.prog w base spare held n 3 ((([(.int .u8 a0:Value),c1,c2,c3,c4,c5,c6,c7,c8,c9,c10,c11,c12]:List Value).drop 1).take (Tryz.prog.cellsOf 3))=some x1:=hf 1 _ rfl
  rw [e_i] at h1
  obtain ⟨a1,rfl,_⟩:=fH (c:=c1) h1
  have h2:DataW.trod enc Tryz.prog w base spare held n 32 ((([(.int .u8 a0:Value),(.int .i64 a1:Value),c2,c3,c4,c5,c6,c7,c8,c9,c10,c11,c12]:List Value).drop 2).take (Tryz.prog.cellsOf 32))=some x2:=hf 2 _ rfl
  rw [e_R] at h2
  obtain ⟨a2,q,_⟩:=kU (cs:= [c2,c3,c4,c5]) h2
  simp only [bK,List.cons.injEq,and_true] at q
  obtain ⟨rfl,rfl,rfl,rfl⟩:=q
  have h3:DataW.trod enc Tryz.prog w base spare held n 9 ((([(.int .u8 a0:Value),(.int .i64 a1:Value),(.int .i64 a2.c1:Value),(.int .i64 a2.r1:Value),(.int .i64 a2.c2:Value),(.int .i64 a2.r2:Value),c6,c7,c8,c9,c10,c11,c12]:List Value).drop 6).take (Tryz.prog.cellsOf 9))=some x3:=hf 3 _ rfl
  rw [e_t] at h3
  obtain ⟨a3,rfl⟩:=O3 (c:=c6) h3
  have h4:DataW.trod enc Tryz.prog w base spare held n 35 ((([(.int .u8 a0:Value),(.int .i64 a1:Value),(.int .i64 a2.c1:Value),(.int .i64 a2.r1:Value),(.int .i64 a2.c2:Value),(.int .i64 a2.r2:Value),(.string a3:Value),c7,c8,c9,c10,c11,c12]:List Value).drop 7).take (Tryz.prog.cellsOf 35))=some x4:=hf 4 _ rfl
  rw [e_T] at h4
  obtain ⟨a4,q⟩:=sq (cs:= [c7,c8,c9]) h4
  simp only [Lw,List.cons.injEq,and_true] at q
  obtain ⟨rfl,rfl,rfl⟩:=q
  have h5:DataW.trod enc Tryz.prog w base spare held n 5 ((([(.int .u8 a0:Value),(.int .i64 a1:Value),(.int .i64 a2.c1:Value),(.int .i64 a2.r1:Value),(.int .i64 a2.c2:Value),(.int .i64 a2.r2:Value),(.string a3:Value),(vS a4.1:Value),(vS a4.2.1:Value),(vS a4.2.2:Value),c10,c11,c12]:List Value).drop 10).take (Tryz.prog.cellsOf 5))=some x5:=hf 5 _ rfl
  rw [e_c] at h5
  obtain ⟨a5,rfl⟩:=pZ (c:=c10) h5
  have h6:DataW.trod enc Tryz.prog w base spare held n 33 ((([(.int .u8 a0:Value),(.int .i64 a1:Value),(.int .i64 a2.c1:Value),(.int .i64 a2.r1:Value),(.int .i64 a2.c2:Value),(.int .i64 a2.r2:Value),(.string a3:Value),(vS a4.1:Value),(vS a4.2.1:Value),(vS a4.2.2:Value),(.int .u8 a5:Value),c11,c12]:List Value).drop 11).take (Tryz.prog.cellsOf 33))=some x6:=hf 6 _ rfl
  rw [e_s] at h6
  obtain ⟨a6,rfl⟩:=jK (c:=c11) h6
  have h7:DataW.trod enc Tryz.prog w base spare held n 3 ((([(.int .u8 a0:Value),(.int .i64 a1:Value),(.int .i64 a2.c1:Value),(.int .i64 a2.r1:Value),(.int .i64 a2.c2:Value),(.int .i64 a2.r2:Value),(.string a3:Value),(vS a4.1:Value),(vS a4.2.1:Value),(vS a4.2.2:Value),(.int .u8 a5:Value),(vS a6:Value),c12]:List Value).drop 12).take (Tryz.prog.cellsOf 3))=some x7:=hf 7 _ rfl
  rw [e_i] at h7
  obtain ⟨a7,rfl,_⟩:=fH (c:=c12) h7
  exact ⟨⟨a0,a1,a2,a3,a4.1,a4.2.1,a4.2.2,a5,a6,a7⟩,rfl⟩
end
instance:Inhabited Ox:=⟨⟨0,0,⟨0,0,0,0⟩,⟨#[]⟩,0#64,0#64,0#64,0,0#64,0⟩⟩
section
variable {H:Type} {enc:TypeId × Value→H} {w:World} {base:Nat} {spare:Nat→Bool} {held:Bool}
set_option maxRecDepth 100000 in
theorem Kt {v:Value} {d:DataW H} {p:List MemPlace} (hv:Value.okWide Tryz.prog w .any base 29 v) (h:DataW.Trod enc Tryz.prog w 0 spare held 29 v d p): ∃ L:List Ox,Reads w v L.length (L.flatMap bO):=by
 obtain ⟨L,h1,_⟩:=HX (ok:=fun _:Ox=>True) Tryz.underlying29 (by kernel_rfl) (by decide) IL (fun _ _ _ h=>let ⟨a,e⟩:=MQ h;⟨a,e,trivial⟩) hv h
 exact ⟨L,h1⟩
end
end Go.SL
namespace Go.SL
open Go Go.Proofs
attribute [local irreducible] W WL WQ WG WA WX WLI WR WT WC WE VOp RW thn blk bE scp aV bo bI aK FnIn FnP ceP
--
theorem K4 {l m:List Pz} {p:Pz} (hm:m≠ []):l++jR m p=jR (l++m) p:=by
 have e:=SM hm
 generalize hd:m.dropLast=d at e
 generalize m.getLast hm=q at e
 subst e
 unfold jR
 rw [← Rx,List.getLast?_concat,List.getLast?_concat]
 dsimp only
 rw [TY,TY]
 split<;>simp
theorem xP {O:List Pz} {q p:Pz}:jR (O++ [q]) p=if q.a=p.a∧q.b=p.b then O++ [⟨⟨q.rect.c1,q.rect.r1,p.rect.c2,q.rect.r2⟩,q.a,q.b⟩] else O++ [q]++ [p]:=by
 unfold jR
 rw [List.getLast?_concat]
 dsimp only
 rw [TY]
theorem FV {A B:List Rl} {y:Int × Int} (xs:List (Int × Int)):(jO A B y xs).length≤xs.length:=by
 induction xs using tR with
 |h0=>exact QV _
 |h1 xs x ih=>
  rw [kX,QP,QS]
  generalize jO A B y xs=l at ih
  unfold jR
  cases h:l.getLast? with
  |none=>simp
  |some q=>
   dsimp only
   split
   ·
    rw [QP,List.length_dropLast,QS];omega
   ·
    rw [QP,QS];omega
theorem AR {A B:List Rl} {y:Int × Int}:jO A B y []= []:=rfl
def jc (A B:List Rl) (ys xs:List (Int × Int)):List Pz:=ys.flatMap fun y=>jO A B y xs
theorem AP {A B:List Rl} {ys xs:List (Int × Int)} {y:Int × Int}:jc A B (ys++ [y]) xs=jc A B ys xs++jO A B y xs:=by unfold jc;simp
theorem lO {A B:List Rl} {xs:List (Int × Int)}: ∀ ys:List (Int × Int),(jc A B ys xs).length≤ys.length*xs.length
 | []=>by simp [jc]
 |y::ys=>by
  have h1:=lO (A:=A) (B:=B) (xs:=xs) ys
  have h2:=FV (A:=A) (B:=B) (y:=y) xs
  unfold jc at h1 ⊢
  rw [Rj,QP,Rp,Nat.succ_mul]
  omega
theorem O7 {A B:List Rl} {y:Int × Int} (xs:List (Int × Int)): ∀ q∈jO A B y xs,q.rect.r1=y.1∧ ∃ x∈xs,q.rect.c1=x.1:=by
 induction xs using tR with
 |h0=>intro q hq;cases hq
 |h1 xs x ih=>
  intro q hq
  rw [kX] at hq
  by_cases hn:jO A B y xs= []
  ·
   rw [hn] at hq
   have:q=mY A B y x:=by simpa [jR] using hq
   subst this
   exact ⟨rfl,x,by simp,rfl⟩
  ·
   have e:=SM hn
   generalize (jO A B y xs).dropLast=d at e
   generalize (jO A B y xs).getLast hn=z at e
   rw [← e] at hq ih
   rw [xP] at hq
   have hz:=ih z (by simp)
   split at hq
   ·
    rcases Rs.1 hq with hq|hq
    ·
     obtain ⟨h1,x',h2,h3⟩:=ih q (by simp [hq])
     exact ⟨h1,x',by simp [h2],h3⟩
    ·
     rw [RA.1 hq]
     obtain ⟨h1,x',h2,h3⟩:=hz
     exact ⟨h1,x',by simp [h2],h3⟩
   ·
    rcases Rs.1 hq with hq|hq
    ·
     obtain ⟨h1,x',h2,h3⟩:=ih q hq
     exact ⟨h1,x',by simp [h2],h3⟩
    ·
     rw [RA.1 hq]
     exact ⟨rfl,x,by simp,rfl⟩
theorem Bz {r:Rct} {A B:List Rl} (hrs:1≤r.c1∧r.c1≤r.c2∧r.c2≤1024∧1≤r.r1∧r.r1≤r.r2∧r.r2≤1024): ∀ p∈dJ r A B,uN p:=fun p hp=>by
 obtain ⟨y,hy,hp⟩:=RY.1 hp
 obtain ⟨h1,x,hx,h2⟩:=O7 _ p hp
 have h3:=eG hy
 have h4:=eG hx
 unfold uN
 omega
set_option maxHeartbeats 16000000 in
theorem Kj (r:Rct) (hr:aD r=true) (A B:List Rl) (la lb:Value) (w:World) (hla:Reads w la A.length (A.flatMap bu)) (hlb:Reads w lb B.length (B.flatMap bu)) (hA:A.length≤200) (hB:B.length≤200):
    aK Tryz.prog 141 [.agg (bK r).toArray,la,lb] w fun v H=> ∃ Ap cap,v=sl Ap (dJ r A B).length cap∧H= [.own Ap 191 6 (dJ r A B).length cap ((dJ r A B).flatMap di)]:=by
  refine aq Tryz.func141 rfl Tryz.ntmps141 rfl ?_
  have hrs:=dc.1 hr
  have hZ:InZ (dJ r A B):=by
    refine ⟨y7 r A B,Bz hrs,?_⟩
    have h1:=lO (A:=A) (B:=B) (xs:=cG r.c1 r.c2 (aY r A++aY r B)) (cG r.r1 r.r2 (aX r A++aX r B))
    have h2:=iK r.c1 r.c2 (aY r A++aY r B)
    have h3:=iK r.r1 r.r2 (aX r A++aX r B)
    have h4:=eu r A
    have h5:=eu r B
    have h6:=dZ r A
    have h7:=dZ r B
    rw [QP] at h2 h3
    refine Rt h1 (Rt (Nat.mul_le_mul (show _≤801 by omega) (show _≤801 by omega)) (by decide))
  have hnA:=fun (gr gc gw:Nat)=>F5 r A la gr gc gw none none 0 0 [] [] [] w hla (by simp;omega) (by simp;omega)
  have hnB:=fun (gr gc gw:Nat) (A1 A2:Option Nat) (c1 c2:Nat)=>F5 r B lb gr gc gw A1 A2 c1 c2 (aY r A) (aX r A) [] w hlb (by have:=eu r A;omega) (by have:=dZ r A;omega)
  have hcl:(aY r A++aY r B).length≤400:=by have:=eu r A;have:=eu r B;rw [QP];omega
  have hwl:(aX r A++aX r B).length≤400:=by have:=dZ r A;have:=dZ r B;rw [QP];omega
  have hcs: ∀ p∈aY r A++aY r B,0≤p.1∧p.1≤100000∧0≤p.2∧p.2≤100000:=fun p hp=>(Rs.1 hp).elim (qG p) (qG p)
  have hws: ∀ p∈aX r A++aX r B,0≤p.1∧p.1≤100000∧0≤p.2∧p.2≤100000:=fun p hp=>(Rs.1 hp).elim (qe p) (qe p)
  have hb1:=fun (w' :World) (lv:Value) (h:Reads w' lv _ _)=>CI r.c1 r.c2 (aY r A++aY r B) lv w' h (by omega) (by omega) (by omega) hcs
  have hb2:=fun (w' :World) (lv:Value) (h:Reads w' lv _ _)=>CI r.r1 r.r2 (aX r A++aX r B) lv w' h (by omega) (by omega) (by omega) hws
  have hxl:=iK r.c1 r.c2 (aY r A++aY r B)
  have hyl:=iK r.r1 r.r2 (aX r A++aX r B)
  have hpf:dJ r A B=jc A B (cG r.r1 r.r2 (aX r A++aX r B)) (cG r.c1 r.c2 (aY r A++aY r B)):=rfl
  generalize dJ r A B=PZ at hZ hpf ⊢
  generalize hX:cG r.c1 r.c2 (aY r A++aY r B)=xB at hb1 hxl hpf
  generalize hY:cG r.r1 r.r2 (aX r A++aX r B)=yB at hb2 hyl hpf
  generalize hCO:aY r A++aY r B=CO at hb1 hcl hxl
  generalize hRO:aX r A++aX r B=RO at hb2 hwl hyl
  refine aH 189 2 ?_
  refine aH 189 2 ?_
  repeat' (first|(apply kQ (d:=21);exact rfl;exact rfl;infer_instance;exact rfl;exact FnIn.msub (hnA _ _ _) (by simp only [sx,Re,QR,QU];exact mS);rintro _ _ ⟨rfl,A1,c1,A2,c2,rfl⟩)|(apply kQ (d:=24);exact rfl;exact rfl;infer_instance;exact rfl;exact FnIn.msub (hnB _ _ _ A1 A2 c1 c2) (by simp only [sx,Re,QR,QU];exact mS);rintro _ _ ⟨rfl,A3,c3,A4,c4,rfl⟩)|refine sT ?_|refine sS ?_|refine sT2 ?_|refine sM fun _=> ?_|(refine sC ?_ ?_<;>intro hb<;>try omega)|exact cT|fail)
  rename_i g3 g7 g8
  rw [hCO,hRO]
  simp only [sx,Re,QR,QU]
  refine o7 (fun _:Option Nat × Nat × Option Nat × Nat=> [(1,la),(2,lb),(3,.pointer (some ⟨g3,0,none⟩)),(7,.pointer (some ⟨g7,0,none⟩)),(8,.pointer (some ⟨g8,0,none⟩))]) (fun y=> .box g7 232 [sl y.1 xB.length y.2.1]:: .own y.1 189 2 xB.length y.2.1 (xB.flatMap dl):: .box g8 232 [sl y.2.2.1 yB.length y.2.2.2]:: .own y.2.2.1 189 2 yB.length y.2.2.2 (yB.flatMap dl):: []) (fun _=>True) ?_ ?_
  · refine pV (id:=5) [4,5,10,11,12,13] [.box g3 32 (bK r)] 14 rfl rfl mS ?_
    repeat' (first|(apply du (i:=0);(iterate 4 exact rfl);decide+kernel;decide+kernel;decide+kernel;(exact vC))|(apply du (i:=1);(iterate 4 exact rfl);decide+kernel;decide+kernel;decide+kernel;(exact vC))|(apply du (i:=2);(iterate 4 exact rfl);decide+kernel;decide+kernel;decide+kernel;(exact vC))|(apply du (i:=3);(iterate 4 exact rfl);decide+kernel;decide+kernel;decide+kernel;(exact vC))|(apply du (i:=6);(iterate 4 exact rfl);decide+kernel;decide+kernel;decide+kernel;(exact vC))|(apply du (i:=7);(iterate 4 exact rfl);decide+kernel;decide+kernel;decide+kernel;(exact vC))|(apply du (i:=8);(iterate 4 exact rfl);decide+kernel;decide+kernel;decide+kernel;(exact vC))|(apply du (i:=9);(iterate 4 exact rfl);decide+kernel;decide+kernel;decide+kernel;(exact vC))|(apply gZ (i:=4) (j:=10);(iterate 6 exact rfl);decide+kernel)|(apply gZ (i:=5) (j:=10);(iterate 6 exact rfl);decide+kernel)|(apply gZ (i:=12) (j:=13);(iterate 6 exact rfl);decide+kernel)|(apply dw (i:=4);(iterate 3 exact rfl);decide+kernel)|(apply dw (i:=5);(iterate 3 exact rfl);decide+kernel)|(apply dw (i:=10);(iterate 3 exact rfl);decide+kernel)|(apply dw (i:=11);(iterate 3 exact rfl);decide+kernel)|(apply dw (i:=12);(iterate 3 exact rfl);decide+kernel)|(apply dw (i:=13);(iterate 3 exact rfl);decide+kernel)|(apply aA (d:=30);exact rfl;exact rfl;(intro w' hm;exact hb1 w' _ (Reads.of_own (A:=A3) hm pK));rintro _ _ ⟨A5,c5,rfl,rfl⟩)|(apply aA (d:=36);exact rfl;exact rfl;(intro w' hm;exact hb2 w' _ (Reads.of_own (A:=A4) hm pK));rintro _ _ ⟨A6,c6,rfl,rfl⟩)|(apply pS;decide+kernel)|(apply IY;(focus (exact mS;done)))|refine sT ?_|refine sS ?_|refine sT2 ?_|refine sM fun _=> ?_|(refine sC ?_ ?_<;>intro hb<;>try omega)|exact cT|fail)
    all_goals first
      |(exfalso;omega)
      |(exact cC (A5,c5,A6,c6) trivial sB mS)
  rintro ⟨A5,c5,A6,c6⟩ _
  dsimp only
  clear hnA hnB hb1 hb2 hX hY hCO hRO
  refine aH 191 6 ?_
  repeat' (first|refine sT ?_|refine sS ?_|refine sT2 ?_|refine sM fun _=> ?_|(refine sC ?_ ?_<;>intro hb<;>try omega)|exact cT|fail)
  refine ax [1,2,7,37,38] rfl (fun y:Nat × Option Nat × Nat=> [(10,sl y.2.1 (jc A B (yB.take y.1) xB).length y.2.2),(39,.int .i64 (y.1:Int))]) (fun y=> .own y.2.1 191 6 (jc A B (yB.take y.1) xB).length y.2.2 ((jc A B (yB.take y.1) xB).flatMap di):: .box g7 232 [sl A5 xB.length c5]:: .own A5 189 2 xB.length c5 (xB.flatMap dl):: .own A6 189 2 yB.length c6 (yB.flatMap dl):: []) (fun y=>y.1≤yB.length) (fun y=>yB.length - y.1) (0,none,0) (QX _) sB mS ?_
  rintro ⟨j,Ao,co⟩ hj
  dsimp only at hj ⊢
  by_cases hjl:j<yB.length
  · refine eH (A:=A6) pK (by omega) fun g6 hA6=> ?_
    subst hA6
    have hrd:((yB.flatMap dl).drop (0+j*2)).take 2=dl yB[j]:=by rw [RB];exact dG jD yB j hjl
    have hsn:=AP (A:=A) (B:=B) (ys:=yB.take j) (xs:=xB) (y:=yB[j])
    rw [← Rg hjl] at hsn
    have hpl:(jc A B (yB.take j) xB).length≤700000:=by
      have h1:=lO (A:=A) (B:=B) (xs:=xB) (yB.take j)
      refine Rt h1 (Rt (Nat.mul_le_mul (show _≤801 by rw [Rq];omega) (show _≤801 by omega)) (by decide))
    generalize yB[j]=y at hrd hsn
    generalize jc A B (yB.take j) xB=prev at hsn hpl ⊢
    repeat' (first|(apply ak (d:=41);exact rfl;apply aj (j:=j);exact rfl;exact rfl;exact hjl)|(apply ak (d:=42);exact rfl;apply aM (ys:=dl y);exact rfl;exact pK;exact hrd;exact rfl)|refine sT ?_|refine sS ?_|refine sT2 ?_|refine sN ?_|refine sM fun _=> ?_|(refine sC ?_ ?_<;>intro hb<;>try omega)|exact cT|fail)
    all_goals try (exfalso;omega)
    rename_i g12
    refine ax [1,2,7,12,13,37,38,39,45,46] rfl (fun z:Nat × Option Nat × Nat=> [(10,sl z.2.1 (prev++jO A B y (xB.take z.1)).length z.2.2),(47,.int .i64 (z.1:Int))]) (fun z=> .own z.2.1 191 6 (prev++jO A B y (xB.take z.1)).length z.2.2 ((prev++jO A B y (xB.take z.1)).flatMap di):: .box g12 189 (dl y):: .box g7 232 [sl A5 xB.length c5]:: .own A5 189 2 xB.length c5 (xB.flatMap dl):: .own (some g6) 189 2 yB.length c6 (yB.flatMap dl):: []) (fun z=>z.1≤xB.length) (fun z=>xB.length - z.1) (0,Ao,co) (QX _) (by rw [Su,AR,QW];exact sB) (by rw [Su,AR,QW];exact mS) ?_
    rintro ⟨k,Az,cz⟩ hk
    dsimp only at hk ⊢
    by_cases hkl:k<xB.length
    · refine eH (A:=A5) pK (by omega) fun g5 hA5=> ?_
      subst hA5
      have hrx:((xB.flatMap dl).drop (0+k*2)).take 2=dl xB[k]:=by rw [RB];exact dG jD xB k hkl
      have hrn:=kX (A:=A) (B:=B) (y:=y) (xs:=xB.take k) (x:=xB[k])
      rw [← Rg hkl] at hrn
      have hcl2:=FV (A:=A) (B:=B) (y:=y) (xB.take k)
      rw [Rq] at hcl2
      generalize xB[k]=x at hrx hrn
      have hw1:=fun (w' :World) (H:List Blk) (hm:Mem w w' H)=>zX (fk y x) A la w' (hla.of_w0 hm) (by omega)
      have hw2:=fun (w' :World) (H:List Blk) (hm:Mem w w' H)=>zX (fk y x) B lb w' (hlb.of_w0 hm) (by omega)
      have hp:mY A B y x=⟨fk y x,gY (fk y x) A,gY (fk y x) B⟩:=rfl
      rw [hp] at hrn
      generalize gY (fk y x) A=wa at hw1 hrn
      generalize gY (fk y x) B=wb at hw2 hrn
      clear hp
      repeat' (first|(apply ak (d:=49);exact rfl;apply aj (j:=k);exact rfl;exact rfl;exact hkl)|(apply ak (d:=50);exact rfl;apply aM (ys:=dl x);exact rfl;exact pK;exact hrx;exact rfl)|refine sT ?_|refine sS ?_|refine sT2 ?_|refine sN ?_|refine sM fun _=> ?_|(refine sC ?_ ?_<;>intro hb<;>try omega)|exact cT|fail)
      all_goals try (exfalso;omega)
      rename_i g15 g16
      generalize jO A B y (xB.take k)=cur at hrn hcl2 ⊢
      have hOl:(prev++cur).length≤800000:=by rw [QP];omega
      refine nW (id:=15) 10 (.box g16 191 (di ⟨fk y x,wa,wb⟩):: .own Az 191 6 (prev++cur).length cz ((prev++cur).flatMap di):: .box g12 189 (dl y):: .box g7 232 [sl (some g5) xB.length c5]:: .own (some g5) 189 2 xB.length c5 (xB.flatMap dl):: .own (some g6) 189 2 yB.length c6 (yB.flatMap dl):: []) (by kernel_rfl) (by kernel_rfl) rfl ?_
      repeat' (first|(apply GL (f' :=183) (f:=60);exact rfl;decide+kernel;exact rfl;exact rfl;(intro w' hm;first|exact hw1 w' _ hm|exact hw2 w' _ hm))|(apply zY (f:=60) (d:=69);exact rfl;decide+kernel;exact rfl;apply nY;(iterate 5 exact rfl))|(apply mD;exact rfl;exact rfl;exact pK;(iterate 3 exact rfl);exact Um rfl;exact mS)|refine sT ?_|refine sS ?_|refine sT2 ?_|refine sG2 ?_|refine sG ?_|refine sM fun _=> ?_|(refine sC ?_ ?_<;>intro hb<;>try omega)|exact cT|fail)
      all_goals try (exfalso;omega)
      rcases Sf cur.length with h0|hpos
      · have hc0:cur= []:=SC.1 h0
        subst hc0
        have hg:jR [] (⟨fk y x,wa,wb⟩:Pz)= [⟨fk y x,wa,wb⟩]:=rfl
        rw [hg] at hrn
        rw [QW] at hOl ⊢
        repeat' (first|(apply gH (id:=17);kernel_rfl;kernel_rfl)|(apply bR (d:=99) (A:=Az) (m:=1);(iterate 3 exact rfl);exact pK;(intro w hm;exact hm.cells_own pK);exact rfl;(simp [Value.oneCell',sl,di]);omega;(simp only [maxLen];omega);(intro A' cap' hA'))|refine sT ?_|refine sS ?_|refine sQ ?_|refine sT2 ?_|refine sQ2 ?_|refine sN ?_|refine sNQ ?_|refine sD ?_|refine sM fun _=> ?_|(refine sC ?_ ?_<;>intro hb<;>try omega)|(refine sCQ ?_ ?_<;>intro hb<;>try omega)|exact cT|fail)
        all_goals first
          |(exfalso;omega)
          | (refine ⟨(k + 1, A', cap'), hkl, by dsimp only; omega, ?_, by exact sB, ?_⟩
             · dsimp only;rw [hrn,List.length_append];exact sB
             · dsimp only;rw [hrn,List.length_append,List.flatMap_append];exact mS)
      · have hne:cur≠ []:=Sx.1 hpos
        have hga:=K4 (l:=prev) (p:=(⟨fk y x,wa,wb⟩:Pz)) hne
        rw [← hrn] at hga
        have hlt2:prev.length<(prev++cur).length:=by rw [QP];omega
        have hOe:=SM (l:=prev++cur) (by simp [hne])
        generalize (prev++cur).dropLast=O at hOe
        generalize (prev++cur).getLast _=q at hOe
        rw [← hOe] at hga hlt2 hOl ⊢
        rw [xP] at hga
        have hOn:(O++ [q]).length=O.length+1:=by simp
        rw [hOn] at hOl hlt2
        have hq2:(((O++ [q]).flatMap di).drop (0+O.length*6+4)).take 2=lF (q.a,q.b):=by
          have h1:=dG cW (O++ [q]) O.length (by simp)
          have h2:=congrArg (List.drop 4) h1
          rw [List.drop_take,Sw] at h2
          simp only [List.getElem_concat_length] at h2
          rw [RB]
          exact h2
        refine eH (A:=Az) pK (by omega) fun gz hAz=> ?_
        subst hAz
        obtain ⟨c,hc⟩: ∃ c,decide ((q.a,q.b)=(wa,wb))=c:=⟨_,rfl⟩
        cases c with
        |true=>
          have hab:q.a=wa∧q.b=wb:=by simpa using hc
          rw [if_pos hab] at hga
          have hset:=Iz cW (O++ [q]) O.length 2 (by simp) (by decide) (.int .i64 x.2) ⟨⟨q.rect.c1,q.rect.r1,x.2,q.rect.r2⟩,q.a,q.b⟩ (by simp only [List.getElem_concat_length];rfl)
          rw [TA _ _ (QV _),Nat.sub_self,List.set_cons_zero] at hset
          have hOl3:((O++ [q]).flatMap di).length=(O.length+1)*6:=by rw [aP cW,hOn]
          rw [hOn]
          repeat' (first|(apply gH (id:=17);kernel_rfl;kernel_rfl)|(apply aS (d:=79);exact rfl;apply dM (a:=O.length+1);exact rfl;exact rfl;omega;(simp only [maxLen];omega))|(apply aS (d:=80);exact rfl;apply aj (j:=O.length);exact rfl;exact rfl;omega)|(apply aS (d:=82);exact rfl;apply aM (ys:=lF (q.a,q.b));exact rfl;exact pK;exact hq2;exact rfl)|(apply aS (d:=85);exact rfl;apply FH (a:=(q.a,q.b)) (b:=(wa,wb)) hc;exact rfl;exact rfl)|(apply ak (d:=89);exact rfl;apply dM (a:=O.length+1);exact rfl;exact rfl;omega;(simp only [maxLen];omega))|(apply ak (d:=93);exact rfl;apply aj (j:=O.length);exact rfl;exact rfl;omega)|(apply gF (v:= .int .i64 x.2) (off:=0+O.length*6+2);exact rfl;exact rfl;exact pK;exact rfl;(rw [hOl3];omega);rw [RB,hset])|refine sT ?_|refine sS ?_|refine sQ ?_|refine sT2 ?_|refine sQ2 ?_|refine sN ?_|refine sNQ ?_|refine sD ?_|refine sM fun _=> ?_|(refine sC ?_ ?_<;>intro hb<;>try omega)|(refine sCQ ?_ ?_<;>intro hb<;>try omega)|exact cT|fail)
          all_goals first
            |(exfalso;omega)
            | (refine ⟨(k + 1, some gz, cz), hkl, by dsimp only; omega, ?_, by exact sB, ?_⟩
               · dsimp only;rw [hga,List.length_append];exact sB
               · dsimp only;rw [hga,List.length_append];exact mS)
        |false=>
          have hab: ¬ (q.a=wa∧q.b=wb):=by simpa using hc
          rw [if_neg hab] at hga
          rw [hOn]
          repeat' (first|(apply gH (id:=17);kernel_rfl;kernel_rfl)|(apply aS (d:=79);exact rfl;apply dM (a:=O.length+1);exact rfl;exact rfl;omega;(simp only [maxLen];omega))|(apply aS (d:=80);exact rfl;apply aj (j:=O.length);exact rfl;exact rfl;omega)|(apply aS (d:=82);exact rfl;apply aM (ys:=lF (q.a,q.b));exact rfl;exact pK;exact hq2;exact rfl)|(apply aS (d:=85);exact rfl;apply FH (a:=(q.a,q.b)) (b:=(wa,wb)) hc;exact rfl;exact rfl)|(apply bR (d:=99) (A:=some gz) (m:=1);(iterate 3 exact rfl);exact pK;(intro w hm;exact hm.cells_own pK);exact rfl;(simp [Value.oneCell',sl,di]);omega;(simp only [maxLen];omega);(intro A' cap' hA'))|refine sT ?_|refine sS ?_|refine sQ ?_|refine sT2 ?_|refine sQ2 ?_|refine sN ?_|refine sNQ ?_|refine sD ?_|refine sM fun _=> ?_|(refine sC ?_ ?_<;>intro hb<;>try omega)|(refine sCQ ?_ ?_<;>intro hb<;>try omega)|exact cT|fail)
          all_goals first
            |(exfalso;omega)
            | (refine ⟨(k + 1, A', cap'), hkl, by dsimp only; omega, ?_, by exact sB, ?_⟩
               · dsimp only;rw [hga,List.length_append,hOn];exact sB
               · dsimp only;rw [hga,List.length_append,hOn,List.flatMap_append (xs:=O++ [q])];exact mS)
    · have e:k=xB.length:=by omega
      subst e
      rw [Sc,← hsn]
      repeat' (first|refine sT ?_|refine sS ?_|refine sT2 ?_|refine sN ?_|refine sM fun _=> ?_|(refine sC ?_ ?_<;>intro hb<;>try omega)|exact cT|fail)
      all_goals first
        |(exfalso;omega)
        |(refine ⟨(j+1,Az,cz),hjl,by dsimp only;omega,by exact sB,by exact sB,by exact mS⟩;done)
  · have e:j=yB.length:=by omega
    subst e
    rw [Sc,← hpf]
    have hS:=fun (w' :World) (H:List Blk) (hm:Mem w w' H) (lv:Value) (h:Reads w' lv _ _)=>wO PZ hZ lv w' h
    repeat' (first|(apply aa (d:=103);exact rfl;exact rfl;(intro w' hm;exact hS w' _ hm _ (Reads.of_own (A:=Ao) hm pK)))|refine sT ?_|refine sS ?_|refine sT2 ?_|refine sN ?_|refine sM fun _=> ?_|(refine sC ?_ ?_<;>intro hb<;>try omega)|exact cT|fail)
    all_goals first
      |(exfalso;omega)
      |(exact cH eIO rfl rfl mS ⟨Ao,co,rfl,rfl⟩)
end Go.SL
