/-
  Lemmas and walks, put together: Hh Il Q5 Hi Q6.
-/
import Derived.Test.YtoanpdoacdpgeaaGreatDoorKp16
import Derived.Test.YtoanpdoacdpgeaaGreatDoorKp17
set_option linter.unusedSimpArgs false
set_option linter.unusedVariables false
set_option maxRecDepth 20000
namespace Go.SL
open Go Go.Proofs
attribute [local irreducible] W WL WQ WG WA WX WLI WR WT WC WE VOp RW thn blk bF scp aR bk bJ aL FnIn FnP ceP
--
def df (p:Int × Int):List Value:= [.int .i64 p.1,.int .i64 p.2]
theorem jv (p:Int × Int):(df p).length=2:=rfl
theorem Cw (lo:Int) (ps:List (Int × Int)) (p:Int × Int):db lo (ps++ [p])=db lo ps++ [p.1,p.2+1]:=by
 unfold db;simp
def pq (lo hi x:Int):Bool:=decide (lo≤x) && decide (x≤hi)
theorem G9 {l:List Int} {h x:Int} (hl:l≠ []):((dG l h).flatMap df).set (0+((dG l h).length - 1)*2+1) (fC (x - 1))=(dG l (x - 1)).flatMap df:=by
 obtain ⟨f,a,h1,h2⟩:=Bp l h (x - 1) hl
 rw [h1,h2]
 simp only [QE,Qk,Qo,RZ,QA,QP,Qr,df]
 rw [SG _ _ (by rw [aH jv];omega),aH jv]
 congr 1
 rw [show 0+f.length*2+1 - f.length*2=1 by omega]
 rfl
set_option maxHeartbeats 8000000 in
theorem Cy (lo hi:Int) (ps:List (Int × Int)) (lv:Value) (w:World) (hl:Reads w lv ps.length (ps.flatMap df)) (hn:ps.length≤100000) (hlo:0≤lo∧lo≤100000) (hhi:0≤hi∧hi≤100000) (hps: ∀ p∈ps,0≤p.1∧p.1≤100000∧0≤p.2∧p.2≤100000):
    aL Tryz.prog 182 [.int .i64 lo,.int .i64 hi,lv] w fun v H=> ∃ A cap,v=sl A (cD lo hi ps).length cap∧H= [.own A 189 2 (cD lo hi ps).length cap ((cD lo hi ps).flatMap df)]:=by
  obtain ⟨Al,cl,rfl,hl1,hl2,hl3⟩:=hl
  refine aq Tryz.func182 rfl Tryz.ntmps182 rfl ?_
  repeat' (first|refine sT ?_|refine sS ?_|refine sT2 ?_|refine sM fun _=> ?_|(refine sC ?_ ?_<;>intro hb<;>try omega)|fail)
  rename_i gb
  refine ax [0,1,15,16] rfl (fun y:Nat × Option Nat × Nat=> [(7,sl y.2.1 (1+2*y.1) y.2.2),(17,.int .i64 (y.1:Int))]) (fun y=> [.own y.2.1 3 1 (1+2*y.1) y.2.2 ((db lo (ps.take y.1)).map fC)]) (fun y=>y.1≤ps.length) (fun y=>ps.length - y.1) (0,some gb,1) (Qt _) sB mS ?_
  rintro ⟨i,A,c⟩ hi0
  dsimp only at hi0 ⊢
  by_cases hlt:i<ps.length
  · obtain ⟨gl,ol,rfl,hrl⟩:=hl3 (by omega)
    have he1:=hrl.elem jv i hlt
    have hbs:db lo (ps.take (i+1))=db lo (ps.take i)++ [ps[i].1,ps[i].2+1]:=by rw [Qv hlt,Cw]
    have hpb:=hps _ (Re hlt)
    generalize ps[i]=p at he1 hbs hpb
    repeat' (first|(apply bO (A:=A) (m:=2);(iterate 3 exact rfl);exact pK;(intro w hm;exact hm.cells_own pK);exact rfl;(simp [Value.oneCell',sl]);omega;(simp only [maxLen];omega);(intro A' cap' hA'))|refine sT ?_|refine sS ?_|refine sT2 ?_|refine sN ?_|refine sJ ?_|refine sO ?_|refine sM fun _=> ?_|(refine sC ?_ ?_<;>intro hb<;>try omega)|fail)
    all_goals first
      |(exfalso;omega)
      | (refine ⟨(i + 1, A', cap'), hlt, by dsimp only; omega, by exact sB, by exact sB, ?_⟩
         dsimp only
         rw [hbs,Ru]
         exact mS)
  · have e:i=ps.length:=by omega
    subst e
    rw [Rx]
    have hbl:=rT lo ps
    have hs1:=fun (R:List Blk)=>Av (db lo ps) A c (by omega) R w
    have hsl:(i9 (db lo ps)).length=1+2*ps.length:=by rw [(ic _).length_eq,hbl]
    have hs2:=fun (R:List Blk)=>CL (i9 (db lo ps)) A c (by omega) R w
    rw [hbl] at hs1
    rw [hsl] at hs2
    have hcl:=vO (i9 (db lo ps))
    rw [hsl] at hcl
    have hcut:vM lo hi ps=(fQ (i9 (db lo ps))).filter (pq lo hi):=rfl
    have hbd: ∀ x∈fQ (i9 (db lo ps)),0≤x∧x≤100001:=fun x hx=>by
      rw [mN,(ic _).mem_iff,db,Qx,RB] at hx
      rcases hx with rfl|⟨p,hp,hx⟩
      · omega
      · have:=hps p hp
        simp at hx
        omega
    unfold cD
    rw [hcut]
    generalize fQ (i9 (db lo ps))=C at hs2 hcl hbd
    refine aC 189 2 ?_
    repeat' (first|(apply aw (f:=230);exact rfl;exact rfl;exact FnIn.msub (hs1 _) (MSub.pick pK (MSub.refl _));rintro _ _ ⟨rfl,rfl⟩)|(apply aw (f:=231);exact rfl;exact rfl;exact FnIn.msub (hs2 _) (MSub.pick pK (MSub.refl _));rintro _ _ ⟨rfl,rfl⟩)|refine sT ?_|refine sS ?_|refine sT2 ?_|refine sN ?_|refine sM fun _=> ?_|(refine sC ?_ ?_<;>intro hb<;>try omega)|fail)
    all_goals try (exfalso;omega)
    refine ax [0,1,33,34] rfl (fun y:Nat × Option Nat × Nat=> [(10,sl y.2.1 (dG ((C.take y.1).filter (pq lo hi)) hi).length y.2.2),(35,.int .i64 (y.1:Int))]) (fun y=> [.own y.2.1 189 2 (dG ((C.take y.1).filter (pq lo hi)) hi).length y.2.2 ((dG ((C.take y.1).filter (pq lo hi)) hi).flatMap df),.own A 3 1 C.length c (C.map fC)]) (fun y=>y.1≤C.length) (fun y=>C.length - y.1) (0,none,0) (Qt _) sB mS ?_
    rintro ⟨k,A2,c2⟩ hk
    dsimp only at hk ⊢
    by_cases hlk:k<C.length
    · refine eK (A:=A) pK (by omega) fun gc hA=> ?_
      subst hA
      have hrd:(C.map fC)[0+k*1]? =some (.int .i64 C[k]):=OC hlk
      have hxb:=hbd _ (Re hlk)
      have hfs:(C.take (k+1)).filter (pq lo hi)=if pq lo hi C[k]=true then (C.take k).filter (pq lo hi)++ [C[k]] else (C.take k).filter (pq lo hi):=by
        rw [Qv hlk,TH]
        cases h:pq lo hi C[k]<;>simp [h]
      have hfl:((C.take k).filter (pq lo hi)).length≤300000:=QC (Sw _ _) (by rw [QD];omega)
      generalize hx:C[k]=x at hrd hxb hfs
      generalize hF:(C.take k).filter (pq lo hi)=Fk at hfs hfl
      have hpl:=lJ hi Fk
      by_cases hin:lo≤x∧x≤hi
      · have hin2:pq lo hi x=true:=by simp [pq,hin.1,hin.2]
        rw [if_pos hin2] at hfs
        have hsn:=jV x hi Fk
        rw [← hfs] at hsn
        have hpl2:=lJ (x - 1) Fk
        by_cases h0:Fk= []
        · subst h0
          rw [show dG [] (x - 1)= [] from rfl,Qn] at hsn
          repeat' (first|(apply ak (d:=37);exact rfl;apply aj (j:=k);exact rfl;exact rfl;exact hlk)|(apply ak (d:=38);exact rfl;apply bD;exact rfl;exact pK;exact hrd)|(apply ak;exact rfl;apply nI;(iterate 5 exact rfl))|(apply bO (A:=A2) (m:=1);(iterate 3 exact rfl);exact pK;(intro w hm;exact hm.cells_own pK);exact rfl;(simp [Value.oneCell',sl]);omega;(simp only [maxLen];omega);(intro A' cap' hA'))|refine sT ?_|refine sS ?_|refine sT2 ?_|refine sN ?_|refine sJ ?_|refine sO ?_|refine sM fun _=> ?_|(refine sC ?_ ?_<;>intro hb<;>try omega)|fail)
          all_goals first
            |(exfalso;omega)
            | (refine ⟨(k + 1, A', cap'), hlk, by dsimp only; omega, ?_, by exact sB, ?_⟩
               · dsimp only;rw [hsn];exact sB
               · dsimp only;rw [hsn];exact mS)
        · have hpos:0<Fk.length:=RQ.2 h0
          have hset:=G9 (h:=hi) (x:=x) h0
          rw [hpl] at hset
          refine eK (A:=A2) pK (by omega) fun g2 hA=> ?_
          subst hA
          rw [hpl]
          repeat' (first|(apply ak (d:=37);exact rfl;apply aj (j:=k);exact rfl;exact rfl;exact hlk)|(apply ak (d:=38);exact rfl;apply bD;exact rfl;exact pK;exact hrd)|(apply ak (d:=53);exact rfl;apply dI (a:=Fk.length);exact rfl;exact rfl;omega;(simp only [maxLen];omega))|(apply ak (d:=56);exact rfl;apply aj (j:=Fk.length - 1);exact rfl;exact rfl;omega)|(apply gC (v:=fC (x - 1)) (off:=0+(Fk.length - 1)*2+1);exact rfl;exact rfl;exact pK;exact rfl;(rw [aH jv,hpl];omega);rw [hset])|(apply ak;exact rfl;apply nI;(iterate 5 exact rfl))|(apply bO (A:=some g2) (m:=1);(iterate 3 exact rfl);exact pK;(intro w hm;exact hm.cells_own pK);exact rfl;(simp [Value.oneCell',sl]);omega;(simp only [maxLen];omega);(intro A' cap' hA'))|refine sT ?_|refine sS ?_|refine sT2 ?_|refine sN ?_|refine sJ ?_|refine sO ?_|refine sM fun _=> ?_|(refine sC ?_ ?_<;>intro hb<;>try omega)|fail)
          all_goals first
            |(exfalso;omega)
            | (refine ⟨(k + 1, A', cap'), hlk, by dsimp only; omega, ?_, by exact sB, ?_⟩
               · dsimp only;rw [hsn,List.length_append,hpl2];exact sB
               · dsimp only;rw [hsn,List.length_append,hpl2,List.flatMap_append];exact mS)
      · have hin2: ¬ pq lo hi x=true:=by simp only [pq,Qu,decide_eq_true_eq];exact hin
        rw [if_neg hin2] at hfs
        repeat' (first|(apply ak (d:=37);exact rfl;apply aj (j:=k);exact rfl;exact rfl;exact hlk)|(apply ak (d:=38);exact rfl;apply bD;exact rfl;exact pK;exact hrd)|refine sT ?_|refine sS ?_|refine sT2 ?_|refine sN ?_|refine sJ ?_|refine sO ?_|refine sM fun _=> ?_|(refine sC ?_ ?_<;>intro hb<;>try omega)|fail)
        all_goals first
          |(exfalso;omega)
          | (refine ⟨(k + 1, A2, c2), hlk, by dsimp only; omega, ?_, by exact sB, ?_⟩
             · dsimp only;rw [hfs];exact sB
             · dsimp only;rw [hfs];exact mS)
    · have e:k=C.length:=by omega
      subst e
      rw [Rx]
      repeat' (first|refine sT ?_|refine sS ?_|refine sT2 ?_|refine sM fun _=> ?_|(refine sC ?_ ?_<;>intro hb<;>try omega)|fail)
      all_goals first
        |(exfalso;omega)
        |(exact cf eIO rfl rfl mS ⟨A2,c2,rfl,rfl⟩)
end Go.SL
namespace Go.SL
open Go Go.Proofs
attribute [local irreducible] W WL WQ WG WA WX WLI WR WT WC WE RW thn blk bF scp aR bk bJ aL FnIn FnP ceP
section
variable {P:Program} {w0:World} {s:az} {H:List Blk} {ty:TypeId}
theorem Ji {t e hi m c sz:Nat} {A:Option Nat} {x q r:Operand} {k k' :IntKind} [ht:Und P t (.slice e)] [hz:Size P e sz] (hx:ev s x=some (sl A m c)) (hq:ev s q=some (.int k (hi:Nat))) (hr:ev s r=some (.int k' (hi:Nat))) (h2:hi≤c):
  VOp P w0 s H (.slice t x none (some q) (some r)) ty (sl A hi hi):=fun ρ w _ _ _ _ hρ _=>by
 obtain ⟨i,hi1,hi2⟩:=hz.out
 have e2:((hi:Nat):Int)≤((c:Nat):Int):=by omega
 have e3:((0:Nat):Int)≤((hi:Nat):Int):=by omega
 have e4:(A.map fun g=>(⟨g,0,none⟩:Addr)).map (·.add 0)=A.map fun g=>⟨g,0,none⟩:=by cases A<;>simp [cH]
 unfold sl at hx ⊢
 simp [execOp,hρ x _ hx,hρ q _ hq,hρ r _ hr,Instr.sliceAt,run_underlying ht.out,Instr.slice,Instr.sliceBounds,Instr.sliceBound,asIntOf,sizeOf,typeInfo,hi1,h2]
 intro _
 cases A<;>simp [cH]
end
attribute [local irreducible] VOp
theorem GV {w0 w:World} {H:List Blk} {A:Option Nat} {cap i:Nat} {L:List Et} (hm:Mem w0 w H) (hi:In (.own A 52 3 L.length cap (L.flatMap aK)) H) (h:i≤L.length):Reads w (sl A i i) i ((L.take i).flatMap aK):=by
 have h1:=Reads.of_own hm hi
 obtain ⟨A',c',e,h2,h3,h4⟩:=h1
 unfold sl at e
 cases e
 refine ⟨_,_,rfl,Qq _,by omega,fun hp=> ?_⟩
 obtain ⟨g,o,e,hr⟩:=h4 (by omega)
 refine ⟨g,o,e,?_⟩
 rw [← ju bz]
 exact hr.take
set_option maxHeartbeats 8000000 in
theorem HM (L:List Et) (i:Nat) (hi:i≤L.length) (x:Et) (A:Option Nat) (cap:Nat) (hL:L.length≤1000000) (w0:World) (R:List Blk):
  FnIn Tryz.prog 47 [sl A L.length cap,.int .i64 (i:Int),.agg (aK x).toArray] w0 (.own A 52 3 L.length cap (L.flatMap aK)::R) fun v H=> ∃ A' c,v=sl A' (L.length+1) c∧H= .own A' 52 3 (L.length+1) c ((L.take i++x::L.drop i).flatMap aK)::R:=by
 refine dx Tryz.func47 rfl Tryz.ntmps47 rfl ?_
 refine NZ (A:=A) .hd fun hle=> ?_
 repeat' (first|refine sT ?_|refine sS ?_|refine sM fun _=> ?_|(refine sC ?_ ?_<;>intro hb<;>try omega)|fail)
 rename_i g5
 have hrd:=fun (w:World) (H:List Blk) (hi2:In (.own A 52 3 L.length cap (L.flatMap aK)) H) (hm:Mem w0 w H)=>GV hm hi2 hi
 have hdr:(((L.flatMap aK).drop (i*3)).take ((L.length - i)*3))=(L.drop i).flatMap aK:=by
  rw [lg bz]
  exact QY (by rw [aH bz,Qz];exact Qq _)
 have hrd2:=fun (w:World) (H:List Blk) (hi2:In (.own A 52 3 L.length cap (L.flatMap aK)) H) (hm:Mem w0 w H)=>hdr ▸ (Reads.of_own hm hi2).cut (lo:=i) (hi:=L.length) hi (Qq _)
 refine jc (id:=1) [5,6,10] [] [.box g5 52 (aK x),.own A 52 3 L.length cap (L.flatMap aK)] (by kernel_rfl) (by kernel_rfl) (by kernel_rfl) mS ?_
 repeat' (first|(apply di (d:=10);(iterate 3 exact rfl);apply Ji (hi:=i);(iterate 3 exact rfl);omega)|(apply di (d:=16);(iterate 3 exact rfl);apply lu (lo:=i) (hi:=L.length);exact rfl;exact ⟨_,rfl⟩;exact rfl;exact hi;exact hle)|(apply CW (d:=13) (n' :=i) (m:=1);(iterate 3 exact rfl);(intro w hm;exact hrd w _ pK hm);exact aH bz _|>.trans (by rw [QD];congr 1;omega);(intro w hm;exact hm.cells_own pK);exact rfl;(intro u hu;simp [aK] at hu;rcases hu with rfl|rfl|rfl<;>rfl);omega;omega;(simp only [maxLen];omega);intro g13 c13)|(apply ck (d:=17) (n' :=i+1) (m:=L.length - i);(iterate 3 exact rfl);exact pK;(intro w hm;exact hrd2 w _ pK hm);(rw [aH bz,Qz]);exact py _;omega;(simp only [maxLen];omega);intro A17 c17 h17)|refine sT ?_|refine sS ?_|refine sW ?_|refine sM fun _=> ?_|(refine sC ?_ ?_<;>intro hb<;>try omega)|(refine sCW ?_ ?_<;>intro hb<;>try omega)|fail)
 have e1:i+1+(L.length - i)=L.length+1:=by omega
 have e2:(L.take i++x::L.drop i).flatMap aK=(L.take i).flatMap aK++ [.int .i64 x.at_.col,.int .i64 x.at_.row,.string x.input]++(L.drop i).flatMap aK:=by
  rw [QE,QA,QH]
  rfl
 rw [e2,e1]
 exact cf (.inl rfl) rfl rfl (H' := .own A17 52 3 (L.length+1) c17 ((L.take i).flatMap aK++ [.int .i64 x.at_.col,.int .i64 x.at_.row,.string x.input]++(L.drop i).flatMap aK)::R) mS ⟨A17,c17,rfl,rfl⟩
end Go.SL
namespace Go.SL
open Go Go.Proofs
attribute [local irreducible] W WL WQ WG WA WX WLI WR WT WC VOp RW thn blk bF scp aR bk bJ aL FnIn FnP ceP
def Lv.end (y:Lv) (x:Cx) (t:Tk) (fn:Int) (n k m:Nat) (r:Out):Prop:=n≤1000∧k≤y.k∧y.out.length+k≤m+y.k∧
 ((y.a=0∧y.e=0∧y.k≤x.toks.length∧n≤y.out.length∧cR x.fin t fn n ⟨x.toks.drop y.k,y.out⟩=some r)∨(y.e≠0∧y.k≤x.toks.length+1∧r= .error (y.a,y.e)))
def Lv.arg (y:Lv) (x:Cx) (fn:Int) (n k m:Nat) (r:Out) (f:Nat):Prop:=y.f≤f∧n≤1000∧k≤y.k∧y.out.length+k≤m+y.k∧
 ((y.a=0∧y.e=0∧y.k≤x.toks.length∧n≤y.out.length∧(if (hdT x.fin (x.toks.drop y.k)).kind=11 then bq x.fin y.f (.args fn n) ⟨x.toks.drop (y.k+1),y.out⟩ else some (.ok (n,⟨x.toks.drop y.k,y.out⟩)))=some r)∨(y.e≠0∧y.k≤x.toks.length+1∧r= .error (y.a,y.e)))
theorem x8 {x:Cx} {R H:List Blk} {v:Value} {f f' k m k0 m0 n:Nat} {fn:Int} {p:PS} {r r1:Out} (hf:f≤f') (hr1:zw f fn n x.fin p=some r1) (hm0:p.out.length=m0) (hn:n≤m0) (hm6:m0≤500)
  (hr2:(∃ e,r1= .error e∧r= .error e)∨(∃ n' p',r1= .ok (n',p')∧(if (hdT x.fin p'.l).kind=11 then bq x.fin f (.args fn (n+1)) p'.skip else some (.ok (n+1,p')))=some r)) (hR:RR x k0 m0 R r1 v H) (hk:k≤k0) (hm:m0+k≤m+k0):
  ∃ f2 k2 B2 cb2 o2 a2 e2,(Lv.mk f2 k2 B2 cb2 o2 a2 e2).arg x fn (n+1) k m r f' ∧f2≤f∧H=x.B k2 B2 cb2 o2 a2 e2++R:=by
 obtain ⟨_,hR⟩:=hR
 rcases hr2 with ⟨e,rfl,rfl⟩|⟨n1,p1,rfl,hr2⟩
 ·
  obtain ⟨k1,B1,cb1,o1,h1,h2,h3,h4,rfl⟩:=hR
  exact ⟨f,k1,B1,cb1,o1,e.1,e.2,⟨hf,by omega,by dsimp only;omega,by dsimp only;omega,.inr ⟨h1,h2,rfl⟩⟩,Nat.le_refl _,rfl⟩
 ·
  obtain ⟨k1,B1,cb1,h1,h2,h3,h4,rfl⟩:=hR
  have hg:=rj hr1
  refine ⟨f,k1,B1,cb1,p1.out,0,0,⟨hf,by omega,by dsimp only;omega,by dsimp only;omega,.inl ⟨rfl,rfl,h1,by dsimp only;omega,?_⟩⟩,Nat.le_refl _,rfl⟩
  dsimp only
  rw [h2] at hr2
  have e1:p1.skip=⟨x.toks.drop (k1+1),p1.out⟩:=by simp only [PS.skip,h2,Ta]
  have e2:p1=⟨x.toks.drop k1,p1.out⟩:=by obtain ⟨l,o⟩:=p1;simp only at h2;rw [h2]
  rw [e1] at hr2
  rw [← e2]
  exact hr2
set_option maxHeartbeats 4000000 in
theorem JU (f:Nat) (t:Tk) (ih: ∀ f' ≤f,od f' (.level 1) 195 [.int .i64 1]) (x:Cx) (k:Nat) (p:PS) (B:Option Nat) (cb:Nat) (r:Out) (R:List Blk) (w0:World) (hk:k<x.toks.length) (hp:p.l=x.toks.drop k) (hout:p.out.length≤k) (ht:hdT x.fin p.l=t) (ht7:t.kind=7) (hrun:vU f t x.fin p=some r):
    FnIn Tryz.prog 348 [.pointer (some ⟨x.g,0,none⟩),.agg (ba t).toArray] w0 (x.B (k+1) B cb p.out 0 0++R) (RR x (k+1) p.out.length R r):=by
  refine dx Tryz.func348 rfl Tryz.ntmps348 rfl ?_
  have hxt:=x.ht
  have hF:=fun w=>uE t.text w
  have h9:(hdT x.fin p.skip.l).kind=9:=by
    have hc:=x.hc.drop k
    rw [← hp] at hc
    exact hc.name (by rw [ht];exact ht7)
  have hd9: ∃ u,hdT x.fin (x.toks.drop (k+1))=u∧u.kind=9:=⟨_,rfl,by rw [← Cx.skip hp];exact h9⟩
  obtain ⟨u9,hd9,hu9⟩:=hd9
  have hlt9:=Cx.lt hd9 (by omega)
  unfold vU at hrun
  have hfn:(aY t.text).2=0→1≤(aY t.text).1∧(aY t.text).1≤50:=by
    intro h
    have hb1:=iJ cW t.text 0 (by omega)
    rw [iH] at hb1
    unfold aY at h ⊢
    split at h
    · cases h
    · rename_i hne
      rw [if_neg hne]
      dsimp only
      omega
  obtain ⟨fn,fe,hfe⟩: ∃ fn fe,aY t.text=(fn,fe):=⟨_,_,rfl⟩
  rw [hfe] at hrun hF hfn
  dsimp only at hF hfn
  by_cases h0:fe≠0
  · rw [if_pos h0] at hrun
    cases hrun
    repeat' (first|(apply aa (f:=364);exact rfl;exact rfl;(intro w' _;exact hF w'))|(apply aw (f:=196);exact rfl;exact rfl;exact FnIn.msub (fk x.g x.sa x.A _ x.cap (k+1) B _ cb 0 0 _ _ _ _) (MSub.pick pK (.refl _));rintro _ _ ⟨rfl,rfl⟩)|refine sT ?_|refine sS ?_|refine sN ?_|refine sM fun _=> ?_|(refine sC ?_ ?_<;>intro hb<;>try omega)|exact cT|fail)
    all_goals first
      |(exfalso;omega)
      | (refine eQ (x' := (t.at_, 10)) (k' := k + 1) (out' := p.out) (B' := B) (cb' := cb) eIO rfl (by simp) (by omega) (Qq _) (Qq _) ?_
         simp only [Cx.B,rB,Qy,Qm,Qn]
         exact mS)
  rw [if_neg h0] at hrun
  have hfe0:fe=0:=Classical.not_not.1 h0
  subst hfe0
  obtain ⟨hf1,hf2⟩:=hfn rfl
  rw [if_neg (by rw [h9];simp)] at hrun
  have hp2:p.skip.skip.l=x.toks.drop (k+1+1):=Cx.skip (Cx.skip hp)
  obtain ⟨u,hd⟩: ∃ u,hdT x.fin (x.toks.drop (k+1+1))=u:=⟨_,rfl⟩
  rw [hp2,hd] at hrun
  have e2:p.skip.skip=⟨x.toks.drop (k+1+1),p.out⟩:=by
    have:p.skip.skip=⟨p.skip.skip.l,p.out⟩:=rfl
    rw [this,hp2]
  rw [e2] at hrun
  repeat' (first|(apply aa (f:=364);exact rfl;exact rfl;(intro w' _;exact hF w'))|(apply aw (f:=347);exact rfl;exact rfl;exact FnIn.msub (kR 9 (QC x.hsa (by decide)) (QC x.ht (by decide)) (by omega) (B:=B) (cb:=cb) (out:=p.out) (at_:=0) (e:=0) (g:=x.g) (A:=x.A) (cap:=x.cap) hd9 hu9 _ w0) (MSub.pick pK (MSub.pick pK (MSub.pick pK (MSub.refl _))));rintro _ _ ⟨rfl,rfl⟩)|(rename_i g3;refine E8 (id:=6) (ι:=Nat × Lv) [0,3,4] rfl (fun y=> [(6,.int .i64 (y.1:Int))]) (fun y=> .box g3 228 (ba t)::y.2.H x R) (fun y=>y.2.end x t fn y.1 (k+1+1) p.out.length r) ?_ ?_)|refine sT ?_|refine sS ?_|refine sN ?_|refine sM fun _=> ?_|(refine sC ?_ ?_<;>intro hb<;>try omega)|exact cT|fail)
  · by_cases h10:u.kind=10
    · rw [if_pos h10] at hrun
      repeat' (first|(apply ak;exact rfl;apply cL;exact rfl;exact rfl)|(apply aa (f:=197);exact rfl;exact rfl;exact fun w hm=>Cx.next hd (B:=B) (cb:=cb) (out:=p.out) (at_:=0) (e:=0) (MSub.pick pK (MSub.pick pK (MSub.pick pK (MSub.nil _)))) w hm)|(refine cG (0,⟨0,k+1+1,B,cb,p.out,0,0⟩) ?_ sB (by simp only [Lv.H,Cx.B,rB,Qm,Qn];exact mS))|refine sT ?_|refine sS ?_|refine sN ?_|refine sM fun _=> ?_|(refine sC ?_ ?_<;>intro hb<;>try omega)|exact cT|fail)
      all_goals first|(exfalso;omega)|exact ⟨Nat.zero_le _,Nat.le_refl _,by dsimp only;omega,.inl ⟨rfl,rfl,by dsimp only;omega,Nat.zero_le _,hrun⟩⟩
    · rw [if_neg h10] at hrun
      obtain ⟨r0,hr0,hrend⟩:=bC hrun
      cases f with
      |zero=>cases hr0
      |succ f=>
        rw [zu] at hr0
        obtain ⟨r1,hr1,hr2⟩:=bC hr0
        have hA0:=p7 f fn 0 hf1 hf2 (ih f (SX f))
        repeat' (first|(apply ak;exact rfl;apply cL;exact rfl;exact rfl)|(apply aa (f:=197);exact rfl;exact rfl;exact fun w hm=>Cx.next hd (B:=B) (cb:=cb) (out:=p.out) (at_:=0) (e:=0) (MSub.pick pK (MSub.pick pK (MSub.pick pK (MSub.nil _)))) w hm)|(apply aw (f:=365);exact rfl;exact rfl;exact FnIn.msub (hA0 x (k+1+1) ⟨x.toks.drop (k+1+1),p.out⟩ B cb r1 _ w0 (by omega) rfl (by dsimp only;omega) hr1) (MSub.pick pK (MSub.pick pK (MSub.pick pK (MSub.refl _))));rintro v1 H1 hR;obtain ⟨f2,k2,B2,cb2,o2,a2,e2,hy,_,rfl⟩:=x8 (f' :=f) (k:=k+1+1) (m:=p.out.length) (Nat.le_refl _) hr1 rfl (Nat.zero_le _) (by dsimp only;omega) hr2 hR (Nat.le_refl _) (Nat.le_refl _))|refine sT ?_|refine sS ?_|refine sN ?_|refine sM fun _=> ?_|(refine sC ?_ ?_<;>intro hb<;>try omega)|exact cT|fail)
        all_goals try (exfalso;omega)
        refine ax [0,3,4] rfl (fun y:Nat × Lv=> [(6,.int .i64 (y.1:Int))]) (fun y=> .box g3 228 (ba t)::y.2.H x R) (fun y=>y.2.arg x fn y.1 (k+1+1) p.out.length r0 f) (fun y=>y.2.m) (1,⟨f2,k2,B2,cb2,o2,a2,e2⟩) hy sB (by simp only [Lv.H,Cx.B,rB,Qy,Qm,Qn];exact mS) ?_
        clear hy hR hr1 hr2 hr0
        rintro ⟨n,f',k1,B1,cb1,o1,a,e⟩ ⟨hf',hn,h3,h4,hor⟩
        dsimp only at hf' hn h3 h4 hor
        simp only [Lv.H]
        rcases hor with ⟨rfl,rfl,h1,hno,hr2⟩|⟨h1,h2,rfl⟩
        · obtain ⟨u1,hd1⟩: ∃ u,hdT x.fin (x.toks.drop k1)=u:=⟨_,rfl⟩
          rw [hd1] at hr2
          by_cases h11:u1.kind=11
          · rw [if_pos h11] at hr2
            have hlt1:=Cx.lt hd1 (by omega)
            cases f' with
            |zero=>cases hr2
            |succ f' =>
              rw [zu] at hr2
              obtain ⟨r2,hr3,hr4⟩:=bC hr2
              have hA1:=p7 f' fn n hf1 hf2 (ih f' (by omega))
              repeat' (first|(apply ak;exact rfl;apply cL;exact rfl;exact rfl)|(apply aa (f:=197);exact rfl;exact rfl;exact fun w hm=>Cx.next hd1 (B:=B1) (cb:=cb1) (out:=o1) (at_:=0) (e:=0) (MSub.pick pK (MSub.pick pK (MSub.pick pK (MSub.nil _)))) w hm)|(apply aw (f:=365);exact rfl;exact rfl;exact FnIn.msub (hA1 x (k1+1) ⟨x.toks.drop (k1+1),o1⟩ B1 cb1 r2 _ w0 hlt1 rfl (by dsimp only;omega) hr3) (MSub.pick pK (MSub.pick pK (MSub.pick pK (MSub.refl _))));rintro v1 H1 hR;obtain ⟨f2,k2,B2,cb2,o2,a2,e2,hy,hff,rfl⟩:=x8 (f' :=f) (k:=k+1+1) (m:=p.out.length) (by omega) hr3 rfl hno (by dsimp only;omega) hr4 hR (by omega) (by dsimp only;omega))|refine sT ?_|refine sS ?_|refine sN ?_|refine sM fun _=> ?_|(refine sC ?_ ?_<;>intro hb<;>try omega)|exact cT|fail)
              all_goals first|(exfalso;omega)|(exfalso;simp_all;done)|skip
              refine ⟨(n+1,⟨f2,k2,B2,cb2,o2,a2,e2⟩),hy,(by simp only [Lv.m,if_true];split<;>omega),sB,sB,?_⟩
              simp only [Lv.H,Cx.B,rB,Qy,Qm,Qn]
              exact mS
          · rw [if_neg h11] at hr2
            cases hr2
            repeat' (first|(apply ak;exact rfl;apply cL;exact rfl;exact rfl)|(apply aa (f:=197);exact rfl;exact rfl;exact fun w hm=>Cx.next hd1 (B:=B1) (cb:=cb1) (out:=o1) (at_:=0) (e:=0) (MSub.pick pK (MSub.pick pK (MSub.pick pK (MSub.nil _)))) w hm)|(refine cG (n,⟨0,k1,B1,cb1,o1,0,0⟩) ?_ sB (by simp only [Lv.H,Cx.B,rB,Qy,Qm,Qn];exact mS))|refine sT ?_|refine sS ?_|refine sN ?_|refine sM fun _=> ?_|(refine sC ?_ ?_<;>intro hb<;>try omega)|exact cT|fail)
            all_goals first|(exfalso;omega)|(exfalso;simp_all;done)|skip
            rcases hrend with ⟨e,h,_⟩|⟨n3,p3,h,h7⟩
            · cases h
            · cases h
              exact ⟨hn,h3,h4,.inl ⟨rfl,rfl,h1,hno,h7⟩⟩
        · repeat' (first|(refine cG (n,⟨0,k1,B1,cb1,o1,a,e⟩) ?_ sB (by simp only [Lv.H,Cx.B,rB,Qy,Qm,Qn];exact mS))|refine sT ?_|refine sS ?_|refine sN ?_|refine sM fun _=> ?_|(refine sC ?_ ?_<;>intro hb<;>try omega)|exact cT|fail)
          all_goals first|(exfalso;omega)|exact absurd (by assumption) h1|skip
          rcases hrend with ⟨e',h,h8⟩|⟨n3,p3,h,h7⟩
          · cases h
            exact ⟨hn,h3,h4,.inr ⟨h1,h2,h8⟩⟩
          · cases h
  · rintro ⟨n,f',k1,B1,cb1,o1,a,e⟩ ⟨hn,h3,h4,hor⟩
    dsimp only at hn h3 h4 hor
    simp only [Lv.H]
    clear hrun
    rcases hor with ⟨rfl,rfl,h1,hno,hend⟩|⟨h1,h2,rfl⟩
    rotate_left
    · repeat' (first|refine sT ?_|refine sS ?_|refine sN ?_|refine sM fun _=> ?_|(refine sC ?_ ?_<;>intro hb<;>try omega)|exact cT|fail)
      all_goals first
        |(exfalso;omega)
        |exact absurd (by assumption) h1
        | (refine eQ (x' := (a, e)) (k' := k1) (out' := o1) (B' := B1) (cb' := cb1) eIO rfl h1 h2 (by omega) (by omega) ?_
           simp only [Cx.B,rB,Qy,Qm,Qn]
           exact mS)
    have hA:=fun w=>jT fn w
    have hak:=j8 (fn:=fn) (by simp [cX,hf1,hf2])
    have hap:=xZ hf1 hf2
    rw [hak] at hap
    obtain ⟨least,most,hlm⟩: ∃ a b,bM fn=(a,b):=⟨_,_,rfl⟩
    rw [hlm] at hak hA hap
    dsimp only at hak hA hap
    obtain ⟨u1,hd1⟩: ∃ u,hdT x.fin (x.toks.drop k1)=u:=⟨_,rfl⟩
    by_cases h10:u1.kind≠10
    · have hr' :r= .error (u1.at_,4):=by
        simp only [cR,hd1,if_pos h10] at hend
        exact (Option.some.inj hend).symm
      subst hr'
      repeat' (first|(apply aw (f:=347);exact rfl;exact rfl;exact FnIn.msub (uF 10 (QC x.hsa (by decide)) (QC x.ht (by decide)) (B:=B1) (cb:=cb1) (out:=o1) (at_:=0) (e:=0) (g:=x.g) (A:=x.A) (cap:=x.cap) hd1 h10 _ w0) (MSub.pick pK (MSub.pick pK (MSub.pick pK (MSub.refl _))));rintro _ _ ⟨rfl,rfl⟩)|(apply aa (f:=327);exact rfl;exact rfl;(intro w' _;exact hA w'))|(apply aw (f:=196);exact rfl;exact rfl;exact FnIn.msub (fk x.g x.sa x.A _ x.cap k1 B1 _ cb1 u1.at_ 4 _ _ _ _) (MSub.pick pK (.refl _));rintro _ _ ⟨rfl,rfl⟩)|refine sT ?_|refine sS ?_|refine sN ?_|refine sM fun _=> ?_|(refine sC ?_ ?_<;>intro hb<;>try omega)|exact cT|fail)
      all_goals first
        |(exfalso;omega)
        |(exfalso;simp_all;done)
        | (refine eQ (x' := (u1.at_, 4)) (k' := k1) (out' := o1) (B' := B1) (cb' := cb1) eIO rfl (by simp) (by omega) (by omega) (by (try simp only [Qk, Qo]); omega) ?_
           simp only [Cx.B,rB,Qk,Qo,QE,QA,QP,Qr,Qy,Qm,Qn]
           exact mS)
    have h10:u1.kind=10:=Classical.not_not.1 h10
    have hlt1:=Cx.lt hd1 (by omega)
    by_cases hr:(n:Int)<least∨most<(n:Int)
    · have hr' :r= .error (t.at_,11):=by
        simp only [cR,hd1,h10,hak,if_pos hr] at hend
        exact (Option.some.inj hend).symm
      subst hr'
      repeat' (first|(apply aw (f:=347);exact rfl;exact rfl;exact FnIn.msub (kR 10 (QC x.hsa (by decide)) (QC x.ht (by decide)) (by omega) (B:=B1) (cb:=cb1) (out:=o1) (at_:=0) (e:=0) (g:=x.g) (A:=x.A) (cap:=x.cap) hd1 h10 _ w0) (MSub.pick pK (MSub.pick pK (MSub.pick pK (MSub.refl _))));rintro _ _ ⟨rfl,rfl⟩)|(apply aa (f:=327);exact rfl;exact rfl;(intro w' _;exact hA w'))|(apply aw (f:=196);exact rfl;exact rfl;exact FnIn.msub (fk x.g x.sa x.A _ x.cap (k1+1) B1 _ cb1 0 0 _ _ _ _) (MSub.pick pK (.refl _));rintro _ _ ⟨rfl,rfl⟩)|refine sT ?_|refine sS ?_|refine sN ?_|refine sM fun _=> ?_|(refine sC ?_ ?_<;>intro hb<;>try omega)|exact cT|fail)
      all_goals first
        |(exfalso;omega)
        |(exfalso;simp_all;done)
        | (refine eQ (x' := (t.at_, 11)) (k' := k1 + 1) (out' := o1) (B' := B1) (cb' := cb1) eIO rfl (by simp) (by omega) (by omega) (by (try simp only [Qk, Qo]); omega) ?_
           simp only [Cx.B,rB,Qk,Qo,QE,QA,QP,Qr,Qy,Qm,Qn]
           exact mS)
    have hpos:0<o1.length:=by omega
    obtain ⟨xn,hx⟩: ∃ xn,o1[o1.length - 1]? =some xn:=⟨_,Ql (by omega)⟩
    rw [vE (p:=⟨x.toks.drop k1,o1⟩) hx] at hend
    dsimp only at hend
    rw [hd1,hak,if_neg (by rw [h10];simp)] at hend
    dsimp only at hend
    rw [if_neg hr] at hend
    refine eK (A:=B1) (by simp only [Cx.B,rB,Qy,Qm,Qn];exact pK) hpos fun gb hB=> ?_
    subst hB
    by_cases hkx:46≤fn∧xn.kind≠2∧xn.kind≠3
    · rw [if_pos hkx] at hend
      cases hend
      repeat' (first|(apply aw (f:=347);exact rfl;exact rfl;exact FnIn.msub (kR 10 (QC x.hsa (by decide)) (QC x.ht (by decide)) (by omega) (B:=some gb) (cb:=cb1) (out:=o1) (at_:=0) (e:=0) (g:=x.g) (A:=x.A) (cap:=x.cap) hd1 h10 _ w0) (MSub.pick pK (MSub.pick pK (MSub.pick pK (MSub.refl _))));rintro _ _ ⟨rfl,rfl⟩)|(apply aa (f:=327);exact rfl;exact rfl;(intro w' _;exact hA w'))|(apply gF (id:=19);kernel_rfl;kernel_rfl)|(apply aS;exact rfl;apply dI;exact rfl;exact rfl;exact hpos;(simp only [maxLen];omega))|(apply aS;exact rfl;apply aj;exact rfl;exact rfl;omega)|(apply aS;exact rfl;apply jP (k:=0);exact eu;exact rfl;exact pK;decide;exact hx;exact rfl)|(apply aw (f:=196);exact rfl;exact rfl;exact FnIn.msub (fk x.g x.sa x.A _ x.cap (k1+1) (some gb) _ cb1 0 0 _ _ _ _) (MSub.pick pK (.refl _));rintro _ _ ⟨rfl,rfl⟩)|(apply aO;(iterate 3 exact rfl);exact pK;exact pK;exact rfl;(simp [bT,Value.oneCell']);omega;(simp only [maxLen];omega);intro g8 c8)|refine sT ?_|refine sS ?_|refine sQ ?_|refine sN ?_|refine sNQ ?_|refine sM fun _=> ?_|(refine sC ?_ ?_<;>intro hb<;>try omega)|(refine sCQ ?_ ?_<;>intro hb<;>try omega)|exact cT|fail)
      all_goals first
        |(exfalso;omega)
        |(exfalso;simp_all;done)
        | (refine eQ (x' := (t.at_, 4)) (k' := k1 + 1) (out' := o1 ++ [⟨7, bG, aM, 0, fn, n⟩]) (B' := some g8) (cb' := c8) eIO rfl (by simp) (by omega) (by omega) (by (try simp only [Qk, Qo]); omega) ?_
           simp only [Cx.B,rB,Qk,Qo,QE,QA,QP,Qr,Qy,Qm,Qn]
           exact mS)
    · rw [if_neg hkx] at hend
      cases hend
      repeat' (first|(apply aw (f:=347);exact rfl;exact rfl;exact FnIn.msub (kR 10 (QC x.hsa (by decide)) (QC x.ht (by decide)) (by omega) (B:=some gb) (cb:=cb1) (out:=o1) (at_:=0) (e:=0) (g:=x.g) (A:=x.A) (cap:=x.cap) hd1 h10 _ w0) (MSub.pick pK (MSub.pick pK (MSub.pick pK (MSub.refl _))));rintro _ _ ⟨rfl,rfl⟩)|(apply aa (f:=327);exact rfl;exact rfl;(intro w' _;exact hA w'))|(apply gF (id:=19);kernel_rfl;kernel_rfl)|(apply aS;exact rfl;apply dI;exact rfl;exact rfl;exact hpos;(simp only [maxLen];omega))|(apply aS;exact rfl;apply aj;exact rfl;exact rfl;omega)|(apply aS;exact rfl;apply jP (k:=0);exact eu;exact rfl;exact pK;decide;exact hx;exact rfl)|(apply aO;(iterate 3 exact rfl);exact pK;exact pK;exact rfl;(simp [bT,Value.oneCell']);omega;(simp only [maxLen];omega);intro g8 c8)|refine sT ?_|refine sS ?_|refine sQ ?_|refine sN ?_|refine sNQ ?_|refine sM fun _=> ?_|(refine sC ?_ ?_<;>intro hb<;>try omega)|(refine sCQ ?_ ?_<;>intro hb<;>try omega)|exact cT|fail)
      all_goals first
        |(exfalso;omega)
        |(exfalso;simp_all;done)
        | (refine jC (k' := k1 + 1) (p' := PS.put (PS.skip ⟨x.toks.drop k1, o1⟩) ⟨7, bG, aM, 0, fn, n⟩) (B' := some g8) (cb' := c8) eIO rfl hlt1 (Cx.skip rfl) (by omega) (by simp only [PS.put, PS.skip, Qk, Qo]; omega) ?_
           simp only [PS.put,PS.skip,Cx.B,rB,Qk,Qo,QE,QA,QP,Qr,Qy,Qm,Qn]
           exact mS)
end Go.SL
namespace Go.SL
open Go Go.Proofs
def lh (p:Nat × Nat):List Value:= [.int .i64 (p.1:Int),.int .i64 (p.2:Int)]
theorem JJ (w:World) (d:Nat) (a b:Nat × Nat):(Op.equalIn (d+5) 189 (.agg (lh a).toArray) (.agg (lh b).toArray)).run Tryz.prog w= .ok (decide (a=b)) w:=by
 obtain ⟨i,h1,h2⟩:=(inferInstance:Size Tryz.prog 3 1).out
 have hc:Tryz.prog.cellsOf 3=1:=by kernel_rfl
 rw [run_equalIn_array w (d+4) (lh a).toArray (lh b).toArray Tryz.underlying189 h1,hc,show List.range 2= [0,1] from rfl]
 have hr: ∀ (a b:Int) w,(Op.equalIn (d+4) 3 (.int .i64 a) (.int .i64 b)).run Tryz.prog w= .ok (a==b) w:=fun a b w=>run_equalIn_int w (d+3) 3 .i64 .i64 a b Tryz.underlying3
 have hpa: ∀ (c:Nat × Nat) w,(part 3 (lh c).toArray 0).run Tryz.prog w= .ok (.int .i64 (c.1:Int)) w:=by
  intro c w
  simp [part,go_sem,lh]
 have hpb: ∀ (c:Nat × Nat) w,(part 3 (lh c).toArray 1).run Tryz.prog w= .ok (.int .i64 (c.2:Int)) w:=by
  intro c w
  simp [part,go_sem,lh]
 have he:decide (a=b)=((a.1:Int)==b.1 && (a.2:Int)==b.2):=by
  obtain ⟨a1,a2⟩:=a
  obtain ⟨b1,b2⟩:=b
  rw [Rs]
  simp
  omega
 rw [he]
 by_cases h1:((a.1:Int)==b.1)=true<;>by_cases h2:((a.2:Int)==b.2)=true<;>simp [Op.eqItems,hpa,hpb,hr,h1,h2]
theorem Fb {w0:World} {s:az} {H:List Blk} {ty t' :TypeId} {x y:Operand} {a b:Nat × Nat} {c:Bool} (hc:decide (a=b)=c) (hx:ev s x=some (.agg (lh a).toArray)) (hy:ev s y=some (.agg (lh b).toArray)):VOp Tryz.prog w0 s H (.binOp .eql 189 x y t') ty (.bool c):=fun ρ w _ _ _ _ hρ _=>by
 subst hc
 have h:=JJ w 9995 a b
 simp only [Nat.reduceAdd] at h
 simp only [execOp,hρ x _ hx,hρ y _ hy,Sem.run_bind,run_eqGuard_agg w _ _ _ _ _ _ Tryz.eqGuardType189,Result.andThen_ok,run_eql_struct,h,Sem.run_pure]
end Go.SL
namespace Go.SL
open Go Go.Proofs
attribute [local irreducible] W WL WQ WG WA WX WLI WR WT WC WE VOp RW thn blk bF scp aR bk bJ aL FnIn FnP ceP
theorem FI {a b:Rct} (h:(dO a b).2=true):aJ (dO a b).1=true:=by
 unfold dO at h ⊢
 split at h
 ·
  rename_i hall
  rw [if_pos hall]
  simp only [ST,List.all_nil,Rp,Qu] at hall
  exact hall.2.2
 ·
  cases h
theorem Cs (r:Rct) (L:List Rl) (x:Rl):aV r (L++ [x])=aV r L++if (dO x.rect r).2=true then [((dO x.rect r).1.c1,(dO x.rect r).1.c2)] else []:=by
 unfold aV;simp
theorem AH (r:Rct) (L:List Rl) (x:Rl):aU r (L++ [x])=aU r L++if (dO x.rect r).2=true then [((dO x.rect r).1.r1,(dO x.rect r).1.r2)] else []:=by
 unfold aU;simp
theorem d9 (r:Rct): ∀ L:List Rl,(aV r L).length≤L.length
 | []=>Qq _
 |x::L=>by
  have:=d9 r L
  unfold aV at this ⊢
  rw [QA,Qk]
  split<;>simp only [QF,SQ]<;>omega
theorem dV (r:Rct): ∀ L:List Rl,(aU r L).length≤L.length
 | []=>Qq _
 |x::L=>by
  have:=dV r L
  unfold aU at this ⊢
  rw [QA,Qk]
  split<;>simp only [QF,SQ]<;>omega
theorem qu {r:Rct} {L:List Rl}: ∀ p∈aV r L,0≤p.1∧p.1≤100000∧0≤p.2∧p.2≤100000:=fun p hp=>by
 obtain ⟨x,_,hx⟩:=RB.1 hp
 split at hx
 ·
  rename_i h
  have:=da.1 (FI h)
  rw [QO.1 hx]
  simp only;omega
 ·
  cases hx
theorem pV {r:Rct} {L:List Rl}: ∀ p∈aU r L,0≤p.1∧p.1≤100000∧0≤p.2∧p.2≤100000:=fun p hp=>by
 obtain ⟨x,_,hx⟩:=RB.1 hp
 split at hx
 ·
  rename_i h
  have:=da.1 (FI h)
  rw [QO.1 hx]
  simp only;omega
 ·
  cases hx
def rD (g:Nat) (A:Option Nat) (c:Nat) (C:List (Int × Int)):List Blk:= [.box g 232 [sl A C.length c],.own A 189 2 C.length c (C.flatMap df)]
set_option maxHeartbeats 8000000 in
theorem FF (r:Rct) (L:List Rl) (lv:Value) (gr gc gw:Nat) (A1 A2:Option Nat) (c1 c2:Nat) (C D:List (Int × Int)) (R:List Blk) (w0:World) (hl:Reads w0 lv L.length (L.flatMap bw)) (hC:C.length+L.length≤100000) (hD:D.length+L.length≤100000):
  FnIn Tryz.prog 180 [lv,.pointer (some ⟨gr,0,none⟩),.pointer (some ⟨gc,0,none⟩),.pointer (some ⟨gw,0,none⟩)] w0 (.box gr 32 (bK r)::(rD gc A1 c1 C++(rD gw A2 c2 D++R))) fun v H=>
   v= .tuple #[]∧ ∃ A1' c1' A2' c2',H= .box gr 32 (bK r)::(rD gc A1' c1' (C++aV r L)++(rD gw A2' c2' (D++aU r L)++R)):=by
 obtain ⟨Al,cl,rfl,hl1,hl2,hl3⟩:=hl
 refine dx Tryz.func180 rfl Tryz.ntmps180 rfl ?_
 simp only [rD,Qy,Qm,Qn]
 repeat' (first|refine sT ?_|refine sS ?_|refine sM fun _=> ?_|(refine sC ?_ ?_<;>intro hb<;>try omega)|fail)
 refine ax [1,2,3,9,10] rfl (fun y:Nat × Option Nat × Nat × Option Nat × Nat=> [(11,.int .i64 (y.1:Int))]) (fun y=> .box gr 32 (bK r):: .box gc 232 [sl y.2.1 (C++aV r (L.take y.1)).length y.2.2.1]:: .own y.2.1 189 2 (C++aV r (L.take y.1)).length y.2.2.1 ((C++aV r (L.take y.1)).flatMap df):: .box gw 232 [sl y.2.2.2.1 (D++aU r (L.take y.1)).length y.2.2.2.2]:: .own y.2.2.2.1 189 2 (D++aU r (L.take y.1)).length y.2.2.2.2 ((D++aU r (L.take y.1)).flatMap df)::R) (fun y=>y.1≤L.length) (fun y=>L.length - y.1) (0,A1,c1,A2,c2) (Qt _) sB (by simp only [RI,aV,aU,QP,Qr];exact mS) ?_
 rintro ⟨i,A1,c1,A2,c2⟩ hi
 dsimp only at hi ⊢
 by_cases hlt:i<L.length
 ·
  obtain ⟨gl,ol,rfl,hrl⟩:=hl3 (by omega)
  have he1:=hrl.elem dA i hlt
  have hcs:=Cs r (L.take i) L[i]
  have hws:=AH r (L.take i) L[i]
  rw [← Qv hlt] at hcs hws
  have hcl:=d9 r (L.take i)
  have hwl:=dV r (L.take i)
  rw [QD] at hcl hwl
  generalize L[i]=x at he1 hcs hws
  have hM:=fun w=>F2 x.rect r w
  generalize dO x.rect r=mt at hM hcs hws
  obtain ⟨mr,mb⟩:=mt
  dsimp only at hM hcs hws
  generalize aV r (L.take i)=C1 at hcs hcl ⊢
  generalize aU r (L.take i)=D1 at hws hwl ⊢
  have hCl:(C++C1).length≤200000:=by rw [Qk];omega
  have hDl:(D++D1).length≤200000:=by rw [Qk];omega
  have hC2:C++aV r (L.take (i+1))=(C++C1)++if mb=true then [(mr.c1,mr.c2)] else []:=by rw [hcs,QH]
  have hD2:D++aU r (L.take (i+1))=(D++D1)++if mb=true then [(mr.r1,mr.r2)] else []:=by rw [hws,QH]
  generalize C++C1=C3 at hC2 hCl ⊢
  generalize D++D1=D3 at hD2 hDl ⊢
  cases mb
  ·
   rw [if_neg (by decide),Qr] at hC2 hD2
   repeat' (first|(apply aa;exact rfl;exact rfl;(intro w hm;exact hM w))|refine sT ?_|refine sS ?_|refine sN ?_|refine sO ?_|refine sM fun _=> ?_|(refine sC ?_ ?_<;>intro hb<;>try omega)|fail)
   all_goals first
    |(exfalso;omega)
    |(refine ⟨(i+1,A1,c1,A2,c2),hlt,by dsimp only;omega,by exact sB,by exact sB,?_⟩;dsimp only;rw [hC2,hD2];exact mS)
  ·
   rw [if_pos rfl] at hC2 hD2
   have hC4:(C3++ [(mr.c1,mr.c2)]).flatMap df=C3.flatMap df++ [.int .i64 mr.c1,.int .i64 mr.c2]:=by simp [df]
   have hD4:(D3++ [(mr.r1,mr.r2)]).flatMap df=D3.flatMap df++ [.int .i64 mr.r1,.int .i64 mr.r2]:=by simp [df]
   repeat' (first|(apply aa;exact rfl;exact rfl;(intro w hm;exact hM w))|(apply ak;exact rfl;apply nI;(iterate 5 exact rfl))|(apply bO (d:=30) (A:=A1) (m:=1);(iterate 3 exact rfl);exact pK;(intro w hm;exact hm.cells_own pK);exact rfl;(simp [Value.oneCell',sl]);omega;(simp only [maxLen];omega);(intro A3 c3 hA3))|(apply bO (d:=38) (A:=A2) (m:=1);(iterate 3 exact rfl);exact pK;(intro w hm;exact hm.cells_own pK);exact rfl;(simp [Value.oneCell',sl]);omega;(simp only [maxLen];omega);(intro A4 c4 hA4))|refine sT ?_|refine sS ?_|refine sN ?_|refine sO ?_|refine sM fun _=> ?_|(refine sC ?_ ?_<;>intro hb<;>try omega)|fail)
   all_goals first
    |(exfalso;omega)
    |(refine ⟨(i+1,A3,c3,A4,c4),hlt,by dsimp only;omega,by exact sB,by exact sB,?_⟩;dsimp only;rw [hC2,hD2,hC4,hD4,List.length_append,List.length_append];exact mS)
 ·
  have e:i=L.length:=by omega
  subst e
  rw [Rx]
  repeat' (first|refine sT ?_|refine sS ?_|refine sM fun _=> ?_|(refine sC ?_ ?_<;>intro hb<;>try omega)|fail)
  all_goals first
   |(exfalso;omega)
   |(exact fM eIO rfl (.refl _) ⟨rfl,A1,c1,A2,c2,rfl⟩)
end Go.SL
namespace Go.SL
open Go Go.Proofs
attribute [local irreducible] W WL WQ WG WA WX WLI WR WT WC VOp RW thn blk bF scp aR bk bJ aL FnIn FnP ceP
set_option maxHeartbeats 4000000 in
theorem Bf (f:Nat) (ih: ∀ f' ≤f,od f' (.level 1) 195 [.int .i64 1]):od (f+1) .prim 324 []:=by
  intro x k p B cb r R w0 hk hp hout hrun
  refine dx Tryz.func324 rfl Tryz.ntmps324 rfl ?_
  have hxt:=x.ht
  dsimp only at hrun
  obtain ⟨t,ht⟩: ∃ t,hdT x.fin p.l=t:=⟨_,rfl⟩
  have hd:hdT x.fin (x.toks.drop k)=t:=hp ▸ ht
  have hN:=fun w hm=>Cx.next hd (B:=B) (cb:=cb) (out:=p.out) (at_:=0) (e:=0) (w0:=w0) (H:=x.B k B cb p.out 0 0++R) ⟨R,.refl _⟩ w hm
  by_cases h7:t.kind=7
  · rw [xv _ _ _ (by rw [ht];exact h7),ht] at hrun
    have hlt:=Cx.lt hd (by omega)
    have hC:=JU f t ih x k p B cb r
    repeat' (first|(apply aa (f:=197);exact rfl;exact rfl;exact hN)|(apply aw (f:=348);exact rfl;exact rfl;exact FnIn.msub (hC _ w0 hlt hp hout ht h7 hrun) (MSub.pick pK (MSub.pick pK (MSub.pick pK (MSub.refl _))));rintro v1 H1 ⟨rfl,hR⟩)|refine sT ?_|refine sS ?_|refine sN ?_|refine sM fun _=> ?_|(refine sC ?_ ?_<;>intro hb<;>try omega)|fail)
    all_goals try (exfalso;omega)
    cases r with
    |error e=>
      obtain ⟨k1,B1,cb1,o1,j1,j2,j3,j4,rfl⟩:=hR
      refine eQ (k' :=k1) (out' :=o1) (B' :=B1) (cb' :=cb1) eIO rfl j1 j2 (by omega) (by omega) ?_
      simp only [Cx.B,rB,Qy,Qm,Qn]
      exact mS
    |ok y=>
      obtain ⟨n1,p1⟩:=y
      obtain ⟨k1,B1,cb1,j1,j2,j3,j4,rfl⟩:=hR
      refine jC (k' :=k1) (p' :=p1) (B' :=B1) (cb' :=cb1) eIO rfl j1 j2 (by omega) (by omega) ?_
      simp only [Cx.B,rB,Qy,Qm,Qn]
      exact mS
  rw [bq] at hrun
  dsimp only at hrun
  rw [ht] at hrun
  by_cases h14:1≤t.kind∧t.kind≤4
  · rw [if_pos h14] at hrun
    have hlt:=Cx.lt hd (by omega)
    cases hrun
    rcases (by omega:t.kind=1∨t.kind=2∨t.kind=3∨t.kind=4) with hc|hc|hc|hc
    · have hl:lN t=⟨1,⟨1,t.num,av⟩,aM,0,0,0⟩:=by simp [lN,hc]
      rw [hl]
      repeat' (first|(apply aa (f:=197);exact rfl;exact rfl;exact hN)|refine sT ?_|refine sS ?_|refine sN ?_|refine sM fun _=> ?_|(refine sC ?_ ?_<;>intro hb<;>try omega)|fail)
      all_goals try (exfalso;omega)
      refine jd 14 rfl (by kernel_rfl) ?_
      ((with_reducible apply aP (i:=0));exact rfl;exact rfl;decide+kernel;decide+kernel;decide+kernel;exact nP;(intro _ _;exact vP))
      ((with_reducible apply aP (i:=1));exact rfl;exact rfl;decide+kernel;decide+kernel;decide+kernel;exact nP;(intro _ _;exact vP))
      ((with_reducible apply aP (i:=2));exact rfl;exact rfl;decide+kernel;decide+kernel;decide+kernel;exact nP;(intro _ _;exact vP))
      ((with_reducible apply aP (i:=3));exact rfl;exact rfl;decide+kernel;decide+kernel;decide+kernel;exact nP;(intro _ _;exact vP))
      ((with_reducible apply aP (i:=5));exact rfl;exact rfl;decide+kernel;decide+kernel;decide+kernel;exact nP;(intro _ _;exact vP))
      repeat' (first|(apply cO (i:=4) (j:=6);exact rfl;exact rfl;decide+kernel)|(apply cO (i:=4) (j:=7);exact rfl;exact rfl;decide+kernel)|(apply cO (i:=4) (j:=8);exact rfl;exact rfl;decide+kernel)|(apply cO (i:=4) (j:=9);exact rfl;exact rfl;decide+kernel)|(apply aG (i:=4);exact rfl;decide+kernel)|(apply aG (i:=5);exact rfl;decide+kernel)|(apply aG (i:=6);exact rfl;decide+kernel)|(apply aG (i:=7);exact rfl;decide+kernel)|(apply aG (i:=8);exact rfl;decide+kernel)|(apply aG (i:=9);exact rfl;decide+kernel)|(apply aG (i:=10);exact rfl;decide+kernel)|(apply aG (i:=11);exact rfl;decide+kernel)|(apply aG (i:=12);exact rfl;decide+kernel)|(apply aG (i:=13);exact rfl;decide+kernel)|(apply jb;decide+kernel)|(apply aO;(iterate 3 exact rfl);exact pK;exact pK;exact rfl;(simp [bT,Value.oneCell']);omega;(simp only [maxLen];omega);intro g8 c8)|refine sT ?_|refine sS ?_|refine sN ?_|refine sM fun _=> ?_|(refine sC ?_ ?_<;>intro hb<;>try omega)|fail)
      all_goals first
        |(exfalso;omega)
        | (refine jC (k' := k + 1) (p' := p.skip.put ⟨1, ⟨1, t.num, av⟩, aM, 0, 0, 0⟩) (B' := some g8) (cb' := c8) eIO rfl hlt (Cx.skip hp) (SX k) (by simp only [PS.put, PS.skip, Qk, Qo]; omega) ?_
           simp only [PS.put,PS.skip,Cx.B,rB,Qk,Qo,QE,QA,QP,Qr,Qy,Qm,Qn]
           exact mS)
    · have hl:lN t=⟨1,⟨3,0,t.text⟩,aM,0,0,0⟩:=by simp [lN,hc]
      rw [hl]
      repeat' (first|(apply aa (f:=197);exact rfl;exact rfl;exact hN)|refine sT ?_|refine sS ?_|refine sN ?_|refine sM fun _=> ?_|(refine sC ?_ ?_<;>intro hb<;>try omega)|fail)
      all_goals try (exfalso;omega)
      refine jd 14 rfl (by kernel_rfl) ?_
      ((with_reducible apply aP (i:=0));exact rfl;exact rfl;decide+kernel;decide+kernel;decide+kernel;exact nP;(intro _ _;exact vP))
      ((with_reducible apply aP (i:=1));exact rfl;exact rfl;decide+kernel;decide+kernel;decide+kernel;exact nP;(intro _ _;exact vP))
      ((with_reducible apply aP (i:=2));exact rfl;exact rfl;decide+kernel;decide+kernel;decide+kernel;exact nP;(intro _ _;exact vP))
      ((with_reducible apply aP (i:=3));exact rfl;exact rfl;decide+kernel;decide+kernel;decide+kernel;exact nP;(intro _ _;exact vP))
      ((with_reducible apply aP (i:=5));exact rfl;exact rfl;decide+kernel;decide+kernel;decide+kernel;exact nP;(intro _ _;exact vP))
      repeat' (first|(apply cO (i:=4) (j:=6);exact rfl;exact rfl;decide+kernel)|(apply cO (i:=4) (j:=7);exact rfl;exact rfl;decide+kernel)|(apply cO (i:=4) (j:=8);exact rfl;exact rfl;decide+kernel)|(apply cO (i:=4) (j:=9);exact rfl;exact rfl;decide+kernel)|(apply aG (i:=4);exact rfl;decide+kernel)|(apply aG (i:=5);exact rfl;decide+kernel)|(apply aG (i:=6);exact rfl;decide+kernel)|(apply aG (i:=7);exact rfl;decide+kernel)|(apply aG (i:=8);exact rfl;decide+kernel)|(apply aG (i:=9);exact rfl;decide+kernel)|(apply aG (i:=10);exact rfl;decide+kernel)|(apply aG (i:=11);exact rfl;decide+kernel)|(apply aG (i:=12);exact rfl;decide+kernel)|(apply aG (i:=13);exact rfl;decide+kernel)|(apply jb;decide+kernel)|(apply aO;(iterate 3 exact rfl);exact pK;exact pK;exact rfl;(simp [bT,Value.oneCell']);omega;(simp only [maxLen];omega);intro g8 c8)|refine sT ?_|refine sS ?_|refine sN ?_|refine sM fun _=> ?_|(refine sC ?_ ?_<;>intro hb<;>try omega)|fail)
      all_goals first
        |(exfalso;omega)
        | (refine jC (k' := k + 1) (p' := p.skip.put ⟨1, ⟨3, 0, t.text⟩, aM, 0, 0, 0⟩) (B' := some g8) (cb' := c8) eIO rfl hlt (Cx.skip hp) (SX k) (by simp only [PS.put, PS.skip, Qk, Qo]; omega) ?_
           simp only [PS.put,PS.skip,Cx.B,rB,Qk,Qo,QE,QA,QP,Qr,Qy,Qm,Qn]
           exact mS)
    · have hl:lN t=⟨1,⟨2,t.num,av⟩,aM,0,0,0⟩:=by simp [lN,hc]
      rw [hl]
      repeat' (first|(apply aa (f:=197);exact rfl;exact rfl;exact hN)|refine sT ?_|refine sS ?_|refine sN ?_|refine sM fun _=> ?_|(refine sC ?_ ?_<;>intro hb<;>try omega)|fail)
      all_goals try (exfalso;omega)
      refine jd 14 rfl (by kernel_rfl) ?_
      ((with_reducible apply aP (i:=0));exact rfl;exact rfl;decide+kernel;decide+kernel;decide+kernel;exact nP;(intro _ _;exact vP))
      ((with_reducible apply aP (i:=1));exact rfl;exact rfl;decide+kernel;decide+kernel;decide+kernel;exact nP;(intro _ _;exact vP))
      ((with_reducible apply aP (i:=2));exact rfl;exact rfl;decide+kernel;decide+kernel;decide+kernel;exact nP;(intro _ _;exact vP))
      ((with_reducible apply aP (i:=3));exact rfl;exact rfl;decide+kernel;decide+kernel;decide+kernel;exact nP;(intro _ _;exact vP))
      ((with_reducible apply aP (i:=5));exact rfl;exact rfl;decide+kernel;decide+kernel;decide+kernel;exact nP;(intro _ _;exact vP))
      repeat' (first|(apply cO (i:=4) (j:=6);exact rfl;exact rfl;decide+kernel)|(apply cO (i:=4) (j:=7);exact rfl;exact rfl;decide+kernel)|(apply cO (i:=4) (j:=8);exact rfl;exact rfl;decide+kernel)|(apply cO (i:=4) (j:=9);exact rfl;exact rfl;decide+kernel)|(apply aG (i:=4);exact rfl;decide+kernel)|(apply aG (i:=5);exact rfl;decide+kernel)|(apply aG (i:=6);exact rfl;decide+kernel)|(apply aG (i:=7);exact rfl;decide+kernel)|(apply aG (i:=8);exact rfl;decide+kernel)|(apply aG (i:=9);exact rfl;decide+kernel)|(apply aG (i:=10);exact rfl;decide+kernel)|(apply aG (i:=11);exact rfl;decide+kernel)|(apply aG (i:=12);exact rfl;decide+kernel)|(apply aG (i:=13);exact rfl;decide+kernel)|(apply jb;decide+kernel)|(apply aO;(iterate 3 exact rfl);exact pK;exact pK;exact rfl;(simp [bT,Value.oneCell']);omega;(simp only [maxLen];omega);intro g8 c8)|refine sT ?_|refine sS ?_|refine sN ?_|refine sM fun _=> ?_|(refine sC ?_ ?_<;>intro hb<;>try omega)|fail)
      all_goals first
        |(exfalso;omega)
        | (refine jC (k' := k + 1) (p' := p.skip.put ⟨1, ⟨2, t.num, av⟩, aM, 0, 0, 0⟩) (B' := some g8) (cb' := c8) eIO rfl hlt (Cx.skip hp) (SX k) (by simp only [PS.put, PS.skip, Qk, Qo]; omega) ?_
           simp only [PS.put,PS.skip,Cx.B,rB,Qk,Qo,QE,QA,QP,Qr,Qy,Qm,Qn]
           exact mS)
    · have hl:lN t=⟨1,⟨4,t.num,av⟩,aM,0,0,0⟩:=by simp [lN,hc]
      rw [hl]
      repeat' (first|(apply aa (f:=197);exact rfl;exact rfl;exact hN)|refine sT ?_|refine sS ?_|refine sN ?_|refine sM fun _=> ?_|(refine sC ?_ ?_<;>intro hb<;>try omega)|fail)
      all_goals try (exfalso;omega)
      refine jd 14 rfl (by kernel_rfl) ?_
      ((with_reducible apply aP (i:=0));exact rfl;exact rfl;decide+kernel;decide+kernel;decide+kernel;exact nP;(intro _ _;exact vP))
      ((with_reducible apply aP (i:=1));exact rfl;exact rfl;decide+kernel;decide+kernel;decide+kernel;exact nP;(intro _ _;exact vP))
      ((with_reducible apply aP (i:=2));exact rfl;exact rfl;decide+kernel;decide+kernel;decide+kernel;exact nP;(intro _ _;exact vP))
      ((with_reducible apply aP (i:=3));exact rfl;exact rfl;decide+kernel;decide+kernel;decide+kernel;exact nP;(intro _ _;exact vP))
      ((with_reducible apply aP (i:=5));exact rfl;exact rfl;decide+kernel;decide+kernel;decide+kernel;exact nP;(intro _ _;exact vP))
      repeat' (first|(apply cO (i:=4) (j:=6);exact rfl;exact rfl;decide+kernel)|(apply cO (i:=4) (j:=7);exact rfl;exact rfl;decide+kernel)|(apply cO (i:=4) (j:=8);exact rfl;exact rfl;decide+kernel)|(apply cO (i:=4) (j:=9);exact rfl;exact rfl;decide+kernel)|(apply aG (i:=4);exact rfl;decide+kernel)|(apply aG (i:=5);exact rfl;decide+kernel)|(apply aG (i:=6);exact rfl;decide+kernel)|(apply aG (i:=7);exact rfl;decide+kernel)|(apply aG (i:=8);exact rfl;decide+kernel)|(apply aG (i:=9);exact rfl;decide+kernel)|(apply aG (i:=10);exact rfl;decide+kernel)|(apply aG (i:=11);exact rfl;decide+kernel)|(apply aG (i:=12);exact rfl;decide+kernel)|(apply aG (i:=13);exact rfl;decide+kernel)|(apply jb;decide+kernel)|(apply aO;(iterate 3 exact rfl);exact pK;exact pK;exact rfl;(simp [bT,Value.oneCell']);omega;(simp only [maxLen];omega);intro g8 c8)|refine sT ?_|refine sS ?_|refine sN ?_|refine sM fun _=> ?_|(refine sC ?_ ?_<;>intro hb<;>try omega)|fail)
      all_goals first
        |(exfalso;omega)
        | (refine jC (k' := k + 1) (p' := p.skip.put ⟨1, ⟨4, t.num, av⟩, aM, 0, 0, 0⟩) (B' := some g8) (cb' := c8) eIO rfl hlt (Cx.skip hp) (SX k) (by simp only [PS.put, PS.skip, Qk, Qo]; omega) ?_
           simp only [PS.put,PS.skip,Cx.B,rB,Qk,Qo,QE,QA,QP,Qr,Qy,Qm,Qn]
           exact mS)
  rw [if_neg h14] at hrun
  by_cases h5:t.kind=5
  · rw [if_pos h5] at hrun
    have hlt:=Cx.lt hd (by omega)
    cases hrun
    repeat' (first|(apply aa (f:=197);exact rfl;exact rfl;exact hN)|refine sT ?_|refine sS ?_|refine sN ?_|refine sM fun _=> ?_|(refine sC ?_ ?_<;>intro hb<;>try omega)|fail)
    all_goals try (exfalso;omega)
    refine jd 13 rfl (by kernel_rfl) ?_
    ((with_reducible apply aP (i:=0));exact rfl;exact rfl;decide+kernel;decide+kernel;decide+kernel;exact nP;(intro _ _;exact vP))
    ((with_reducible apply aP (i:=1));exact rfl;exact rfl;decide+kernel;decide+kernel;decide+kernel;exact nP;(intro _ _;exact vP))
    ((with_reducible apply aP (i:=2));exact rfl;exact rfl;decide+kernel;decide+kernel;decide+kernel;exact nP;(intro _ _;exact vP))
    ((with_reducible apply aP (i:=3));exact rfl;exact rfl;decide+kernel;decide+kernel;decide+kernel;exact nP;(intro _ _;exact vP))
    ((with_reducible apply aP (i:=5));exact rfl;exact rfl;decide+kernel;decide+kernel;decide+kernel;exact nP;(intro _ _;exact vP))
    repeat' (first|(apply cO (i:=4) (j:=6);exact rfl;exact rfl;decide+kernel)|(apply cO (i:=4) (j:=7);exact rfl;exact rfl;decide+kernel)|(apply cO (i:=4) (j:=8);exact rfl;exact rfl;decide+kernel)|(apply aG (i:=4);exact rfl;decide+kernel)|(apply aG (i:=5);exact rfl;decide+kernel)|(apply aG (i:=6);exact rfl;decide+kernel)|(apply aG (i:=7);exact rfl;decide+kernel)|(apply aG (i:=8);exact rfl;decide+kernel)|(apply aG (i:=9);exact rfl;decide+kernel)|(apply aG (i:=10);exact rfl;decide+kernel)|(apply aG (i:=11);exact rfl;decide+kernel)|(apply aG (i:=12);exact rfl;decide+kernel)|(apply jb;decide+kernel)|(apply aO;(iterate 3 exact rfl);exact pK;exact pK;exact rfl;(simp [bT,Value.oneCell']);omega;(simp only [maxLen];omega);intro g8 c8)|refine sT ?_|refine sS ?_|refine sN ?_|refine sM fun _=> ?_|(refine sC ?_ ?_<;>intro hb<;>try omega)|fail)
    all_goals first
      |(exfalso;omega)
      | (refine jC (k' := k + 1) (p' := p.skip.put ⟨2, bG, t.rect, 0, 0, 0⟩) (B' := some g8) (cb' := c8) eIO rfl hlt (Cx.skip hp) (SX k) (by simp only [PS.put, PS.skip, Qk, Qo]; omega) ?_
         simp only [PS.put,PS.skip,Cx.B,rB,Qk,Qo,QE,QA,QP,Qr,Qy,Qm,Qn]
         exact mS)
  rw [if_neg h5] at hrun
  by_cases h9:t.kind=9
  · rw [if_pos h9] at hrun
    have hlt:=Cx.lt hd (by omega)
    obtain ⟨r1,hr1,⟨e,rfl,rfl⟩|⟨n1,p1,rfl,hr2⟩⟩:=bC hrun
    · repeat' (first|(apply aa (f:=197);exact rfl;exact rfl;exact hN)|(apply aw (f:=195);exact rfl;exact rfl;exact FnIn.msub (ih f (Qq _) x (k+1) p.skip B cb _ _ w0 hlt (Cx.skip hp) (SZ hout) hr1) (MSub.pick pK (MSub.pick pK (MSub.pick pK (MSub.refl _))));rintro _ _ ⟨rfl,k1,B1,cb1,o1,j1,j2,j3,j4,rfl⟩;replace j4:o1.length+(k+1)≤p.out.length+k1:=j4;obtain ⟨u,hd1⟩: ∃ u,hdT x.fin (x.toks.drop k1)=u:=⟨_,rfl⟩;by_cases h10:u.kind=10)|(apply aw (f:=347);exact rfl;exact rfl;exact FnIn.msub (kR 10 (QC x.hsa (by decide)) (QC x.ht (by decide)) (by omega) (B:=B1) (cb:=cb1) (out:=o1) (at_:=e.1) (e:=e.2) (g:=x.g) (A:=x.A) (cap:=x.cap) hd1 h10 _ w0) (MSub.pick pK (MSub.pick pK (MSub.pick pK (MSub.refl _))));have hlt1:=Cx.lt hd1 (by omega);rintro _ _ ⟨rfl,rfl⟩)|(apply aw (f:=347);exact rfl;exact rfl;exact FnIn.msub (uF 10 (QC x.hsa (by decide)) (QC x.ht (by decide)) (B:=B1) (cb:=cb1) (out:=o1) (at_:=e.1) (e:=e.2) (g:=x.g) (A:=x.A) (cap:=x.cap) hd1 h10 _ w0) (MSub.pick pK (MSub.pick pK (MSub.pick pK (MSub.refl _))));rw [if_neg j1,if_neg j1];rintro _ _ ⟨rfl,rfl⟩)|refine sT ?_|refine sS ?_|refine sN ?_|refine sM fun _=> ?_|(refine sC ?_ ?_<;>intro hb<;>try omega)|fail)
      all_goals first
        |(exfalso;omega)
        | (refine eQ (k' := k1 + 1) (out' := o1) (B' := B1) (cb' := cb1) eIO rfl j1 (by omega) (by omega) (by omega) ?_
           simp only [Cx.B,rB,Qy,Qm,Qn]
           exact mS
           done)
        | (refine eQ (k' := k1) (out' := o1) (B' := B1) (cb' := cb1) eIO rfl j1 (by omega) (by omega) (by omega) ?_
           simp only [Cx.B,rB,Qy,Qm,Qn]
           exact mS)
    · repeat' (first|(apply aa (f:=197);exact rfl;exact rfl;exact hN)|(apply aw (f:=195);exact rfl;exact rfl;exact FnIn.msub (ih f (Qq _) x (k+1) p.skip B cb _ _ w0 hlt (Cx.skip hp) (SZ hout) hr1) (MSub.pick pK (MSub.pick pK (MSub.pick pK (MSub.refl _))));rintro _ _ ⟨rfl,k1,B1,cb1,j1,j2,j3,j4,rfl⟩;replace j4:p1.out.length+(k+1)≤p.out.length+k1:=j4;obtain ⟨u,hd1⟩: ∃ u,hdT x.fin (x.toks.drop k1)=u:=⟨_,rfl⟩;by_cases h10:u.kind=10)|(apply aw (f:=347);exact rfl;exact rfl;exact FnIn.msub (kR 10 (QC x.hsa (by decide)) (QC x.ht (by decide)) (by omega) (B:=B1) (cb:=cb1) (out:=p1.out) (at_:=0) (e:=0) (g:=x.g) (A:=x.A) (cap:=x.cap) hd1 h10 _ w0) (MSub.pick pK (MSub.pick pK (MSub.pick pK (MSub.refl _))));have hlt1:=Cx.lt hd1 (by omega);rintro _ _ ⟨rfl,rfl⟩)|(apply aw (f:=347);exact rfl;exact rfl;exact FnIn.msub (uF 10 (QC x.hsa (by decide)) (QC x.ht (by decide)) (B:=B1) (cb:=cb1) (out:=p1.out) (at_:=0) (e:=0) (g:=x.g) (A:=x.A) (cap:=x.cap) hd1 h10 _ w0) (MSub.pick pK (MSub.pick pK (MSub.pick pK (MSub.refl _))));rintro _ _ ⟨rfl,rfl⟩)|refine sT ?_|refine sS ?_|refine sN ?_|refine sM fun _=> ?_|(refine sC ?_ ?_<;>intro hb<;>try omega)|fail)
      all_goals try (exfalso;omega)
      · rw [j2,hd1,if_neg (by rw [h10];simp)] at hr2
        cases hr2
        refine jC (k' :=k1+1) (p' :=p1.skip) (B' :=B1) (cb' :=cb1) eIO rfl hlt1 (Cx.skip j2) (by omega) (by simp only [PS.skip];omega) ?_
        simp only [PS.skip,Cx.B,rB,Qy,Qm,Qn]
        exact mS
      · rw [j2,hd1,if_pos h10] at hr2
        cases hr2
        refine eQ (x' :=(u.at_,4)) (k' :=k1) (out' :=p1.out) (B' :=B1) (cb' :=cb1) eIO rfl (by simp) (by omega) (by omega) (by omega) ?_
        simp only [Cx.B,rB,Qy,Qm,Qn]
        exact mS
  rw [if_neg h9,if_neg h7] at hrun
  cases hrun
  repeat' (first|(apply aa (f:=197);exact rfl;exact rfl;exact hN)|(apply aw (f:=196);exact rfl;exact rfl;exact FnIn.msub (fk x.g x.sa x.A _ x.cap (k+1) B _ cb 0 0 _ _ _ _) (MSub.pick pK (.refl _));rintro _ _ ⟨rfl,rfl⟩)|refine sT ?_|refine sS ?_|refine sN ?_|refine sM fun _=> ?_|(refine sC ?_ ?_<;>intro hb<;>try omega)|fail)
  all_goals first
    |(exfalso;omega)
    | (refine eQ (x' := (t.at_, 4)) (k' := k + 1) (out' := p.out) (B' := B) (cb' := cb) eIO rfl (by simp) (by omega) (by omega) (by omega) ?_
       simp only [Cx.B,rB,Qy,Qm,Qn]
       exact mS)
theorem DB (f:Nat):(∀ q:Int,1≤q→q≤5→od f (.level q) 195 [.int .i64 q])∧od f .sign 240 []∧od f .pct 287 []∧od f .prim 324 []:=by
 induction f using Nat.strongRecOn with
 |_ f ih=>
  cases f with
  |zero=>
   refine ⟨fun k _ _=> ?_,?_,?_,?_⟩
   all_goals exact fun x k p B cb r R w0 _ _ _ h=>by cases h
  |succ f=>
   refine ⟨fun q h1 h5=>GY f q h1 h5 (fun h4 f' hf' =>(ih f' (by omega)).1 (q+1) (by omega) (by omega)) (ih f (by omega)).2.1,JT f (ih f (by omega)).2.1 (ih f (by omega)).2.2.1,Bg f (ih f (by omega)).2.2.2,Bf f fun f' hf' =>(ih f' (by omega)).1 1 (by omega) (by omega)⟩
end Go.SL
