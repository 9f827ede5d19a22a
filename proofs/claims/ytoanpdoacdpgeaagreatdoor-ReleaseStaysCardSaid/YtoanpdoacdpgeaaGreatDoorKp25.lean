/-
  Lemmas and walks, put together: Ij Jm.
-/
import Derived.Test.YtoanpdoacdpgeaaGreatDoorKp21
set_option linter.unusedSimpArgs false
set_option linter.unusedVariables false
set_option maxRecDepth 20000
namespace Go.SL
open Go Go.Proofs
attribute [local irreducible] W WL WQ WG WA WX WLI WR WT WC WE VOp RW thn blk bF scp aR bk bJ aL FnIn FnP ceP
theorem Cv (o:Ox) (e:Et) (go:Nat) (w:World) (ho:Ro w go 0 (bN o)):ay Tryz.prog 44 [.agg (aK e).toArray,.pointer (some ⟨go,0,none⟩)] w (.bool (eX o.rect e.at_)):=by
 refine aq Tryz.func44 rfl Tryz.ntmps44 rfl ?_
 have h1:=fun w=>LA o.rect e.at_ w
 generalize eX o.rect e.at_=c at h1 ⊢
 have ho2:=(Ox.ro ho).1
 repeat' (first|(apply aa;exact rfl;exact rfl;(intro w hm;exact h1 w))|refine sT ?_|refine sO ?_|refine sM fun _=> ?_|(refine sC ?_ ?_<;>intro hb<;>try omega)|fail)
 all_goals first|(exfalso;omega)|((refine rT1 ?_);rfl)
theorem My {L:List Et} {k:Nat} (h:k<L.length):((L.flatMap aK).drop (0+k*3)).take 3=aK L[k]:=by
 rw [QG];exact dR bz L k h
section
variable (L:List Et) (o:Ox) (go:Nat) (cap:Nat) (R:List Blk) (w0:World)
def iC (o:Ox) (e:Et):Bool:= !eX o.rect e.at_
def KC (o:Ox) (L:List Et):Int:=match L.findIdx? (fun e=>eX o.rect e.at_) with|some i=>(i:Int)|none=> -1
theorem xD {o:Ox} {L:List Et} {i:Nat} (h:i<L.length) (hq:eX o.rect L[i].at_=true) (hno: ∀ j (h:j<L.length),j<i→eX o.rect L[j].at_=false):KC o L=(i:Int)∧L.filter (iC o)=L.take i++(L.drop (i+1)).filter (iC o):=by
 constructor
 ·
  have:L.findIdx? (fun e=>eX o.rect e.at_)=some i:=by
   rw [Si]
   exact ⟨h,hq,fun j hj=>by simpa using hno j (by omega) hj⟩
  unfold KC;rw [this]
 ·
  have h1:(L.take i).filter (iC o)=L.take i:=List.filter_eq_self.2 fun e he=>by
   obtain ⟨j,hj,rfl⟩:=S5.1 he
   rw [QD] at hj
   rw [TJ]
   simp [iC,hno j (by omega) (by omega)]
  conv=>lhs;rw [← RD i L]
  rw [TH,h1,Qs h,Td,if_neg (by simp [iC,hq])]
theorem xE {o:Ox} {L:List Et} (hno: ∀ j (h:j<L.length),eX o.rect L[j].at_=false):KC o L= -1∧L.filter (iC o)=L:=by
 constructor
 ·
  have:L.findIdx? (fun e=>eX o.rect e.at_)=none:=by
   rw [R0]
   intro e he
   obtain ⟨j,hj,rfl⟩:=S5.1 he
   exact hno j hj
  unfold KC;rw [this]
 ·
  refine List.filter_eq_self.2 fun e he=> ?_
  obtain ⟨j,hj,rfl⟩:=S5.1 he
  simp [iC,hno j hj]
theorem KA (B:Option Addr) (cap:Nat) (fv:Value) (F:List Blk) (w0:World):
  FnIn Tryz.prog 104 [.slice B 0 cap,fv] w0 F fun v H=>v= .int .i64 (-1)∧H=F:=by
 refine dx Tryz.func104 rfl Tryz.ntmps104 rfl ?_
 repeat' (first|refine sT ?_|refine sS ?_|refine sM fun _=> ?_|(refine sC ?_ ?_<;>intro hb<;>try omega)|fail)
 refine ax [7] rfl (fun _:Unit=> [(8,.int .i64 0)]) (fun _=>F) (fun _=>True) (fun _=>0) () trivial sB mS ?_
 rintro _ _
 repeat' (first|refine sT ?_|refine sS ?_|refine sM fun _=> ?_|(refine sC ?_ ?_<;>intro hb<;>try omega)|fail)
 all_goals first
  |(exfalso;omega)
  |(refine cf eIO rfl rfl (.refl _) ?_;exact ⟨rfl,rfl⟩)
set_option maxHeartbeats 4000000 in
theorem MP (g:Nat) (hL:L.length≤1000000) (hgo:In (.box go 37 (bN o)) R):
    FnIn Tryz.prog 104 [.slice (some ⟨g,0,none⟩) L.length cap,.func (.func 44) #[] #[.pointer (some ⟨go,0,none⟩)]] w0 (.own (some g) 52 3 L.length cap (L.flatMap aK)::R) fun v H=>v= .int .i64 (KC o L)∧H= .own (some g) 52 3 L.length cap (L.flatMap aK)::R:=by
  refine dx Tryz.func104 rfl Tryz.ntmps104 rfl ?_
  have hP:=fun (e:Et) (w' :World) (H:List Blk) (hi:In (.box go 37 (bN o)) H) (hm:Mem w0 w' H)=>Cv o e go w' (Ro.of_box hm hi)
  repeat' (first|refine sT ?_|refine sS ?_|refine sM fun _=> ?_|(refine sC ?_ ?_<;>intro hb<;>try omega)|fail)
  refine ax [0,1,7] rfl (fun i:Nat=> [(8,.int .i64 (i:Int))]) (fun _=> .own (some g) 52 3 L.length cap (L.flatMap aK)::R) (fun i=>i≤L.length∧ ∀ j (h:j<L.length),j<i→eX o.rect L[j].at_=false) (fun i=>L.length - i) 0 ⟨by omega,fun j _ h=>by omega⟩ sB mS ?_
  rintro i ⟨hi,hno⟩
  by_cases hlt:i<L.length
  · have hr1:=My hlt
    have hP1:=hP L[i]
    obtain ⟨c,hc⟩: ∃ c,eX o.rect L[i].at_=c:=⟨_,rfl⟩
    rw [hc] at hP1
    cases c
    · repeat' (first|(apply ak;exact rfl;apply aj (j:=i);exact rfl;exact rfl;omega)|(apply ak;exact rfl;apply aN;exact rfl;exact pK;exact hr1;exact rfl)|(apply bL (f:=44);exact rfl;exact rfl;infer_instance;exact rfl;(intro w' hm;exact hP1 w' _ (.tl hgo) hm))|refine sT ?_|refine sS ?_|refine sN ?_|refine sM fun _=> ?_|(refine sC ?_ ?_<;>intro hb<;>try omega)|fail)
      all_goals first
        |(exfalso;omega)
        | (refine ⟨i + 1, ⟨hlt, fun j hj hji => ?_⟩, by omega, by exact sB, by exact sB, by exact mS⟩
           rcases (by omega:j<i∨j=i) with h|rfl
           · exact hno j hj h
           · exact hc)
    · repeat' (first|(apply ak;exact rfl;apply aj (j:=i);exact rfl;exact rfl;omega)|(apply ak;exact rfl;apply aN;exact rfl;exact pK;exact hr1;exact rfl)|(apply bL (f:=44);exact rfl;exact rfl;infer_instance;exact rfl;(intro w' hm;exact hP1 w' _ (.tl hgo) hm))|refine sT ?_|refine sS ?_|refine sN ?_|refine sM fun _=> ?_|(refine sC ?_ ?_<;>intro hb<;>try omega)|fail)
      all_goals first
        |(exfalso;omega)
        |(refine cf eIO rfl rfl (.refl _) ?_;rw [(xD hlt hc hno).1];exact ⟨rfl,rfl⟩)
  · have e:=(xE (o:=o) (L:=L) fun j hj=>hno j hj (by omega)).1
    repeat' (first|refine sT ?_|refine sS ?_|refine sM fun _=> ?_|(refine sC ?_ ?_<;>intro hb<;>try omega)|fail)
    all_goals first
      |(exfalso;omega)
      |(refine cf eIO rfl rfl (.refl _) ?_;rw [e];exact ⟨rfl,rfl⟩)
set_option maxHeartbeats 8000000 in
theorem M8 (A:Option Nat) (hL:L.length≤1000000) (hgo:In (.box go 37 (bN o)) R):
    FnIn Tryz.prog 43 [sl A L.length cap,.func (.func 44) #[] #[.pointer (some ⟨go,0,none⟩)]] w0 (.own A 52 3 L.length cap (L.flatMap aK)::R) fun v H=>v=sl A (L.filter (iC o)).length cap∧H= .own A 52 3 (L.filter (iC o)).length cap ((L.filter (iC o)).flatMap aK)::R:=by
  refine dx Tryz.func43 rfl Tryz.ntmps43 rfl ?_
  refine NZ (A:=A) .hd fun hle=> ?_
  rcases Rz L.length with h0|hpos
  · have e:L= []:=QV h0
    subst e
    have hI:=KA (A.map fun g=>⟨g,0,none⟩) cap (.func (.func 44) #[] #[.pointer (some ⟨go,0,none⟩)]) (.own A 52 3 0 cap []::R) w0
    repeat' (first|(apply aw (f:=104);exact rfl;exact rfl;exact hI;rintro _ _ ⟨rfl,rfl⟩)|refine sT ?_|refine sS ?_|refine sN ?_|refine sM fun _=> ?_|(refine sC ?_ ?_<;>intro hb<;>try omega)|fail)
    all_goals first
      |(exfalso;omega)
      |(refine cf eIO rfl rfl (.refl _) ?_;exact ⟨rfl,rfl⟩)
  · refine eK (A:=A) .hd hpos fun g hA=> ?_
    subst hA
    have hP:=fun (e:Et) (w' :World) (H:List Blk) (hi:In (.box go 37 (bN o)) H) (hm:Mem w0 w' H)=>Cv o e go w' (Ro.of_box hm hi)
    have hI:=MP L o go cap R w0 g hL hgo
    rcases hfi:L.findIdx? (fun e=>eX o.rect e.at_) with _|k
    · have hno: ∀ j (h:j<L.length),eX o.rect L[j].at_=false:=fun j hj=>by
        simpa using R0.1 hfi L[j] (Re hj)
      obtain ⟨e1,e2⟩:=xE (o:=o) (L:=L) hno
      rw [e1] at hI
      rw [e2]
      repeat' (first|(apply aw (f:=104);exact rfl;exact rfl;exact hI;rintro _ _ ⟨rfl,rfl⟩)|refine sT ?_|refine sS ?_|refine sN ?_|refine sM fun _=> ?_|(refine sC ?_ ?_<;>intro hb<;>try omega)|fail)
      all_goals first
        |(exfalso;omega)
        |(refine cf eIO rfl rfl (.refl _) ?_;exact ⟨rfl,rfl⟩)
    · obtain ⟨hkl,hq,hno⟩:=Si.1 hfi
      obtain ⟨e1,e2⟩:=xD (o:=o) (L:=L) hkl hq fun j hj hjk=>by simpa using hno j hjk
      rw [e1] at hI
      rw [e2]
      repeat' (first|(apply aw (f:=104);exact rfl;exact rfl;exact hI;rintro _ _ ⟨rfl,rfl⟩)|refine sT ?_|refine sS ?_|refine sN ?_|refine sM fun _=> ?_|(refine sC ?_ ?_<;>intro hb<;>try omega)|fail)
      all_goals try (exfalso;omega)
      refine ax [0,1] rfl (fun y:Nat × Nat × List Et=> [(6,.int .i64 (y.1:Int)),(5,.int .i64 (y.2.1:Int))]) (fun y=> .own (some g) 52 3 L.length cap (y.2.2.flatMap aK)::R) (fun y=>k+1≤y.1∧y.1≤L.length∧y.2.1<y.1∧y.2.2.length=L.length∧y.2.2.take y.2.1=L.take k++((L.drop (k+1)).take (y.1 - (k+1))).filter (iC o)∧ ∀ j,y.1≤j→y.2.2[j]? =L[j]?) (fun y=>L.length - y.1) (k+1,k,L) ⟨Qq _,by omega,SU k,rfl,by simp,fun _ _=>rfl⟩ sB mS ?_
      rintro ⟨j,i,ys⟩ ⟨hj1,hj2,hij,hyl,hyt,hyj⟩
      dsimp only at hj1 hj2 hij hyl hyt hyj ⊢
      by_cases hlt:j<L.length
      · have hjy:j<ys.length:=by omega
        have hr1:=My (L:=ys) hjy
        have he1:ys[j]=L[j]:=by
          have:=hyj j (by omega)
          rw [Ql hjy,Ql hlt] at this
          exact Option.some.inj this
        rw [he1] at hr1
        have hst:((L.drop (k+1)).take (j+1 - (k+1))).filter (iC o)=((L.drop (k+1)).take (j - (k+1))).filter (iC o)++(if iC o L[j] then [L[j]] else []):=by
          rw [show j+1 - (k+1)=j - (k+1)+1 by omega,Qv (by rw [Qz];omega),TH,List.getElem_drop]
          congr 1
          rw [show L[k+1+(j - (k+1))]'(by omega)=L[j] by congr 1;omega,Td,List.filter_nil]
        have hP1:=hP L[j]
        obtain ⟨c,hc⟩: ∃ c,eX o.rect L[j].at_=c:=⟨_,rfl⟩
        rw [hc] at hP1
        cases c with
        |true=>
          rw [if_neg (by simp [iC,hc]),Qr] at hst
          repeat' (first|(apply ak;exact rfl;apply aj (j:=j);exact rfl;exact rfl;omega)|(apply ak;exact rfl;apply aN;exact rfl;exact pK;exact hr1;exact rfl)|(apply bL (f:=44);exact rfl;exact rfl;infer_instance;exact rfl;(intro w' hm;exact hP1 w' _ (.tl (.tl hgo)) hm))|refine sT ?_|refine sS ?_|refine sN ?_|refine sM fun _=> ?_|(refine sC ?_ ?_<;>intro hb<;>try omega)|fail)
          all_goals first
            |(exfalso;omega)
            |(refine ⟨(j+1,i,ys),⟨by dsimp only;omega,by dsimp only;omega,by dsimp only;omega,hyl,by dsimp only;rw [hyt,hst],fun t ht=>hyj t (by dsimp only at ht;omega)⟩,by dsimp only;omega,by exact sB,by exact sB,by exact mS⟩;done)
        |false=>
          rw [if_pos (by simp [iC,hc])] at hst
          have hput:=BW bz ys i (by omega) L[j]
          repeat' (first|(apply ak;exact rfl;apply aj (j:=j);exact rfl;exact rfl;omega)|(apply ak;exact rfl;apply aj (j:=i);exact rfl;exact rfl;omega)|(apply ak;exact rfl;apply aN;exact rfl;exact pK;exact hr1;exact rfl)|(apply bL (f:=44);exact rfl;exact rfl;infer_instance;exact rfl;(intro w' hm;exact hP1 w' _ (.tl (.tl hgo)) hm))|(apply oO (vs:=aK L[j]) (off:=0+i*3);exact rfl;exact rfl;exact pK;exact rfl;exact rfl;(intro u hu;simp [aK] at hu;rcases hu with rfl|rfl|rfl<;>rfl);(rw [aH bz,hyl];omega);rw [QG,hput])|refine sT ?_|refine sS ?_|refine sN ?_|refine sM fun _=> ?_|(refine sC ?_ ?_<;>intro hb<;>try omega)|fail)
          all_goals first
            |(exfalso;omega)
            | (refine ⟨(j + 1, i + 1, ys.set i L[j]), ⟨by dsimp only; omega, by dsimp only; omega, by dsimp only; omega, by dsimp only; rw [List.length_set, hyl], ?_, fun t ht => ?_⟩, by dsimp only; omega, by exact sB, by exact sB, by exact mS⟩
               · dsimp only
                 rw [Qv (by rw [SP];omega),List.take_set_of_le (Qq _),hyt,List.getElem_set_self,hst,QH]
               · dsimp only at ht ⊢
                 rw [List.getElem?_set_ne (by omega)]
                 exact hyj t (by omega))
      · have hjl:j=L.length:=by omega
        have htk:(L.drop (k+1)).take (L.length - (k+1))=L.drop (k+1):=QY (by rw [Qz];exact Qq _)
        rw [hjl,htk] at hyt
        have hcl:(L.take k++(L.drop (k+1)).filter (iC o)).length=i:=by rw [← hyt,QD,hyl];omega
        have hiL:i<L.length:=by omega
        repeat' (first|(apply ak;exact rfl;apply qG (lo:=i);exact rfl;exact rfl;omega;exact hle)|(apply zO (sz:=3) (k:=i) (n' :=L.length);exact rfl;omega;exact pK;(intro u hu;simp [Value.cells] at hu;rcases hu with rfl|rfl<;>rfl);exact rfl)|(apply ak;exact rfl;apply wX (hi:=i);exact rfl;exact rfl;omega)|refine sT ?_|refine sS ?_|refine sN ?_|refine sM fun _=> ?_|(refine sC ?_ ?_<;>intro hb<;>try omega)|fail)
        all_goals first
          |(exfalso;omega)
          | (refine cf eIO rfl rfl (H' := .own (some g) 52 3 i cap ((ys.flatMap aK).take (i * 3)) :: R) mS ?_
             rw [ju bz,hyt,hcl]
             exact ⟨rfl,rfl⟩)
end
theorem zF (L:List Rl) (tv:Value) (w:World) (ht:Reads w tv L.length (L.flatMap bw)) (hlen:L.length≤1000000):
  aL Tryz.prog 36 [tv] w fun v H=> ∃ A cap,v=sl A L.length cap∧H= [.own A 54 7 L.length cap (L.flatMap bw)]:=by
 refine aq Tryz.func36 rfl Tryz.ntmps36 rfl ?_
 have hl:(L.flatMap bw).length=L.length*7:=aH dA L
 refine aC 54 7 ?_
 repeat' (first|(apply ck (n' :=0) (c:=0) (A:=none) (m:=L.length);(iterate 3 exact rfl);exact pK;(intro w hm;exact ht.of_w0 hm);exact hl;exact vH L;omega;(simp only [maxLen];omega);intro A' cap' hA)|refine sT ?_|refine sM fun _=> ?_|(refine sC ?_ ?_<;>intro hb<;>try omega)|fail)
 exact cf (.inl rfl) Tryz.results36 rfl (H' := [.own A' 54 7 (0+L.length) cap' ([]++L.flatMap bw)]) mS ⟨A',cap',by rw [QG],by rw [QG];rfl⟩
theorem wM (L:List Ev) (tv:Value) (w:World) (ht:Reads w tv L.length (L.flatMap aZ)) (hlen:L.length≤1000000):
  aL Tryz.prog 38 [tv] w fun v H=> ∃ A cap,v=sl A L.length cap∧H= [.own A 58 9 L.length cap (L.flatMap aZ)]:=by
 refine aq Tryz.func38 rfl Tryz.ntmps38 rfl ?_
 have hl:(L.flatMap aZ).length=L.length*9:=aH iB L
 refine aC 58 9 ?_
 repeat' (first|(apply ck (n' :=0) (c:=0) (A:=none) (m:=L.length);(iterate 3 exact rfl);exact pK;(intro w hm;exact ht.of_w0 hm);exact hl;exact vK L;omega;(simp only [maxLen];omega);intro A' cap' hA)|refine sT ?_|refine sM fun _=> ?_|(refine sC ?_ ?_<;>intro hb<;>try omega)|fail)
 exact cf (.inl rfl) Tryz.results38 rfl (H' := [.own A' 58 9 (0+L.length) cap' ([]++L.flatMap aZ)]) mS ⟨A',cap',by rw [QG],by rw [QG];rfl⟩
theorem sK (L:List Rv) (tv:Value) (w:World) (ht:Reads w tv L.length (L.flatMap aX)) (hlen:L.length≤1000000):
  aL Tryz.prog 39 [tv] w fun v H=> ∃ A cap,v=sl A L.length cap∧H= [.own A 62 11 L.length cap (L.flatMap aX)]:=by
 refine aq Tryz.func39 rfl Tryz.ntmps39 rfl ?_
 have hl:(L.flatMap aX).length=L.length*11:=aH dS L
 refine aC 62 11 ?_
 repeat' (first|(apply ck (n' :=0) (c:=0) (A:=none) (m:=L.length);(iterate 3 exact rfl);exact pK;(intro w hm;exact ht.of_w0 hm);exact hl;exact vG L;omega;(simp only [maxLen];omega);intro A' cap' hA)|refine sT ?_|refine sM fun _=> ?_|(refine sC ?_ ?_<;>intro hb<;>try omega)|fail)
 exact cf (.inl rfl) Tryz.results39 rfl (H' := [.own A' 62 11 (0+L.length) cap' ([]++L.flatMap aX)]) mS ⟨A',cap',by rw [QG],by rw [QG];rfl⟩
set_option maxHeartbeats 8000000 in
theorem CK (b:Bk) (x:Bv) (w:World) (h:BRd w b x) (hs:Small b):aL Tryz.prog 10 [.agg (bo b x).toArray] w fun v H=> ∃ a:Bo,v= .agg (bo b a.v).toArray∧H=bi b a:=by
 refine aq Tryz.func10 rfl Tryz.ntmps10 rfl ?_
 have h1:=fun (w' :World) (H:List Blk) (hm:Mem w w' H)=>v8 b.ents _ w' (h.e.of_w0 hm) hs.e
 have h2:=fun (w' :World) (H:List Blk) (hm:Mem w w' H)=>zF b.rules _ w' (h.r.of_w0 hm) hs.r
 have h3:=fun (w' :World) (H:List Blk) (hm:Mem w w' H)=>wL b.grants _ w' (h.g.of_w0 hm) hs.g
 have h4:=fun (w' :World) (H:List Blk) (hm:Mem w w' H)=>wM b.log _ w' (h.l.of_w0 hm) hs.l
 have h5:=fun (w' :World) (H:List Blk) (hm:Mem w w' H)=>sK b.rels _ w' (h.s.of_w0 hm) hs.s
 simp only [bo]
 repeat' (first|refine sT ?_|refine sS ?_|refine sM fun _=> ?_|(refine sC ?_ ?_<;>intro hb<;>try omega)|fail)
 rename_i g1 g2
 refine aC 0 0 ?_
 refine aC 0 0 ?_
 refine aC 0 0 ?_
 refine aC 0 0 ?_
 refine aC 0 0 ?_
 refine Jf (id:=1) (fun|2=>some fun g=>sl g.1 b.ents.length g.2|5=>some fun g=>sl g.1 b.rules.length g.2|8=>some fun g=>sl g.1 b.grants.length g.2|11=>some fun g=>sl g.1 b.log.length g.2|14=>some fun g=>sl g.1 b.rels.length g.2|_=>none)
  (fun (D:f9) (q:Nat→Gh)=> .box g1 28 [.int .i64 b.users,bif D 16 then sl (q 2).1 b.ents.length (q 2).2 else .slice x.ae b.ents.length x.ce,bif D 18 then sl (q 5).1 b.rules.length (q 5).2 else .slice x.ar b.rules.length x.cr,bif D 20 then sl (q 8).1 b.grants.length (q 8).2 else .slice x.ag b.grants.length x.cg,bif D 22 then sl (q 11).1 b.log.length (q 11).2 else .slice x.al b.log.length x.cl,bif D 24 then sl (q 14).1 b.rels.length (q 14).2 else .slice x.as_ b.rels.length x.cs,.int .i64 b.step]:: .box g2 28 [.int .i64 0,.slice none 0 0,.slice none 0 0,.slice none 0 0,.slice none 0 0,.slice none 0 0,.int .i64 0]::(bif D 2 then Blk.own (q 2).1 52 3 b.ents.length (q 2).2 (b.ents.flatMap aK) else J9)::(bif D 5 then Blk.own (q 5).1 54 7 b.rules.length (q 5).2 (b.rules.flatMap bw) else J9)::(bif D 8 then Blk.own (q 8).1 56 8 b.grants.length (q 8).2 (b.grants.flatMap bn) else J9)::(bif D 11 then Blk.own (q 11).1 58 9 b.log.length (q 11).2 (b.log.flatMap aZ) else J9)::(bif D 14 then Blk.own (q 14).1 62 11 b.rels.length (q 14).2 (b.rels.flatMap aX) else J9):: []) ?_ ?_ ?_ ?_
 ·
  kernel_rfl
 ·
  kernel_rfl
 ·
  intro γ
  exact mS
 intro γ
 repeat' (first|(apply zH (d:=4);(iterate 3 exact rfl);(intro D ht;(have n16:D 16=false:=ht.late (j:=16) (f:=60) (by decide+kernel));(simp only [gat,put,upd,Nat.reduceEqDiff,Nat.reduceAdd,reduceIte,n16,cond_true,cond_false,Qn,Qm,Rp,Rn,QS,Rt]);apply dE;exact rfl;exact pK;exact rfl);exact fun _=>rfl)|refine sT ?_|refine sS ?_|refine sX ?_|refine sM fun _=> ?_|(refine sC ?_ ?_<;>intro hb<;>try omega)|(refine sCX ?_ ?_<;>intro hb<;>try omega)|fail)
 refine tE rfl rfl rfl (fun D ht=> ?_) ?_
 ·
  have n2:D 2=false:=ht.not
  have n5:D 5=false:=ht.late (j:=5) (f:=60) (by decide+kernel)
  have n8:D 8=false:=ht.late (j:=8) (f:=60) (by decide+kernel)
  have n11:D 11=false:=ht.late (j:=11) (f:=60) (by decide+kernel)
  have n14:D 14=false:=ht.late (j:=14) (f:=60) (by decide+kernel)
  have n16:D 16=false:=ht.late (j:=16) (f:=60) (by decide+kernel)
  have n18:D 18=false:=ht.late (j:=18) (f:=60) (by decide+kernel)
  have n20:D 20=false:=ht.late (j:=20) (f:=60) (by decide+kernel)
  have n22:D 22=false:=ht.late (j:=22) (f:=60) (by decide+kernel)
  have n24:D 24=false:=ht.late (j:=24) (f:=60) (by decide+kernel)
  (simp only [gat,put,upd,Nat.reduceEqDiff,Nat.reduceAdd,reduceIte,n2,n5,n8,n11,n14,n16,n18,n20,n22,n24,cond_true,cond_false,Qn,Qm,Rp,Rn,QS,Rt])
  (with_reducible apply aA (f:=35));exact rfl;exact rfl;(intro w' hm;exact h1 w' _ hm);rintro _ _ ⟨A',c',rfl,rfl⟩
  refine l4 ⟨rfl,(A',c'),rfl,?_⟩
  (simp only [gat,put,upd,Nat.reduceEqDiff,Nat.reduceAdd,reduceIte,n2,n5,n8,n11,n14,n16,n18,n20,n22,n24,cond_true,cond_false,Qn,Qm,Rp,Rn,QS,Rt])
  exact mS
 repeat' (first|(apply zH (d:=7);(iterate 3 exact rfl);(intro D ht;(have n18:D 18=false:=ht.late (j:=18) (f:=60) (by decide+kernel));(simp only [gat,put,upd,Nat.reduceEqDiff,Nat.reduceAdd,reduceIte,n18,cond_true,cond_false,Qn,Qm,Rp,Rn,QS,Rt]);apply dE;exact rfl;exact pK;exact rfl);exact fun _=>rfl)|refine sT ?_|refine sS ?_|refine sX ?_|refine sM fun _=> ?_|(refine sC ?_ ?_<;>intro hb<;>try omega)|(refine sCX ?_ ?_<;>intro hb<;>try omega)|fail)
 refine tE rfl rfl rfl (fun D ht=> ?_) ?_
 ·
  have n5:D 5=false:=ht.not
  have n2:D 2=true:=ht.early (i:=2) (f:=60) (by decide+kernel)
  have n8:D 8=false:=ht.late (j:=8) (f:=60) (by decide+kernel)
  have n11:D 11=false:=ht.late (j:=11) (f:=60) (by decide+kernel)
  have n14:D 14=false:=ht.late (j:=14) (f:=60) (by decide+kernel)
  have n16:D 16=false:=ht.late (j:=16) (f:=60) (by decide+kernel)
  have n18:D 18=false:=ht.late (j:=18) (f:=60) (by decide+kernel)
  have n20:D 20=false:=ht.late (j:=20) (f:=60) (by decide+kernel)
  have n22:D 22=false:=ht.late (j:=22) (f:=60) (by decide+kernel)
  have n24:D 24=false:=ht.late (j:=24) (f:=60) (by decide+kernel)
  (simp only [gat,put,upd,Nat.reduceEqDiff,Nat.reduceAdd,reduceIte,n2,n5,n8,n11,n14,n16,n18,n20,n22,n24,cond_true,cond_false,Qn,Qm,Rp,Rn,QS,Rt])
  (with_reducible apply aA (f:=36));exact rfl;exact rfl;(intro w' hm;exact h2 w' _ hm);rintro _ _ ⟨A',c',rfl,rfl⟩
  refine l4 ⟨rfl,(A',c'),rfl,?_⟩
  (simp only [gat,put,upd,Nat.reduceEqDiff,Nat.reduceAdd,reduceIte,n2,n5,n8,n11,n14,n16,n18,n20,n22,n24,cond_true,cond_false,Qn,Qm,Rp,Rn,QS,Rt])
  exact mS
 repeat' (first|(apply zH (d:=10);(iterate 3 exact rfl);(intro D ht;(have n20:D 20=false:=ht.late (j:=20) (f:=60) (by decide+kernel));(simp only [gat,put,upd,Nat.reduceEqDiff,Nat.reduceAdd,reduceIte,n20,cond_true,cond_false,Qn,Qm,Rp,Rn,QS,Rt]);apply dE;exact rfl;exact pK;exact rfl);exact fun _=>rfl)|refine sT ?_|refine sS ?_|refine sX ?_|refine sM fun _=> ?_|(refine sC ?_ ?_<;>intro hb<;>try omega)|(refine sCX ?_ ?_<;>intro hb<;>try omega)|fail)
 refine tE rfl rfl rfl (fun D ht=> ?_) ?_
 ·
  have n8:D 8=false:=ht.not
  have n2:D 2=true:=ht.early (i:=2) (f:=60) (by decide+kernel)
  have n5:D 5=true:=ht.early (i:=5) (f:=60) (by decide+kernel)
  have n11:D 11=false:=ht.late (j:=11) (f:=60) (by decide+kernel)
  have n14:D 14=false:=ht.late (j:=14) (f:=60) (by decide+kernel)
  have n16:D 16=false:=ht.late (j:=16) (f:=60) (by decide+kernel)
  have n18:D 18=false:=ht.late (j:=18) (f:=60) (by decide+kernel)
  have n20:D 20=false:=ht.late (j:=20) (f:=60) (by decide+kernel)
  have n22:D 22=false:=ht.late (j:=22) (f:=60) (by decide+kernel)
  have n24:D 24=false:=ht.late (j:=24) (f:=60) (by decide+kernel)
  (simp only [gat,put,upd,Nat.reduceEqDiff,Nat.reduceAdd,reduceIte,n2,n5,n8,n11,n14,n16,n18,n20,n22,n24,cond_true,cond_false,Qn,Qm,Rp,Rn,QS,Rt])
  (with_reducible apply aA (f:=37));exact rfl;exact rfl;(intro w' hm;exact h3 w' _ hm);rintro _ _ ⟨A',c',rfl,rfl⟩
  refine l4 ⟨rfl,(A',c'),rfl,?_⟩
  (simp only [gat,put,upd,Nat.reduceEqDiff,Nat.reduceAdd,reduceIte,n2,n5,n8,n11,n14,n16,n18,n20,n22,n24,cond_true,cond_false,Qn,Qm,Rp,Rn,QS,Rt])
  exact mS
 repeat' (first|(apply zH (d:=13);(iterate 3 exact rfl);(intro D ht;(have n22:D 22=false:=ht.late (j:=22) (f:=60) (by decide+kernel));(simp only [gat,put,upd,Nat.reduceEqDiff,Nat.reduceAdd,reduceIte,n22,cond_true,cond_false,Qn,Qm,Rp,Rn,QS,Rt]);apply dE;exact rfl;exact pK;exact rfl);exact fun _=>rfl)|refine sT ?_|refine sS ?_|refine sX ?_|refine sM fun _=> ?_|(refine sC ?_ ?_<;>intro hb<;>try omega)|(refine sCX ?_ ?_<;>intro hb<;>try omega)|fail)
 refine tE rfl rfl rfl (fun D ht=> ?_) ?_
 ·
  have n11:D 11=false:=ht.not
  have n2:D 2=true:=ht.early (i:=2) (f:=60) (by decide+kernel)
  have n5:D 5=true:=ht.early (i:=5) (f:=60) (by decide+kernel)
  have n8:D 8=true:=ht.early (i:=8) (f:=60) (by decide+kernel)
  have n14:D 14=false:=ht.late (j:=14) (f:=60) (by decide+kernel)
  have n16:D 16=false:=ht.late (j:=16) (f:=60) (by decide+kernel)
  have n18:D 18=false:=ht.late (j:=18) (f:=60) (by decide+kernel)
  have n20:D 20=false:=ht.late (j:=20) (f:=60) (by decide+kernel)
  have n22:D 22=false:=ht.late (j:=22) (f:=60) (by decide+kernel)
  have n24:D 24=false:=ht.late (j:=24) (f:=60) (by decide+kernel)
  (simp only [gat,put,upd,Nat.reduceEqDiff,Nat.reduceAdd,reduceIte,n2,n5,n8,n11,n14,n16,n18,n20,n22,n24,cond_true,cond_false,Qn,Qm,Rp,Rn,QS,Rt])
  (with_reducible apply aA (f:=38));exact rfl;exact rfl;(intro w' hm;exact h4 w' _ hm);rintro _ _ ⟨A',c',rfl,rfl⟩
  refine l4 ⟨rfl,(A',c'),rfl,?_⟩
  (simp only [gat,put,upd,Nat.reduceEqDiff,Nat.reduceAdd,reduceIte,n2,n5,n8,n11,n14,n16,n18,n20,n22,n24,cond_true,cond_false,Qn,Qm,Rp,Rn,QS,Rt])
  exact mS
 repeat' (first|(apply zH (d:=16);(iterate 3 exact rfl);(intro D ht;(have n24:D 24=false:=ht.late (j:=24) (f:=60) (by decide+kernel));(simp only [gat,put,upd,Nat.reduceEqDiff,Nat.reduceAdd,reduceIte,n24,cond_true,cond_false,Qn,Qm,Rp,Rn,QS,Rt]);apply dE;exact rfl;exact pK;exact rfl);exact fun _=>rfl)|refine sT ?_|refine sS ?_|refine sX ?_|refine sM fun _=> ?_|(refine sC ?_ ?_<;>intro hb<;>try omega)|(refine sCX ?_ ?_<;>intro hb<;>try omega)|fail)
 refine tE rfl rfl rfl (fun D ht=> ?_) ?_
 ·
  have n14:D 14=false:=ht.not
  have n2:D 2=true:=ht.early (i:=2) (f:=60) (by decide+kernel)
  have n5:D 5=true:=ht.early (i:=5) (f:=60) (by decide+kernel)
  have n8:D 8=true:=ht.early (i:=8) (f:=60) (by decide+kernel)
  have n11:D 11=true:=ht.early (i:=11) (f:=60) (by decide+kernel)
  have n16:D 16=false:=ht.late (j:=16) (f:=60) (by decide+kernel)
  have n18:D 18=false:=ht.late (j:=18) (f:=60) (by decide+kernel)
  have n20:D 20=false:=ht.late (j:=20) (f:=60) (by decide+kernel)
  have n22:D 22=false:=ht.late (j:=22) (f:=60) (by decide+kernel)
  have n24:D 24=false:=ht.late (j:=24) (f:=60) (by decide+kernel)
  (simp only [gat,put,upd,Nat.reduceEqDiff,Nat.reduceAdd,reduceIte,n2,n5,n8,n11,n14,n16,n18,n20,n22,n24,cond_true,cond_false,Qn,Qm,Rp,Rn,QS,Rt])
  (with_reducible apply aA (f:=39));exact rfl;exact rfl;(intro w' hm;exact h5 w' _ hm);rintro _ _ ⟨A',c',rfl,rfl⟩
  refine l4 ⟨rfl,(A',c'),rfl,?_⟩
  (simp only [gat,put,upd,Nat.reduceEqDiff,Nat.reduceAdd,reduceIte,n2,n5,n8,n11,n14,n16,n18,n20,n22,n24,cond_true,cond_false,Qn,Qm,Rp,Rn,QS,Rt])
  exact mS
 repeat' (first|refine sT ?_|refine sS ?_|refine sX ?_|refine sM fun _=> ?_|(refine sC ?_ ?_<;>intro hb<;>try omega)|(refine sCX ?_ ?_<;>intro hb<;>try omega)|fail)
 refine tD (T:=28) (vs:= [sl (γ 2).1 b.ents.length (γ 2).2]) rfl rfl rfl rfl rfl rfl rfl (fun D ht=> ?_) ?_
 ·
  have n16:D 16=false:=ht.not
  have n2:D 2=true:=ht.early (i:=2) (f:=60) (by decide+kernel)
  have n5:D 5=true:=ht.early (i:=5) (f:=60) (by decide+kernel)
  have n8:D 8=true:=ht.early (i:=8) (f:=60) (by decide+kernel)
  have n11:D 11=true:=ht.early (i:=11) (f:=60) (by decide+kernel)
  have n14:D 14=true:=ht.early (i:=14) (f:=60) (by decide+kernel)
  (simp only [gat,put,upd,Nat.reduceEqDiff,Nat.reduceAdd,reduceIte,n2,n5,n8,n11,n14,n16,cond_true,cond_false,Qn,Qm,Rp,Rn,QS,Rt])
  refine ⟨_,_,.hd,?_,?_⟩
  ·
   exact Sg rfl
  ·
   exact mS
 repeat' (first|refine sT ?_|refine sS ?_|refine sX ?_|refine sM fun _=> ?_|(refine sC ?_ ?_<;>intro hb<;>try omega)|(refine sCX ?_ ?_<;>intro hb<;>try omega)|fail)
 refine tD (T:=28) (vs:= [sl (γ 5).1 b.rules.length (γ 5).2]) rfl rfl rfl rfl rfl rfl rfl (fun D ht=> ?_) ?_
 ·
  have n18:D 18=false:=ht.not
  have n2:D 2=true:=ht.early (i:=2) (f:=60) (by decide+kernel)
  have n5:D 5=true:=ht.early (i:=5) (f:=60) (by decide+kernel)
  have n8:D 8=true:=ht.early (i:=8) (f:=60) (by decide+kernel)
  have n11:D 11=true:=ht.early (i:=11) (f:=60) (by decide+kernel)
  have n14:D 14=true:=ht.early (i:=14) (f:=60) (by decide+kernel)
  (simp only [gat,put,upd,Nat.reduceEqDiff,Nat.reduceAdd,reduceIte,n2,n5,n8,n11,n14,n18,cond_true,cond_false,Qn,Qm,Rp,Rn,QS,Rt])
  refine ⟨_,_,.hd,?_,?_⟩
  ·
   exact Sg rfl
  ·
   exact mS
 repeat' (first|refine sT ?_|refine sS ?_|refine sX ?_|refine sM fun _=> ?_|(refine sC ?_ ?_<;>intro hb<;>try omega)|(refine sCX ?_ ?_<;>intro hb<;>try omega)|fail)
 refine tD (T:=28) (vs:= [sl (γ 8).1 b.grants.length (γ 8).2]) rfl rfl rfl rfl rfl rfl rfl (fun D ht=> ?_) ?_
 ·
  have n20:D 20=false:=ht.not
  have n2:D 2=true:=ht.early (i:=2) (f:=60) (by decide+kernel)
  have n5:D 5=true:=ht.early (i:=5) (f:=60) (by decide+kernel)
  have n8:D 8=true:=ht.early (i:=8) (f:=60) (by decide+kernel)
  have n11:D 11=true:=ht.early (i:=11) (f:=60) (by decide+kernel)
  have n14:D 14=true:=ht.early (i:=14) (f:=60) (by decide+kernel)
  (simp only [gat,put,upd,Nat.reduceEqDiff,Nat.reduceAdd,reduceIte,n2,n5,n8,n11,n14,n20,cond_true,cond_false,Qn,Qm,Rp,Rn,QS,Rt])
  refine ⟨_,_,.hd,?_,?_⟩
  ·
   exact Sg rfl
  ·
   exact mS
 repeat' (first|refine sT ?_|refine sS ?_|refine sX ?_|refine sM fun _=> ?_|(refine sC ?_ ?_<;>intro hb<;>try omega)|(refine sCX ?_ ?_<;>intro hb<;>try omega)|fail)
 refine tD (T:=28) (vs:= [sl (γ 11).1 b.log.length (γ 11).2]) rfl rfl rfl rfl rfl rfl rfl (fun D ht=> ?_) ?_
 ·
  have n22:D 22=false:=ht.not
  have n2:D 2=true:=ht.early (i:=2) (f:=60) (by decide+kernel)
  have n5:D 5=true:=ht.early (i:=5) (f:=60) (by decide+kernel)
  have n8:D 8=true:=ht.early (i:=8) (f:=60) (by decide+kernel)
  have n11:D 11=true:=ht.early (i:=11) (f:=60) (by decide+kernel)
  have n14:D 14=true:=ht.early (i:=14) (f:=60) (by decide+kernel)
  (simp only [gat,put,upd,Nat.reduceEqDiff,Nat.reduceAdd,reduceIte,n2,n5,n8,n11,n14,n22,cond_true,cond_false,Qn,Qm,Rp,Rn,QS,Rt])
  refine ⟨_,_,.hd,?_,?_⟩
  ·
   exact Sg rfl
  ·
   exact mS
 repeat' (first|refine sT ?_|refine sS ?_|refine sX ?_|refine sM fun _=> ?_|(refine sC ?_ ?_<;>intro hb<;>try omega)|(refine sCX ?_ ?_<;>intro hb<;>try omega)|fail)
 refine tD (T:=28) (vs:= [sl (γ 14).1 b.rels.length (γ 14).2]) rfl rfl rfl rfl rfl rfl rfl (fun D ht=> ?_) ?_
 ·
  have n24:D 24=false:=ht.not
  have n2:D 2=true:=ht.early (i:=2) (f:=60) (by decide+kernel)
  have n5:D 5=true:=ht.early (i:=5) (f:=60) (by decide+kernel)
  have n8:D 8=true:=ht.early (i:=8) (f:=60) (by decide+kernel)
  have n11:D 11=true:=ht.early (i:=11) (f:=60) (by decide+kernel)
  have n14:D 14=true:=ht.early (i:=14) (f:=60) (by decide+kernel)
  (simp only [gat,put,upd,Nat.reduceEqDiff,Nat.reduceAdd,reduceIte,n2,n5,n8,n11,n14,n24,cond_true,cond_false,Qn,Qm,Rp,Rn,QS,Rt])
  refine ⟨_,_,.hd,?_,?_⟩
  ·
   exact Sg rfl
  ·
   exact mS
 repeat' (first|refine sT ?_|refine sS ?_|refine sX ?_|refine sM fun _=> ?_|(refine sC ?_ ?_<;>intro hb<;>try omega)|(refine sCX ?_ ?_<;>intro hb<;>try omega)|fail)
 intro D hD
 have n2:=hD 2 (by decide)
 have n5:=hD 5 (by decide)
 have n8:=hD 8 (by decide)
 have n11:=hD 11 (by decide)
 have n14:=hD 14 (by decide)
 have n16:=hD 16 (by decide)
 have n18:=hD 18 (by decide)
 have n20:=hD 20 (by decide)
 have n22:=hD 22 (by decide)
 have n24:=hD 24 (by decide)
 (simp only [gat,put,upd,Nat.reduceEqDiff,Nat.reduceAdd,reduceIte,n2,n5,n8,n11,n14,n16,n18,n20,n22,n24,cond_true,cond_false,Qn,Qm,Rp,Rn,QS,Rt])
 repeat' (first|refine sT ?_|refine sS ?_|refine sM fun _=> ?_|(refine sC ?_ ?_<;>intro hb<;>try omega)|fail)
 exact uy (.inl rfl) rfl rfl pK rfl (H' :=bi b ⟨(γ 2).1,(γ 5).1,(γ 8).1,(γ 11).1,(γ 14).1,(γ 2).2,(γ 5).2,(γ 8).2,(γ 11).2,(γ 14).2⟩) (by unfold bi;exact mS) ⟨⟨(γ 2).1,(γ 5).1,(γ 8).1,(γ 11).1,(γ 14).1,(γ 2).2,(γ 5).2,(γ 8).2,(γ 11).2,(γ 14).2⟩,rfl,rfl⟩
end Go.SL
