/-
  Lemmas and walks, put together: Q13 Zb Q15 G2 L2 La Zc Sm.
-/
import Derived.Test.YtpoafcnhplbkmaaGreatDoorKs22
set_option linter.unusedSimpArgs false
set_option linter.unusedVariables false
set_option maxRecDepth 20000
set_option maxHeartbeats 16000000
namespace Go.SL
open Go Go.Proofs
attribute [local irreducible] W WL WQ WG WA WX WLI WR WT WC VOp RW thn blk bH scp aV bz bP FnAt FnIn FnP ceP
theorem tT (L:List En) (a:Rf):(DB L a= -1∧eL L a=none)∨ ∃ (i:Nat) (h:i<L.length),DB L a=(i:Int)∧eL L a=some L[i]:=by
 unfold DB eL
 cases hf:L.findIdx? (fun e=>decide (e.at_=a)) with
 |none=>
  left
  refine ⟨rfl,?_⟩;rw [Sy] at hf;rw [Ur];exact fun e he=>by simpa using hf e he
 |some i=>
  right
  obtain ⟨h,h1,h2⟩:=RU.1 hf;exact ⟨i,h,rfl,List.find?_eq_some_iff_getElem.2 ⟨h1,i,h,rfl,fun j hj=>by simpa using h2 j hj⟩⟩
theorem JF {L:List En} {i:Nat} {e:En} (h:((L.flatMap cz).drop (0+i*4)).take 4=cz e):(L.flatMap cz)[0+i*4+3]? =some e.uv:=by
 have:=congrArg (fun l=>l[3]?) h;rw [Tl (by decide),Sw] at this;exact this
theorem JG {L:List En} {i:Nat} {e:En} (h:((L.flatMap cz).drop (0+i*4)).take 4=cz e):(L.flatMap cz)[0+i*4+2]? =some e.tv:=by
 have:=congrArg (fun l=>l[2]?) h;rw [Tl (by decide),Sw] at this;exact this
theorem KU (g:Nat) (A:Option Nat) (cap:Nat) (L:List En) (a:Rf) (R:List Blk) (w0:World) (hE: ∀ e∈L,EnOk R e) (hlen:L.length≤1000):
 FnIn Tryz.prog 60 [.pointer (some ⟨g,0,none⟩),dm a] w0 (rgB g A cap L++R) fun v H=> ∃ A' cap',v=sl A' (aW L a).uses.length cap' ∧H= .own A' 121 6 (aW L a).uses.length cap' ((aW L a).uses.flatMap cP)::(rgB g A cap L++R):=by
 refine bF Tryz.func60 rfl Tryz.ntmps60 rfl ?_;have hI:=fun (H' :List Blk) (hs:MSub (rgB g A cap L) H') (w' :World) (hm:Mem w0 w' H')=>yT g _ cap L a w' (RGm.of hs hm) (by omega);refine aI 121 6 ?_;rcases tT L a with ⟨hidx,hf⟩|⟨i,hlt,hidx,hf⟩
 ·rw [hidx] at hI;have hfd:(aW L a).uses= []:=by rw [aW,hf];rfl
  rw [hfd];unfold rgB;repeat' (first|(apply aa (f:=66);exact rfl;exact rfl;exact fun w' hm=>hI _ (by unfold rgB;exact mS) w' hm)|refine zZB ?_|refine sM fun _=>?_|(refine sC ?_ ?_<;>intro hb<;>try omega)|fail)
  all_goals first
   |(exfalso;omega)
   |exact bJ eIO rfl rfl (H' := .own none 121 6 0 0 []::(rgB g A cap L++R)) (by unfold rgB;simp only [Re,QV,QW];exact mS) ⟨none,0,rfl,rfl⟩
 ·have hfd:aW L a=L[i]:=by rw [aW,hf];rfl
  rw [hidx] at hI;rw [hfd];have hoke:=hE L[i] (RL hlt);have ha:=oL hlt;generalize L[i]=e at hoke ha;refine bg (A:=A) (by unfold rgB;exact pK) (by omega) fun gl hA=> ?_;subst hA;unfold rgB;repeat' (first|(apply aa (f:=66);exact rfl;exact rfl;exact fun w' hm=>hI _ (by unfold rgB;exact mS) w' hm)|refine zZB ?_|refine sM fun _=>?_|(refine sC ?_ ?_<;>intro hb<;>try omega)|fail)
  all_goals try (exfalso;omega)
  rename_i g3;refine aI 0 0 ?_;refine aI 0 0 ?_
  refine vk (id:=3) (fun|0=>some fun g=> .slice (some ⟨g.2,0,none⟩) 0 0|11=>some fun g=>sl g.1 e.uses.length g.2|_=>none)
   (fun (D:f9) (q:Nat→Gh)=>(bif D 11 then Blk.own (q 11).1 121 6 e.uses.length (q 11).2 (e.uses.flatMap cP) else bif D 0 then .own (some (q 0).2) 121 6 0 0 [] else Pz):: .box g3 28 (aB a):: .box g 126 [sl (some gl) L.length cap]:: .own (some gl) 172 4 L.length cap (L.flatMap cz)::R) ?_ ?_ ?_ ?_
  ·kernel_rfl
  ·kernel_rfl
  ·intro γ;exact mS
  intro γ;refine uU rfl rfl rfl (fun D ht=> ?_) ?_
  ·have n10:D 0=false:=ht.not;have n11:D 11=false:=ht.late (j:=11) (f:=60) (by decide+kernel);(simp only [gat,put,upd,Nat.reduceEqDiff,Nat.reduceAdd,reduceIte,n10,n11,cond_true,cond_false,QW,QV,SD,SQ,Ss,SG]);(with_reducible apply df);exact rfl;intro gs;refine pV ⟨rfl,(none,gs),rfl,?_⟩;(simp only [gat,put,upd,Nat.reduceEqDiff,Nat.reduceAdd,reduceIte,n10,n11,cond_true,cond_false,QW,QV,SD,SQ,Ss,SG]);exact mS
  repeat' (first|(apply uV (f:=66);(iterate 3 exact rfl);(decide+kernel);exact rfl;(intro D ht w hm;exact hI _ (by unfold rgB;exact MSub.drop .hd (MSub.drop .hd mS)) w hm);exact fun _=>rfl)|(apply zF (d:=21);(iterate 3 exact rfl);(intro D ht;apply ag (j:=i);exact rfl;exact rfl;exact hlt);exact fun _=>rfl)|(apply zF (d:=23);(iterate 3 exact rfl);(intro D ht;apply aq;exact rfl;exact pK;exact JF ha);exact fun _=>rfl)|refine zZL ?_|refine sM fun _=>?_|(refine sC ?_ ?_<;>intro hb<;>try omega)|(refine sCX ?_ ?_<;>intro hb<;>try omega)|fail)
  refine uU rfl rfl rfl (fun D ht=> ?_) ?_
  ·have n11:D 11=false:=ht.not;have n10:D 0=true:=ht.early (i:=0) (f:=60) (by decide+kernel);(simp only [gat,put,upd,Nat.reduceEqDiff,Nat.reduceAdd,reduceIte,n10,n11,cond_true,cond_false,QW,QV,SD,SQ,Ss,SG]);(with_reducible apply eJ (n' :=0) (c:=0) (A:=some (γ 0).2) (m:=e.uses.length));(iterate 3 exact rfl);exact pK;(intro w hm;exact hoke.uses _ w (MSub.use mS hm));exact bR kW _;exact zi _;(have:=hoke.ul;omega);(have:=hoke.ul;simp only [maxLen];omega);(intro A6 c6 h6);rw [Rv,QW];refine pV ⟨rfl,(A6,c6),rfl,?_⟩;(simp only [gat,put,upd,Nat.reduceEqDiff,Nat.reduceAdd,reduceIte,n10,n11,cond_true,cond_false,QW,QV,SD,SQ,Ss,SG]);exact mS
  repeat' (first|refine zZL ?_|refine sM fun _=>?_|(refine sC ?_ ?_<;>intro hb<;>try omega)|(refine sCX ?_ ?_<;>intro hb<;>try omega)|fail)
  intro D hD;have n10:=hD 0 (by decide);have n11:=hD 11 (by decide);(simp only [gat,put,upd,Nat.reduceEqDiff,Nat.reduceAdd,reduceIte,n10,n11,cond_true,cond_false,QW,QV,SD,SQ,Ss,SG]);repeat' (first|refine zZB ?_|refine sM fun _=>?_|(refine sC ?_ ?_<;>intro hb<;>try omega)|fail)
  all_goals exact bJ eIO rfl rfl (H' := .own (γ 11).1 121 6 e.uses.length (γ 11).2 (e.uses.flatMap cP)::(rgB g (some gl) cap L++R)) (by unfold rgB;simp only [Re,QV,QW];exact mS) ⟨(γ 11).1,(γ 11).2,rfl,rfl⟩
theorem KV (g:Nat) (A:Option Nat) (cap:Nat) (L:List En) (a:Rf) (R:List Blk) (w0:World) (hE: ∀ e∈L,EnOk R e) (hlen:L.length≤1000):
 FnIn Tryz.prog 62 [.pointer (some ⟨g,0,none⟩),dm a] w0 (rgB g A cap L++R) fun v H=> ∃ A' cap',v= .tuple #[sl A' (aW L a).tree.length cap',.bool (eL L a).isSome]∧H= .own A' 123 11 (aW L a).tree.length cap' ((aW L a).tree.flatMap bf)::(rgB g A cap L++R):=by
 refine bF Tryz.func62 rfl Tryz.ntmps62 rfl ?_;have hI:=fun (H' :List Blk) (hs:MSub (rgB g A cap L) H') (w' :World) (hm:Mem w0 w' H')=>yT g _ cap L a w' (RGm.of hs hm) (by omega);refine aI 123 11 ?_;rcases tT L a with ⟨hidx,hf⟩|⟨i,hlt,hidx,hf⟩
 ·rw [hidx] at hI;have hfd:(aW L a).tree= []:=by rw [aW,hf];rfl
  rw [hfd,hf];unfold rgB;repeat' (first|(apply aa (f:=66);exact rfl;exact rfl;exact fun w' hm=>hI _ (by unfold rgB;exact mS) w' hm)|refine zZB ?_|refine sM fun _=>?_|(refine sC ?_ ?_<;>intro hb<;>try omega)|fail)
  all_goals first
   |(exfalso;omega)
   |exact dB eIO rfl rfl rfl (H' := .own none 123 11 0 0 []::(rgB g A cap L++R)) (by unfold rgB;simp only [Re,QV,QW];exact mS) ⟨none,0,rfl,rfl⟩
 ·have hfd:aW L a=L[i]:=by rw [aW,hf];rfl
  rw [hidx] at hI;rw [hfd,hf];have hoke:=hE L[i] (RL hlt);have ha:=oL hlt;generalize L[i]=e at hoke ha;refine bg (A:=A) (by unfold rgB;exact pK) (by omega) fun gl hA=> ?_;subst hA;unfold rgB;repeat' (first|(apply aa (f:=66);exact rfl;exact rfl;exact fun w' hm=>hI _ (by unfold rgB;exact mS) w' hm)|refine zZB ?_|refine sM fun _=>?_|(refine sC ?_ ?_<;>intro hb<;>try omega)|fail)
  all_goals try (exfalso;omega)
  rename_i g3;refine aI 0 0 ?_;refine aI 0 0 ?_
  refine vk (id:=3) (fun|0=>some fun g=> .slice (some ⟨g.2,0,none⟩) 0 0|11=>some fun g=>sl g.1 e.tree.length g.2|_=>none)
   (fun (D:f9) (q:Nat→Gh)=>(bif D 11 then Blk.own (q 11).1 123 11 e.tree.length (q 11).2 (e.tree.flatMap bf) else bif D 0 then .own (some (q 0).2) 123 11 0 0 [] else Pz):: .box g3 28 (aB a):: .box g 126 [sl (some gl) L.length cap]:: .own (some gl) 172 4 L.length cap (L.flatMap cz)::R) ?_ ?_ ?_ ?_
  ·kernel_rfl
  ·kernel_rfl
  ·intro γ;exact mS
  intro γ;refine uU rfl rfl rfl (fun D ht=> ?_) ?_
  ·have n10:D 0=false:=ht.not;have n11:D 11=false:=ht.late (j:=11) (f:=60) (by decide+kernel);(simp only [gat,put,upd,Nat.reduceEqDiff,Nat.reduceAdd,reduceIte,n10,n11,cond_true,cond_false,QW,QV,SD,SQ,Ss,SG]);(with_reducible apply df);exact rfl;intro gs;refine pV ⟨rfl,(none,gs),rfl,?_⟩;(simp only [gat,put,upd,Nat.reduceEqDiff,Nat.reduceAdd,reduceIte,n10,n11,cond_true,cond_false,QW,QV,SD,SQ,Ss,SG]);exact mS
  repeat' (first|(apply uV (f:=66);(iterate 3 exact rfl);(decide+kernel);exact rfl;(intro D ht w hm;exact hI _ (by unfold rgB;exact MSub.drop .hd (MSub.drop .hd mS)) w hm);exact fun _=>rfl)|(apply zF (d:=22);(iterate 3 exact rfl);(intro D ht;apply ag (j:=i);exact rfl;exact rfl;exact hlt);exact fun _=>rfl)|(apply zF (d:=24);(iterate 3 exact rfl);(intro D ht;apply aq;exact rfl;exact pK;exact JG ha);exact fun _=>rfl)|refine zZL ?_|refine sM fun _=>?_|(refine sC ?_ ?_<;>intro hb<;>try omega)|(refine sCX ?_ ?_<;>intro hb<;>try omega)|fail)
  refine uU rfl rfl rfl (fun D ht=> ?_) ?_
  ·have n11:D 11=false:=ht.not;have n10:D 0=true:=ht.early (i:=0) (f:=60) (by decide+kernel);(simp only [gat,put,upd,Nat.reduceEqDiff,Nat.reduceAdd,reduceIte,n10,n11,cond_true,cond_false,QW,QV,SD,SQ,Ss,SG]);(with_reducible apply eJ (n' :=0) (c:=0) (A:=some (γ 0).2) (m:=e.tree.length));(iterate 3 exact rfl);exact pK;(intro w hm;exact hoke.tree _ w (MSub.use mS hm));exact bR cu _;exact zm _;(have:=hoke.tl;omega);(have:=hoke.tl;simp only [maxLen];omega);(intro A6 c6 h6);rw [Rv,QW];refine pV ⟨rfl,(A6,c6),rfl,?_⟩;(simp only [gat,put,upd,Nat.reduceEqDiff,Nat.reduceAdd,reduceIte,n10,n11,cond_true,cond_false,QW,QV,SD,SQ,Ss,SG]);exact mS
  repeat' (first|refine zZL ?_|refine sM fun _=>?_|(refine sC ?_ ?_<;>intro hb<;>try omega)|(refine sCX ?_ ?_<;>intro hb<;>try omega)|fail)
  intro D hD;have n10:=hD 0 (by decide);have n11:=hD 11 (by decide);(simp only [gat,put,upd,Nat.reduceEqDiff,Nat.reduceAdd,reduceIte,n10,n11,cond_true,cond_false,QW,QV,SD,SQ,Ss,SG]);repeat' (first|refine zZB ?_|refine sM fun _=>?_|(refine sC ?_ ?_<;>intro hb<;>try omega)|fail)
  all_goals exact dB eIO rfl rfl rfl (H' := .own (γ 11).1 123 11 e.tree.length (γ 11).2 (e.tree.flatMap bf)::(rgB g (some gl) cap L++R)) (by unfold rgB;simp only [Re,QV,QW];exact mS) ⟨(γ 11).1,(γ 11).2,rfl,rfl⟩
end Go.SL
namespace Go.SL
open Go
def Tj.un (S:Tj):Nat:=S.num.countP fun x=>decide (x=0)
theorem BS {S:Tj} {i:Nat} (hi:i<S.num.length) (h0:S.n i=0):(S.start i).un+1=S.un:=by
 have he:S.num[i]=0:=by
  unfold Tj.n at h0;rw [QU hi] at h0;exact h0
 have hp:0<S.num.countP fun x=>decide (x=0):=List.countP_pos_iff.2 ⟨_,RL hi,by rw [he];rfl⟩;unfold Tj.un Tj.start;dsimp only;rw [List.countP_set hi,he];simp;omega
theorem zW {X:Nx} {S:Tj} (h:TjOk X S):S.stk.length≤X.length:=by
 have h1:=dR S.stk (List.range X.length) (h.stk.imp fun hab e=>by rw [e] at hab;exact SS _ hab) (fun x hx=>RH.2 (h.lt x hx));rwa [Sg] at h1
theorem kU {p:List Nat} (h:p≠ []):atN p 0∈p:=by
 cases p with
 |nil=>exact absurd rfl h
 |cons a l=>exact QY
theorem y9 {n:Nat} {O:List (List Nat)} (hd:O.Pairwise fun p q=> ∀ v∈p,v∉q) (hn: ∀ p∈O,p≠ []) (hl: ∀ p∈O,∀ v∈p,v<n):O.length≤n:=by
 have h1:(O.map fun p=>atN p 0).Nodup:=by
  rw [List.Nodup,Uy];exact hd.imp_of_mem fun {p q} hp hq hpq e=>hpq _ (kU (hn p hp)) (e ▸ kU (hn q hq))
 have h2:=dR _ (List.range n) h1 (fun x hx=>by
  obtain ⟨p,hp,rfl⟩:=RG.1 hx;exact RH.2 (hl p hp _ (kU (hn p hp))))
 rwa [RA,Sg] at h2
theorem Nq {X:Nx} {S:Tj} (h:TjOk X S):S.out.length≤X.length:=
 y9 h.dis (fun p hp=>(h.scc p hp).1) fun p hp v hv=>h.nlt ((h.prt v).1 ⟨p,hp,hv⟩).1
theorem TjEnd.len {X:Nx} {O:List (List Nat)} (h:TjEnd X O):O.length≤X.length:=
 y9 h.dis (fun p hp=>(h.scc p hp).1) h.lt
theorem TjEnd.part_len {X:Nx} {O:List (List Nat)} (h:TjEnd X O) {p:List Nat} (hp:p∈O):p.length≤X.length:=by
 have h1:=dR p (List.range X.length) ((h.scc p hp).2.1.imp fun hab e=>by rw [e] at hab;exact SS _ hab) (fun x hx=>RH.2 (h.lt p hp x hx));rwa [Sg] at h1
theorem Lp.ex_len {X:Nx} {S0 S:Tj} {i:Nat} {ex dn:List Nat} (h:Lp X S0 i S ex dn):ex.length+1≤X.length:=by
 have h1:=zW h.ok;rw [h.stk,QT,Rk] at h1;omega
def Tj.new (n:Nat):Tj:=⟨List.replicate n 0,List.replicate n 0,List.replicate n false,[],[],0⟩
theorem Le (n v:Nat):(Tj.new n).n v=0:=by
 unfold Tj.n Tj.new;dsimp only;rw [TE];split<;>rfl
theorem OC (n v:Nat):(Tj.new n).o v=false:=by
 unfold Tj.o Tj.new;dsimp only;rw [TE];split<;>rfl
theorem PA (n:Nat):(Tj.new n).un=n:=by
 unfold Tj.un Tj.new;dsimp only;rw [List.countP_eq_length.2 (fun a ha=>by rw [(List.mem_replicate.1 ha).2];rfl),S9]
theorem PB (X:Nx):TjOk X (Tj.new X.length):={
 ln:=S9
 ll:=S9
 lo:=S9
 le i:=by rw [Le];exact QZ _
 stk:=List.Pairwise.nil
 lt v hv:=by cases hv
 vis v hv:=by cases hv
 on v _:=by
  rw [OC];exact ⟨fun h=>by simp at h,fun h=>by cases h⟩
 cls v hv:=absurd (Le _ v) hv
 prt v:=⟨fun ⟨p,hp,_⟩=>(by cases hp),fun h=>absurd (Le _ v) h.1⟩
 scc p hp:=by cases hp
 dis:=List.Pairwise.nil }
def uk (S:Tj) (l:List Nat) (v:Nat):Bool:=S.o v && !decide (v∈l)
theorem I9 (S:Tj) (l:List Nat) {n j:Nat} (h:j<l.length):aF n (fun v=>if v=atN l j then false else uk S (l.take j) v)=aF n (uk S (l.take (j+1))):=aP fun v _=>by
 unfold uk;rw [Ra h,dN h];by_cases e:v=l[j]
 ·subst e;rw [if_pos rfl,decide_eq_true (Sj _ (Rd.2 rfl)),Bool.not_true,SQ]
 ·rw [if_neg e];congr 2;rw [decide_eq_decide,Rz,Rd];exact ⟨.inl,fun hh=>hh.resolve_right e⟩
theorem I8 (S:Tj) (l:List Nat) (n:Nat):aF n S.o=aF n (uk S (l.take 0)):=aP fun v _=>by simp [uk]
theorem NB {X:Nx} {S0 S:Tj} {i:Nat} {ex:List Nat} (h:Lp X S0 i S ex (au X i)) (he:S.l i=S.n i): ∃ S' :Tj,Entd X S0 i S' []∧S'.num=S.num∧S'.low=S.low∧S'.stk=S0.stk∧S'.out=S.out++ [gX (i::ex)]∧S'.cnt=S.cnt∧aF X.length (uk S ((i::ex).take (i::ex).length))=aF X.length S'.o:=by
 have hon: ∀ v,v<X.length→((((List.range X.length).map (uk S (i::ex)))[v]?).getD false)=uk S (i::ex) v:=fun v hv=>by
  rw [Rj,RT hv];rfl
 refine ⟨_,PE h he (on' :=(List.range X.length).map (uk S (i::ex))) (part:=gX (i::ex)) (by simp) (fun v hv=> ?_) (fU _) (oS _),rfl,rfl,rfl,rfl,rfl,?_⟩
 ·rw [hon v hv];unfold uk;simp
 ·rw [RS];refine aP fun v hv=> ?_;exact (hon v hv).symm
theorem Jl {X:Nx} {O:List (List Nat)} (h:TjEnd X O):(gX (O.flatMap (eZ X))).Pairwise (· < ·)∧ ∀ v,v∈gX (O.flatMap (eZ X))↔v<X.length∧onC X v:=by
 have hp:=fU (O.flatMap (eZ X));refine ⟨?_,fun v=>by rw [hp.mem_iff];exact h.loop⟩;have h3:(gX (O.flatMap (eZ X))).Nodup:=hp.nodup_iff.2 h.nodup;exact (UB.2 ⟨oS _,h3⟩).imp fun ⟨h4,h5⟩=>UL h4 h5
theorem y6 {X:Nx} {O:List (List Nat)} (h:TjEnd X O) (k:Nat):((O.take k).flatMap (eZ X)).length≤X.length:=by
 have h1:((O.take k).flatMap (eZ X)).Sublist (O.flatMap (eZ X)):=by
  conv=>rhs;rw [← Sd k O,Rp]
  exact List.sublist_append_left _ _
 have h2:=dR _ (List.range X.length) (h1.nodup h.nodup) (fun x hx=>RH.2 (h.loop.1 (h1.subset hx)).1);rwa [Sg] at h2
theorem FR {X:Nx} {O:List (List Nat)} {k:Nat} (h:k<O.length):(O.take (k+1)).flatMap (eZ X)=(O.take k).flatMap (eZ X)++eZ X (au O k):=by
 rw [Ra h,Rp,Tt];unfold au;rw [QU h]
 rfl
end Go.SL
namespace Go.SL
open Go Go.Proofs
attribute [local irreducible] W WL WQ WG WA WX WLI WR WT WC VOp RW thn blk bH scp aV bz bP FnAt FnIn FnP ceP
def qE (a b:En):Bool:=dW a.uses (kN b.at_.col b.at_.row)
def ph (a:En) (F:List En):List (Rf × Rf):=(F.filter (qE a)).map fun b=>(a.at_,b.at_)
def fH (F:List En) (L:List En):List (Rf × Rf):=L.flatMap fun a=>ph a F
theorem II {a:En} {F:List En} {k:Nat} (h:k<F.length):ph a (F.take (k+1))=if qE a F[k] then ph a (F.take k)++ [(a.at_,F[k].at_)] else ph a (F.take k):=by
 unfold ph;rw [Ra h,TL,Sh,Tq];split<;>simp
theorem DV {F L:List En} {i:Nat} (h:i<L.length):fH F (L.take (i+1))=fH F (L.take i)++ph L[i] F:=by
 unfold fH;rw [Ra h,Rp];simp
theorem Cz (a:En) (F:List En):(ph a F).length≤F.length:=by
 unfold ph;rw [RA];exact SR _ _
theorem xw (F:List En): ∀ L:List En,(fH F L).length≤L.length*F.length
 | []=>by simp [fH]
 |a::r=>by
  have h1:=xw F r;have h2:=Cz a F;simp only [fH,Rl,QT,Rk] at h1 ⊢;rw [Tg,TT];omega
theorem RGOk.edges {R:List Blk} {L:List En} {G:Gr} (h:RGOk R L G) (hG:GrOk G):fH L L=bW G:=by
 have hq: ∀ e∈L,∀ f∈L,qE e f=gJ e.uses f.at_:=fun e he f hf=>by
  have h1:e.abs∈G:=by rw [← h.rel];exact RG.2 ⟨e,he,rfl⟩
  have h2:f.abs∈G:=by rw [← h.rel];exact RG.2 ⟨f,hf,rfl⟩
  exact (rk (hG.ent _ h1).rect (hG.ent _ h2).at_).symm
 unfold fH bW;rw [← h.rel,List.flatMap_map];have: ∀ M:List En,(∀ e∈M,e∈L)→M.flatMap (fun a=>ph a L)=M.flatMap fun a=>((L.map En.abs).filter fun f=>gJ a.abs.2.2 f.1).map fun f=>(a.abs.1,f.1):=by
  intro M
  induction M with
  |nil=>intro _;rfl
  |cons e r ih=>
   intro hM;rw [Rl,Rl,ih fun f hf=>hM f (Rh _ hf)];congr 1;unfold ph;rw [Ut,SZ,US (hq e (hM e QY))]
   rfl
 exact this L fun _ h=>h
theorem IR (g:Nat) (A:Option Nat) (cap:Nat) (L:List En) (R:List Blk) (w0:World) (hE: ∀ e∈L,EnOk R e) (hlen:L.length≤900):
 FnIn Tryz.prog 58 [.pointer (some ⟨g,0,none⟩)] w0 (rgB g A cap L++R) fun v H=> ∃ A' cap',v=sl A' (fH L L).length cap' ∧H= .own A' 114 4 (fH L L).length cap' ((fH L L).flatMap cj)::(rgB g A cap L++R):=by
 refine bF Tryz.func58 rfl Tryz.ntmps58 rfl ?_;refine aI 114 4 ?_;unfold rgB;repeat' (first|refine zZB ?_|refine sM fun _=>?_|(refine sC ?_ ?_<;>intro hb<;>try omega)|fail)
 refine aw [0] rfl (fun y:Nat × Option Nat × Nat=> [(3,sl y.2.1 (fH L (L.take y.1)).length y.2.2),(4,.int .i64 (y.1:Int))]) (fun y=> .own y.2.1 114 4 (fH L (L.take y.1)).length y.2.2 ((fH L (L.take y.1)).flatMap cj):: .box g 126 [sl A L.length cap]:: .own A 172 4 L.length cap (L.flatMap cz)::R) (fun y=>y.1≤L.length) (fun y=>L.length - y.1) (0,none,0) (QZ _) sB (by simp only [Re,QV,QW,fH,SK,RN,Ta];exact mS) ?_;rintro ⟨i,A3,c3⟩ hi;dsimp only at hi ⊢;by_cases hlt:i<L.length
 ·refine bg (A:=A) pK (by omega) fun gl hA=> ?_;subst hA;have hel:=xw L (L.take i);have hml:(L.take i).length*L.length≤900*900:=Nat.mul_le_mul (by rw [RI];omega) hlen;have hnx:=DV (F:=L) hlt;generalize hO:fH L (L.take i)=O at hel hnx;have hOl:O.length≤810000:=RD hel hml;have hoke:=hE L[i] (RL hlt);have hc:=jq hlt;have ha:=oL hlt;generalize L[i]=e at hc ha hnx hoke;have hT:=fun (f:En) (H' :List Blk) (hs:MSub R H') (w' :World) (hm:Mem w0 w' H')=>tI e (kN f.at_.col f.at_.row) w' (hoke.uses _ w' (hs.use hm)) (by have:=hoke.ul;omega);repeat' (first|refine zZA ?_|refine sM fun _=>?_|(refine sC ?_ ?_<;>intro hb<;>try omega)|fail)
  all_goals try (exfalso;omega)
  refine aw [0,4] rfl (fun y:Nat × Option Nat × Nat=> [(3,sl y.2.1 (O++ph e (L.take y.1)).length y.2.2),(5,.int .i64 (y.1:Int))]) (fun y=> .own y.2.1 114 4 (O++ph e (L.take y.1)).length y.2.2 ((O++ph e (L.take y.1)).flatMap cj):: .box g 126 [sl (some gl) L.length cap]:: .own (some gl) 172 4 L.length cap (L.flatMap cz)::R) (fun y=>y.1≤L.length) (fun y=>L.length - y.1) (0,A3,c3) (QZ _) (by simp only [ph,SK,T9,SE,Rc];exact sB) (by simp only [ph,SK,T9,SE,Rc];exact mS) ?_;rintro ⟨j,A4,c4⟩ hj;dsimp only at hj ⊢;by_cases hlt2:j<L.length
  ·have hrl:=Cz e (L.take j);rw [RI] at hrl;have hnx2:=II (a:=e) hlt2;have hc2:=jq hlt2;generalize L[j]=f at hc2 hnx2;have hT:=hT f;have hOn:=fun w=>gF f.at_ w;generalize hU:ph e (L.take j)=U at hrl hnx2;have hql:(O++U).length≤811000:=by rw [QT];omega
   cases ht:qE e f with
   |true=>
     rw [ht,if_pos rfl] at hnx2;rw [show dW e.uses (kN f.at_.col f.at_.row)=true from ht] at hT;repeat' (first|(apply pW (id:=8);kernel_rfl;kernel_rfl)|(apply aZ (d:=33);exact rfl;apply ag (j:=i);exact rfl;exact rfl;exact hlt)|(apply aZ (d:=40);exact rfl;apply ag (j:=j);exact rfl;exact rfl;exact hlt2)|(apply aZ (d:=34);exact rfl;apply aO (ys:=cz e);exact rfl;exact pK;exact ha;exact rfl)|(apply aZ (d:=42);exact rfl;apply aO (ys:=aB f.at_);exact rfl;exact pK;exact hc2;exact rfl)|(apply cM;exact rfl;exact rfl;(intro w hm;exact hOn w))|(apply cM (f:=99);exact rfl;exact rfl;exact fun w' hm=>hT _ mS w' hm)|refine zZP ?_|refine sM fun _=>?_|(refine sC ?_ ?_<;>intro hb<;>try omega)|(refine sCQ ?_ ?_<;>intro hb<;>try omega)|fail)
     all_goals try (exfalso;omega)
     refine gy (id:=9) [18,19] [] [.box g 126 [sl (some gl) L.length cap],.own (some gl) 172 4 L.length cap (L.flatMap cz)] (by kernel_rfl) (by kernel_rfl) (by kernel_rfl) mS ?_;repeat' (first|(apply fq (d:=51);(iterate 3 exact rfl);apply ag (j:=i);exact rfl;exact rfl;exact hlt)|(apply fq (d:=59);(iterate 3 exact rfl);apply ag (j:=j);exact rfl;exact rfl;exact hlt2)|(apply fq (d:=53);(iterate 3 exact rfl);apply aO (ys:=aB e.at_);exact rfl;exact pK;exact hc;exact rfl)|(apply fq (d:=61);(iterate 3 exact rfl);apply aO (ys:=aB f.at_);exact rfl;exact pK;exact hc2;exact rfl)|(apply fq (d:=62);(iterate 3 exact rfl);apply Ie;(iterate 5 exact rfl))|(apply aD (news:=cj (e.at_,f.at_));(iterate 3 exact rfl);exact pK;exact pK;exact rfl;(simp [cj,Value.oneCell']);omega;(simp only [maxLen];omega);intro g8 c8)|refine zZK ?_|refine sM fun _=>?_|(refine sC ?_ ?_<;>intro hb<;>try omega)|(refine sCW ?_ ?_<;>intro hb<;>try omega)|fail)
     all_goals first
      |(exfalso;omega)
      | (refine ⟨(j + 1, some g8, c8), hlt2, (by dsimp only; omega), (by dsimp only; rw [hnx2, ← List.append_assoc, @List.length_append _ (O ++ U), List.length_singleton]; exact sB), sB, ?_⟩
         dsimp only;rw [hnx2,← Rx,@QT _ (O++U),QX,Rp (xs:=O++U),Rl,RN,Rc];exact mS)
   |false=>
     rw [ht,if_neg (by simp)] at hnx2;rw [show dW e.uses (kN f.at_.col f.at_.row)=false from ht] at hT;repeat' (first|(apply aZ (d:=33);exact rfl;apply ag (j:=i);exact rfl;exact rfl;exact hlt)|(apply aZ (d:=40);exact rfl;apply ag (j:=j);exact rfl;exact rfl;exact hlt2)|(apply aZ (d:=34);exact rfl;apply aO (ys:=cz e);exact rfl;exact pK;exact ha;exact rfl)|(apply aZ (d:=42);exact rfl;apply aO (ys:=aB f.at_);exact rfl;exact pK;exact hc2;exact rfl)|(apply cM;exact rfl;exact rfl;(intro w hm;exact hOn w))|(apply cM (f:=99);exact rfl;exact rfl;exact fun w' hm=>hT _ mS w' hm)|refine zZH ?_|refine sM fun _=>?_|(refine sC ?_ ?_<;>intro hb<;>try omega)|(refine sCQ ?_ ?_<;>intro hb<;>try omega)|fail)
     all_goals first
      |(exfalso;omega)
      | (refine ⟨(j + 1, A4, c4), hlt2, (by dsimp only; omega), (by dsimp only; rw [hnx2]; exact sB), sB, ?_⟩
         dsimp only;rw [hnx2];exact mS)
  ·have e2:j=L.length:=by omega
   subst e2;rw [RS];repeat' (first|refine zZA ?_|refine sM fun _=>?_|(refine sC ?_ ?_<;>intro hb<;>try omega)|fail)
   all_goals first
    |(exfalso;omega)
    | (refine ⟨(i + 1, A4, c4), hlt, (by dsimp only; omega), (by dsimp only; rw [hnx]; exact sB), sB, ?_⟩
       dsimp only;rw [hnx];exact mS)
 ·have e2:i=L.length:=by omega
  subst e2;rw [RS];repeat' (first|refine zZA ?_|refine sM fun _=>?_|(refine sC ?_ ?_<;>intro hb<;>try omega)|fail)
  all_goals first
   |(exfalso;omega)
   |exact bJ eIO rfl rfl (H' := .own A3 114 4 (fH L L).length c3 ((fH L L).flatMap cj)::(rgB g A cap L++R)) (by unfold rgB;simp only [Re,QV,QW];exact mS) ⟨A3,c3,rfl,rfl⟩
def QJ (r:Option Gr × Int) (v:Value) (H:List Blk):Prop:=match r with
 |(none,e)=>v= .tuple #[.pointer none,.int .i64 e]∧H= []
 |(some G,_)=> ∃ g A cap L R,v= .tuple #[.pointer (some ⟨g,0,none⟩),.int .i64 0]∧H=rgB g A cap L++R∧RGOk R L G
def xc (G:Gr) (L:List Et):Gr:=L.foldl (fun G e=>(fN G e.at_ e.input).1) G
theorem F4 {b:Option Rf} {e:Et} (h:kg b e=0):e.at_.valid=true∧(ofP e.input).2.2=0:=by
 have hg: ∀ (c1 c2 c3:Prop) [Decidable c1] [Decidable c2] [Decidable c3] (z:Int),(if c1 then (3:Int) else if c2 then 12 else if c3 then 2 else z)=0→ ¬ c1∧z=0:=by
  intro c1 c2 c3 _ _ _ z hz;by_cases h1:c1
  ·rw [if_pos h1] at hz;cases hz
  ·rw [if_neg h1] at hz;by_cases h2:c2
   ·rw [if_pos h2] at hz;cases hz
   ·rw [if_neg h2] at hz;by_cases h3:c3
    ·rw [if_pos h3] at hz;cases hz
    ·rw [if_neg h3] at hz;exact ⟨h1,hz⟩
 obtain ⟨h1,h2⟩:=hg _ _ _ _ h;exact ⟨by simpa using h1,h2⟩
theorem rF: ∀ (L:List Et) (i:Nat) (b:Option Rf),(fF i b L).2=0→ ∀ e∈L,e.at_.valid=true∧(ofP e.input).2.2=0
 | [],_,_,_,e,he=>by cases he
 |x::r,i,b,h,e,he=>by
  rw [fF] at h;split at h
  ·rename_i hf;exact absurd h hf
  ·rename_i hf;rcases RF.1 he with rfl|he
   ·exact F4 (Classical.not_not.1 hf)
   ·exact rF r _ _ h e he
theorem Hl: ∀ (L:List Et) (G:Gr),(∀ e∈L,e.at_.valid=true∧(ofP e.input).2.2=0)→yc G L=(some (xc G L),0)
 | [],G,_=>rfl
 |e::r,G,h=>by
  have he:(fN G e.at_ e.input).2=0:=by
   obtain ⟨h1,h2⟩:=h e QY;unfold fN;rw [if_neg (by rw [h1];simp),if_neg (by rw [h2];simp)];split<;>rfl
  rw [yc,if_neg (by rw [he];simp),Hl r _ fun f hf=>h f (Rh _ hf)]
  rfl
theorem Ny (L:List Et):Dk L=if (ik L).2≠0 then (none,(ik L).2) else (some (xc [] L),0):=by
 unfold Dk;split
 ·rfl
 ·rename_i h;exact Hl L [] (rF L 0 none (Classical.not_not.1 h))
theorem Nn (L:List Et) (tv:Value) (w:World) (ht:Reads w tv L.length (L.flatMap pP)) (hlen:L.length≤900):
 FnAt Tryz.prog 47 [tv] w (QJ (Dk L)):=by
 have hC:=fun (w' :World) (H:List Blk) (hm:Mem w w' H)=>x5 L tv w' (ht.of_w0 hm) (by omega);obtain ⟨Al,cl,rfl,hl1,hl2,hl3⟩:=ht;refine ay Tryz.func47 rfl Tryz.ntmps47 rfl ?_;rw [Ny];generalize ik L=c at hC;obtain ⟨ci,ce⟩:=c;dsimp only at hC ⊢;by_cases hce:ce≠0
 ·rw [if_pos hce];repeat' (first|(apply aa (f:=94);exact rfl;exact rfl;(intro w' hm;exact hC w' _ hm))|refine zZB ?_|refine sM fun _=>?_|(refine sC ?_ ?_<;>intro hb<;>try omega)|fail)
  all_goals first
   |(exfalso;omega)
   |exact dB eIO rfl rfl rfl (.nil _) ⟨rfl,rfl⟩
 rw [if_neg hce];have hce0:ce=0:=Classical.not_not.1 hce;subst hce0;refine aI 172 4 ?_;repeat' (first|(apply aa (f:=94);exact rfl;exact rfl;(intro w' hm;exact hC w' _ hm))|refine zZB ?_|refine sM fun _=>?_|(refine sC ?_ ?_<;>intro hb<;>try omega)|fail)
 all_goals try (exfalso;omega)
 rename_i g;refine aw [0,6] rfl (fun x:Nat × Option Nat × Nat × List En × Gr × List Blk=> [(7,.int .i64 (x.1:Int))]) (fun x=>rgB g x.2.1 x.2.2.1 x.2.2.2.1++x.2.2.2.2.2) (fun x=>x.1≤L.length∧GrOk x.2.2.2.2.1∧x.2.2.2.2.1.length≤x.1∧RGOk x.2.2.2.2.2 x.2.2.2.1 x.2.2.2.2.1∧xc [] L=xc x.2.2.2.2.1 (L.drop x.1)) (fun x=>L.length - x.1) (0,none,0,[],[],[]) ⟨by simp,wW,Rg _,⟨(fun _ h=>by cases h),rfl⟩,rfl⟩ sB (by unfold rgB;exact mS) ?_;rintro ⟨i,A,cap,Q,G,R⟩ ⟨hi,hG,hGl,hR,hnew⟩;dsimp only at hi hG hGl hR hnew ⊢;by_cases hlt:i<L.length
 ·obtain ⟨gl,ol,rfl,hrl⟩:=hl3 (by omega);have he:=hrl.elem kz i hlt;rw [Rn hlt] at hnew;generalize L[i]=e at he hnew;have hS:=Nm g A cap Q G e.at_ e.input R w hR hG.sort (by rw [hR.len];omega);have hG' :=hG.set e.at_ e.input;have hGl' :=vT G e.at_ e.input;rw [show xc G (e::L.drop (i+1))=xc (fN G e.at_ e.input).1 (L.drop (i+1)) from rfl] at hnew;generalize fN G e.at_ e.input=sg at hS hnew hG' hGl';obtain ⟨G',se⟩:=sg;dsimp only at hS hnew hG' hGl';repeat' (first|refine zZA ?_|refine sM fun _=>?_|(refine sC ?_ ?_<;>intro hb<;>try omega)|fail)
  all_goals try (exfalso;omega)
  refine gy (id:=8) [11] [] [] (by kernel_rfl) (by kernel_rfl) (by kernel_rfl) (MSub.nil _) ?_;repeat' (first|(apply fq (d:=27);(iterate 3 exact rfl);apply ag (j:=i);exact rfl;exact rfl;exact hlt)|(apply fq (d:=32);(iterate 3 exact rfl);apply ag (j:=i);exact rfl;exact rfl;exact hlt)|(apply fq (d:=29);(iterate 3 exact rfl);apply cD (off:=0) (ys:=aB e.at_) he;(iterate 3 exact rfl))|(apply fq (d:=34);(iterate 3 exact rfl);apply dS (off:=2);exact rfl;exact he;exact rfl)|(apply ak (f:=49);exact rfl;exact rfl;exact FnIn.msub hS (MSub.refl _);rintro _ _ ⟨rfl,A',cap',Q',R',rfl,hsub,hR'⟩)|refine zZK ?_|refine sM fun _=>?_|(refine sC ?_ ?_<;>intro hb<;>try omega)|(refine sCW ?_ ?_<;>intro hb<;>try omega)|fail)
  all_goals first
   |(exfalso;omega)
   |(refine ⟨(i+1,A',cap',Q',G',R'),⟨hlt,hG',(by dsimp only;omega),hR',hnew⟩,(by dsimp only;omega),sB,sB,MSub.refl _⟩)
 ·have e2:i=L.length:=by omega
  subst e2;rw [Sn,show xc G []=G from rfl] at hnew;rw [hnew];repeat' (first|refine zZA ?_|refine sM fun _=>?_|(refine sC ?_ ?_<;>intro hb<;>try omega)|fail)
  all_goals first
   |(exfalso;omega)
   |exact dB eIO rfl rfl rfl (MSub.refl _) ⟨g,A,cap,Q,R,rfl,rfl,hR⟩
end Go.SL
namespace Go.SL
open Go Go.Proofs
attribute [local irreducible] W WL WQ WG WA WX WLI WR WT WC VOp RW thn blk bH scp aV bz bP FnAt FnP ceP
theorem RGOk.look {R:List Blk} {Q:List En} {G:Gr} (h:RGOk R Q G) (c:Rf):(eL Q c).map (fun e=>(e.tree,e.uses))=mq G c:=by
 rw [mq,← h.rel,eL,List.find?_map,Ug]
 rfl
theorem RGOk.fuses {R:List Blk} {Q:List En} {G:Gr} (h:RGOk R Q G) (c:Rf):(aW Q c).uses=dF G c:=by
 rw [dF,← h.look c,aW];cases eL Q c<;>rfl
theorem RGOk.ftree {R:List Blk} {Q:List En} {G:Gr} (h:RGOk R Q G) (c:Rf):(aW Q c).tree=gV G c:=by
 rw [gV,← h.look c,aW];cases eL Q c<;>rfl
theorem RGOk.fis {R:List Blk} {Q:List En} {G:Gr} (h:RGOk R Q G) (c:Rf):(eL Q c).isSome=isG G c:=by
 rw [isG,← h.look c];cases eL Q c<;>rfl
section
variable {R:List Blk} {Q:List En} {G:Gr} (h:RGOk R Q G) (hl:G.length≤900) (gr:Nat) (Ar:Option Nat) (cr:Nat) {H:List Blk} (hs:MSub (rgB gr Ar cr Q++R) H) (w0:World)
include h hl hs
theorem RGOk.uses_any (c:Rf):FnIn Tryz.prog 60 [.pointer (some ⟨gr,0,none⟩),dm c] w0 H fun v H' => ∃ A cap,v=sl A (dF G c).length cap∧H' = .own A 121 6 (dF G c).length cap ((dF G c).flatMap cP)::H:=by
 refine kK (φ:=fun v A cap=>v=sl A (dF G c).length cap) (fun F=> ?_) hs;have h1:=KU gr Ar cr Q c (R++F) w0 (fun e he=>(h.en e he).sub (MSub.appL R F)) (by rw [h.len];omega);rw [h.fuses] at h1;rw [Rx];exact h1
theorem RGOk.tree_any (c:Rf):FnIn Tryz.prog 62 [.pointer (some ⟨gr,0,none⟩),dm c] w0 H fun v H' => ∃ A cap,v= .tuple #[sl A (gV G c).length cap,.bool (isG G c)]∧H' = .own A 123 11 (gV G c).length cap ((gV G c).flatMap bf)::H:=by
 refine kK (φ:=fun v A cap=>v= .tuple #[sl A (gV G c).length cap,.bool (isG G c)]) (fun F=> ?_) hs;have h1:=KV gr Ar cr Q c (R++F) w0 (fun e he=>(h.en e he).sub (MSub.appL R F)) (by rw [h.len];omega);rw [h.ftree,h.fis] at h1;rw [Rx];exact h1
theorem RGOk.formulas_any:FnIn Tryz.prog 56 [.pointer (some ⟨gr,0,none⟩)] w0 H fun v H' => ∃ A cap,v=sl A (aA G).length cap∧H' = .own A 28 2 (aA G).length cap ((aA G).flatMap aB)::H:=by
 refine kK (φ:=fun v A cap=>v=sl A (aA G).length cap) (fun F=> ?_) hs;have h1:=z8 gr Ar cr Q (R++F) w0 (by rw [h.len];omega);rw [h.keys] at h1;rw [Rx];exact h1
variable (hG:GrOk G)
include hG
theorem RGOk.edges_any:FnIn Tryz.prog 58 [.pointer (some ⟨gr,0,none⟩)] w0 H fun v H' => ∃ A cap,v=sl A (bW G).length cap∧H' = .own A 114 4 (bW G).length cap ((bW G).flatMap cj)::H:=by
 refine kK (φ:=fun v A cap=>v=sl A (bW G).length cap) (fun F=> ?_) hs;have h1:=IR gr Ar cr Q (R++F) w0 (fun e he=>(h.en e he).sub (MSub.appL R F)) (by rw [h.len];omega);rw [h.edges hG] at h1;rw [Rx];exact h1
end
structure Gp where
 gg:Nat
 gm:Nat
 E:List En
 clock:Nat
 gr:Nat
 A:Option Nat
 cap:Nat
 Q:List En
 R:List Blk
def Gp.a (x:Gp):List Blk:=gB x.gg x.gm (x.E.map En.m) x.clock
def Gp.b (x:Gp):List Blk:=rgB x.gr x.A x.cap x.Q
def Gp.H (x:Gp):List Blk:=x.a++(x.b++x.R)
def Gp.pa (x:Gp):Value:= .pointer (some ⟨x.gg,0,none⟩)
def Gp.pb (x:Gp):Value:= .pointer (some ⟨x.gr,0,none⟩)
structure Gp.ok (x:Gp) (G:Gr):Prop where
 a:GOk x.R x.E x.clock G
 b:RGOk x.R x.Q G
 g:GrOk G
def Gs.p (x:Gs):Gp:=⟨x.gg,x.gm,x.E,x.clock,x.gr,x.A,x.cap,x.Q,x.R1++x.R2⟩
theorem Gs.p_ok {x:Gs} {G:Gr} (h:x.ok G):x.p.ok G:=⟨h.a.sub (MSub.appL _ _),h.b.sub (MSub.appR _ _),h.g⟩
theorem Gp.subA (x:Gp):MSub (gB x.gg x.gm (x.E.map En.m) x.clock++x.R) x.H:=MSub.mid _ _ _
theorem Gp.subB (x:Gp):MSub (rgB x.gr x.A x.cap x.Q++x.R) x.H:=MSub.appR _ _
section
variable (x:Gp) (G:Gr) (h:x.ok G) {H:List Blk} (hs:MSub x.H H) (w0:World)
include h hs
theorem Gp.usesA (c:Rf):FnIn Tryz.prog 59 [x.pa,dm c] w0 H fun v H' => ∃ A cap,v=sl A (dF G c).length cap∧H' = .own A 121 6 (dF G c).length cap ((dF G c).flatMap cP)::H:=h.a.uses_any x.gg x.gm (MSub.trans x.subA hs) w0 c
theorem Gp.treeA (c:Rf):FnIn Tryz.prog 61 [x.pa,dm c] w0 H fun v H' => ∃ A cap,v= .tuple #[sl A (gV G c).length cap,.bool (isG G c)]∧H' = .own A 123 11 (gV G c).length cap ((gV G c).flatMap bf)::H:=h.a.tree_any x.gg x.gm (MSub.trans x.subA hs) w0 c
variable (hl:G.length≤900)
include hl
theorem Gp.formulas:FnIn Tryz.prog 29 [x.pa] w0 H fun v H' => ∃ A cap,v=sl A (aA G).length cap∧H' = .own A 28 2 (aA G).length cap ((aA G).flatMap aB)::H:=h.a.formulas_any x.gg x.gm (MSub.trans x.subA hs) w0 hl
theorem Gp.edges:FnIn Tryz.prog 55 [x.pa] w0 H fun v H' => ∃ A cap,v=sl A (bW G).length cap∧H' = .own A 114 4 (bW G).length cap ((bW G).flatMap cj)::H:=h.a.edges_any x.gg x.gm (MSub.trans x.subA hs) w0 hl
theorem Gp.usesB (c:Rf):FnIn Tryz.prog 60 [x.pb,dm c] w0 H fun v H' => ∃ A cap,v=sl A (dF G c).length cap∧H' = .own A 121 6 (dF G c).length cap ((dF G c).flatMap cP)::H:=h.b.uses_any hl x.gr x.A x.cap (MSub.trans x.subB hs) w0 c
theorem Gp.treeB (c:Rf):FnIn Tryz.prog 62 [x.pb,dm c] w0 H fun v H' => ∃ A cap,v= .tuple #[sl A (gV G c).length cap,.bool (isG G c)]∧H' = .own A 123 11 (gV G c).length cap ((gV G c).flatMap bf)::H:=h.b.tree_any hl x.gr x.A x.cap (MSub.trans x.subB hs) w0 c
theorem Gp.formulasB:FnIn Tryz.prog 56 [x.pb] w0 H fun v H' => ∃ A cap,v=sl A (aA G).length cap∧H' = .own A 28 2 (aA G).length cap ((aA G).flatMap aB)::H:=h.b.formulas_any hl x.gr x.A x.cap (MSub.trans x.subB hs) w0
theorem Gp.edgesB:FnIn Tryz.prog 58 [x.pb] w0 H fun v H' => ∃ A cap,v=sl A (bW G).length cap∧H' = .own A 114 4 (bW G).length cap ((bW G).flatMap cj)::H:=h.b.edges_any hl x.gr x.A x.cap (MSub.trans x.subB hs) w0 h.g
end
end Go.SL
namespace Go.SL
open Go Go.Proofs
attribute [local irreducible] W WL WQ WG WA WX WLI WR WT WC VOp RW thn blk bH scp aV bz bP FnAt FnIn FnP ceP
def ze (G:Gr) (l:List Pu):Gr:=l.foldl (fun G p=>(fN G p.ref p.input).1) G
def rT (L:List Pu):Gr:=ze [] (L.take 40)
theorem zb: ∀ (l:List Pu) (G:Gr),(ze G l).length≤G.length+l.length
 | [],G=>Rg _
 |p::r,G=>by
  have h1:=zb r (fN G p.ref p.input).1;have h2:=vT G p.ref p.input;simp only [Rk];exact RD h1 (by omega)
theorem EZ (L:List Pu):(rT L).length≤40:=by
 have:=zb (L.take 40) [];rw [RI,Ta] at this;unfold rT;omega
theorem EY (a b R1 R2:List Blk) (p q:Blk):MSub ([p,q]++(a++(b++(R1++R2)))) (p::((b++R2)++((a++R1)++ [q]))):=by
 refine MSub.of_perm (List.Perm.cons p ?_);refine (show ((b++R2)++((a++R1)++ [q])).Perm (q::((b++R2)++(a++R1))) from ?_).trans (List.Perm.cons q ?_)
 ·rw [← Rx];exact RO
 ·refine RO.trans ?_;simp only [Rx];exact (SN R1 b R2).append_left a
theorem Lf:Dk []=(some [],0):=rfl
theorem Ms (L:List Pu) (tv:Value) (w:World) (ht:Reads w tv L.length (L.flatMap tX)) (hW:Words w):
 FnAt Tryz.prog 19 [tv] w fun v H=> ∃ x:Gs,v= .tuple #[.agg #[x.pa,x.pb],.bool true]∧H=x.H∧x.ok (rT L):=by
 have hN:=fun (w' :World) (H:List Blk) (hm:Mem w w' H)=>Mt [] (.slice none 0 0) w' ⟨none,0,rfl,Rg _,QZ _,fun h=>by cases h⟩ (by simp) (hW.next hm);have hM:=fun (w' :World)=>Nn [] (.slice none 0 0) w' ⟨none,0,rfl,Rg _,QZ _,fun h=>by cases h⟩ (by simp);rw [Lf] at hN hM;obtain ⟨Al,cl,rfl,hl1,hl2,hl3⟩:=ht;refine ay Tryz.func19 rfl Tryz.ntmps19 rfl ?_;repeat' (first|(apply aK (f:=13);exact rfl;exact rfl;(intro w' hm;exact hN w' _ hm);rintro _ _ ⟨gg,gm,E,clock,R1,rfl,rfl,hGA⟩)|(apply aK (f:=47);exact rfl;exact rfl;(intro w' hm;exact hM w');rintro _ _ ⟨gr,A,cap,Q,R2,rfl,rfl,hGB⟩)|refine zZB ?_|refine sM fun _=>?_|(refine sC ?_ ?_<;>intro hb<;>try omega)|fail)
 all_goals try (exfalso;omega)
 rename_i g2 g8;refine aw [0,4,6,8,2] rfl (fun y:Nat × Gs × Gr=> [(9,.int .i64 (y.1:Int))]) (fun y=> [.box g8 42 [.pointer (some ⟨gg,0,none⟩),.pointer (some ⟨gr,0,none⟩)],.box g2 42 [.pointer none,.pointer none]]++y.2.1.H) (fun y=>(y.2.1.gg=gg∧y.2.1.gr=gr)∧y.1≤L.length∧y.1≤40∧y.2.1.ok y.2.2∧y.2.2.length≤y.1∧rT L=ze y.2.2 ((L.take 40).drop y.1)) (fun y=>L.length - y.1) (0,⟨gg,gm,E,clock,R1,gr,A,cap,Q,R2⟩,[]) ⟨⟨rfl,rfl⟩,QZ _,QZ _,⟨hGA,hGB,wW⟩,Rg _,rfl⟩ sB (EY _ _ _ _ _ _) ?_;rintro ⟨i,x,G⟩ ⟨⟨hgg,hgr⟩,hi,hi4,hx,hGl,hst⟩;dsimp only at hgg hgr hi hi4 hx hGl hst ⊢;subst hgg hgr;by_cases hlt:i<L.length∧i<40
 ·obtain ⟨hlt,hlt4⟩:=hlt;obtain ⟨gl,ol,rfl,hrl⟩:=hl3 (by omega);have he:=hrl.elem zk i hlt;have hlk:i<(L.take 40).length:=by rw [RI];omega
  rw [Rn hlk,show (L.take 40)[i]=L[i] by rw [Ub]] at hst;generalize L[i]=p at he hst;rw [show ∀ r,ze G (p::r)=ze (fN G p.ref p.input).1 r from fun _=>rfl] at hst;have hAt:=fun w=>Np p w;have hS:=fun F=>x.set G hx p.ref p.input F w hW;have hT:=fun (x' :Gs) (h:RGOk x'.R2 x'.Q G) F=>x'.rset G h hx.g.sort (by omega) p.ref p.input F w;have hg' :=hx.g.set p.ref p.input;have hgl:=vT G p.ref p.input;generalize p.ref=c at hAt hS hT hst hg' hgl;generalize fN G c p.input=sg at hS hT hst hg' hgl;obtain ⟨G',se⟩:=sg;dsimp only at hS hT hst hg' hgl;repeat' (first|refine zZA ?_|refine sM fun _=>?_|(refine sC ?_ ?_<;>intro hb<;>try omega)|fail)
  all_goals try (exfalso;omega)
  refine gy (id:=9) [5,11,17,23] [] [] (by kernel_rfl) (by kernel_rfl) (by kernel_rfl) (MSub.nil _) ?_;repeat' (first|(apply fq;(iterate 3 exact rfl);apply ag (j:=i);exact rfl;exact rfl;exact hlt)|(apply fq;(iterate 3 exact rfl);apply bO;exact rfl;exact he;exact rfl)|(apply fq;(iterate 3 exact rfl);apply dS (off:=2);exact rfl;exact he;exact rfl)|(apply vg;(iterate 4 exact rfl);(intro w hm;exact hAt w))|(apply ak (f:=15);exact rfl;exact rfl;exact FnIn.msub (hS [.box g8 42 [.pointer (some ⟨x.gg,0,none⟩),.pointer (some ⟨x.gr,0,none⟩)],.box g2 42 [.pointer none,.pointer none]]) (MSub.refl _);rintro _ _ ⟨rfl,E',clock',R1',rfl,hs1,hG1⟩)|(apply ak (f:=49);exact rfl;exact rfl;exact FnIn.msub (hT { x with E:=E',clock:=clock',R1:=R1' } hx.b [.box g8 42 [.pointer (some ⟨x.gg,0,none⟩),.pointer (some ⟨x.gr,0,none⟩)],.box g2 42 [.pointer none,.pointer none]]) (MSub.refl _);rintro _ _ ⟨rfl,A',cap',Q',R2',rfl,hs2,hG2⟩)|(apply fq;(iterate 3 exact rfl);apply p6;exact rfl;exact rfl)|refine zZK ?_|refine sM fun _=>?_|(refine sC ?_ ?_<;>intro hb<;>try omega)|(refine sCW ?_ ?_<;>intro hb<;>try omega)|fail)
  all_goals first
   |(exfalso;omega)
   |(refine ⟨(i+1,{ x with E:=E',clock:=clock',R1:=R1',A:=A',cap:=cap',Q:=Q',R2:=R2' },G'),⟨⟨rfl,rfl⟩,hlt,hlt4,⟨hG1,hG2,hg'⟩,(by dsimp only;omega),hst⟩,(by dsimp only;omega),sB,sB,MSub.refl _⟩)
 ·have hdr:(L.take 40).drop i= []:=by
   rw [UI,RI];omega
  rw [hdr,show ze G []=G from rfl] at hst;rw [← hst] at hx;repeat' (first|refine zZA ?_|refine sM fun _=>?_|(refine sC ?_ ?_<;>intro hb<;>try omega)|fail)
  all_goals first
   |(exfalso;omega)
   |exact G9 eIO rfl rfl pK rfl rfl (H' :=x.H) (MSub.drop .hd (MSub.drop .hd (MSub.refl _))) ⟨x,rfl,rfl,hx⟩
theorem J0 (L:List Pu) (tv:Value) (w:World) (ht:Reads w tv L.length (L.flatMap tX)) (hW:Words w):
 FnAt Tryz.prog 19 [tv] w fun v H=> ∃ x:Gp,v= .tuple #[.agg #[x.pa,x.pb],.bool true]∧H=x.H∧x.ok (rT L):=
 (Ms L tv w ht hW).mono fun v H ⟨x,h1,h2,h3⟩=>⟨x.p,h1,h2,Gs.p_ok h3⟩
theorem Pf {L:List Rf} {k:Nat} (h:k<L.length):((L.flatMap aB).drop (0+k*2)).take 2=aB L[k]:=by
 rw [Rv];exact fD eW L k h
end Go.SL
namespace Go.Proofs
open Go Go.Shelf Go.RowKit Go.Lib Go.Sort Go.SL
def Tryz.sortJj_ren:Go.Shelf.Ren:=⟨fun|6=>118|15=>86|14=>172|28=>131|29=>132|20=>222|21=>223|22=>224|23=>225|24=>226|25=>227|26=>228|27=>229|46=>269|47=>174|48=>175|49=>270|50=>271|57=>292|n=>n,fun|22=>64|24=>68|25=>192|3=>3|39=>159|0=>0|53=>209|55=>49|4=>4|46=>202|45=>201|50=>76|5=>5|9=>9|66=>245|70=>249|76=>292|77=>293|n=>n,fun|n=>n⟩
theorem Tryz.sortJj:Go.Proofs.SlLaysF.n6 Tryz.prog Tryz.sortJj_ren:={
 mixed:=by kernel_rfl
 f6:=⟨Tryz.f118.name,by decide,Tryz.func118.trans (congrArg some (by kernel_rfl))⟩
 f14:=⟨Tryz.f172.name,by decide,Tryz.func172.trans (congrArg some (by kernel_rfl))⟩
 f15:=Tryz.func86.trans (congrArg some (by kernel_rfl))
 f20:=⟨Tryz.f222.name,by decide,Tryz.func222.trans (congrArg some (by kernel_rfl))⟩
 f21:=⟨Tryz.f223.name,by decide,Tryz.func223.trans (congrArg some (by kernel_rfl))⟩
 f22:=⟨Tryz.f224.name,by decide,Tryz.func224.trans (congrArg some (by kernel_rfl))⟩
 f23:=⟨Tryz.f225.name,by decide,Tryz.func225.trans (congrArg some (by kernel_rfl))⟩
 f24:=⟨Tryz.f226.name,by decide,Tryz.func226.trans (congrArg some (by kernel_rfl))⟩
 f25:=⟨Tryz.f227.name,by decide,Tryz.func227.trans (congrArg some (by kernel_rfl))⟩
 f26:=⟨Tryz.f228.name,by decide,Tryz.func228.trans (congrArg some (by kernel_rfl))⟩
 f27:=⟨Tryz.f229.name,by decide,Tryz.func229.trans (congrArg some (by kernel_rfl))⟩
 f28:=Tryz.func131.trans (congrArg some (by kernel_rfl))
 f29:=Tryz.func132.trans (congrArg some (by kernel_rfl))
 f46:=⟨Tryz.f269.name,by decide,Tryz.func269.trans (congrArg some (by kernel_rfl))⟩
 f47:=Tryz.func174.trans (congrArg some (by kernel_rfl))
 f48:=Tryz.func175.trans (congrArg some (by kernel_rfl))
 f49:=⟨Tryz.f270.name,by decide,Tryz.func270.trans (congrArg some (by kernel_rfl))⟩
 f50:=⟨Tryz.f271.name,by decide,Tryz.func271.trans (congrArg some (by kernel_rfl))⟩
 f57:=⟨Tryz.f292.name,by decide,Tryz.func292.trans (congrArg some (by kernel_rfl))⟩
 t0:=Tryz.underlying0
 a0:=Tryz.isAgg0
 z0:=Tryz.sizeOf0
 v0:=Tryz.zeroValue0
 t3:=Tryz.underlying3
 a3:=Tryz.isAgg3
 z3:=Tryz.sizeOf3
 v3:=Tryz.zeroValue3
 t4:=Tryz.underlying4
 a4:=Tryz.isAgg4
 z4:=Tryz.sizeOf4
 v4:=Tryz.zeroValue4
 t5:=Tryz.underlying5
 a5:=Tryz.isAgg5
 z5:=Tryz.sizeOf5
 v5:=Tryz.zeroValue5
 t9:=Tryz.underlying9
 a9:=Tryz.isAgg9
 z9:=Tryz.sizeOf9
 v9:=Tryz.zeroValue9
 t22:=Tryz.underlying64
 a22:=Tryz.isAgg64
 z22:=Tryz.sizeOf64
 v22:=Tryz.zeroValue64
 a24:=Tryz.isAgg68
 z24:=Tryz.sizeOf68
 t25:=Tryz.underlying192
 a25:=Tryz.isAgg192
 z25:=Tryz.sizeOf192
 v25:=Tryz.zeroValue192
 t39:=Tryz.underlying159
 a39:=Tryz.isAgg159
 z39:=Tryz.sizeOf159
 v39:=Tryz.zeroValue159
 t45:=Tryz.underlying201
 a45:=Tryz.isAgg201
 z45:=Tryz.sizeOf201
 v45:=Tryz.zeroValue201
 t46:=Tryz.underlying202
 a46:=Tryz.isAgg202
 z46:=Tryz.sizeOf202
 v46:=Tryz.zeroValue202
 t50:=Tryz.underlying76
 a50:=Tryz.isAgg76
 z50:=Tryz.sizeOf76
 v50:=Tryz.zeroValue76
 t53:=Tryz.underlying209
 a53:=Tryz.isAgg209
 z53:=Tryz.sizeOf209
 v53:=Tryz.zeroValue209
 t55:=Tryz.underlying49
 a55:=Tryz.isAgg49
 z55:=Tryz.sizeOf49
 v55:=Tryz.zeroValue49
 t66:=Tryz.underlying245
 a66:=Tryz.isAgg245
 z66:=Tryz.sizeOf245
 v66:=Tryz.zeroValue245
 t70:=Tryz.underlying249
 a70:=Tryz.isAgg249
 z70:=Tryz.sizeOf249
 v70:=Tryz.zeroValue249
 t76:=Tryz.underlying292
 a76:=Tryz.isAgg292
 z76:=Tryz.sizeOf292
 v76:=Tryz.zeroValue292
 t77:=Tryz.underlying293
 a77:=Tryz.isAgg293
 z77:=Tryz.sizeOf293
 v77:=Tryz.zeroValue293 }
theorem Tryz.cmpJj (A B oa ob la ca lb cb:Nat) (x y:Nat) (W:World) (hx:x<1000000) (hy:y<1000000) (hA:A<W.heap.size) (hB:B<W.heap.size) (cA:W.cell? ⟨A,oa,none⟩=some (.int .i64 (x:Int))) (cB:W.cell? ⟨B,ob,none⟩=some (.int .i64 (y:Int))) (hla:0<la) (hlb:0<lb):Calls Tryz.prog 119 #[.slice (some ⟨A,oa,none⟩) la ca,.slice (some ⟨B,ob,none⟩) lb cb] W fun e w' =>e= .returned (.int .i64 ((x:Int) - (y:Int)))∧ ∃ q os',w' =grow (W.drewN q) os' :=by
 have cA' : ∀ q os,(grow (W.drewN q) os).cell? ⟨A,oa,none⟩=some (.int .i64 (x:Int)):=fun q os=>cell_grown hA cA q os;have cB' : ∀ q os,(grow (W.drewN q) os).cell? ⟨B,ob,none⟩=some (.int .i64 (y:Int)):=fun q os=>cell_grown hB cB q os;have hw:IntKind.i64.wrap ((x:Int) - (y:Int))=(x:Int) - (y:Int):=I64.wrap ⟨by omega,by omega⟩
 go_enter Tryz.func119,Tryz.ntmps119
 have hla' :(0:Int)<(la:Int):=by omega
 have hlb' :(0:Int)<(lb:Int):=by omega
 go_wp2
 go_region
 all_goals (go_wp2;go_ret;exact ⟨rfl,1,#[],by rw [grow_empty];rfl⟩)
end Go.Proofs
namespace Go.SL
open Go Go.Proofs Go.Sort Go.Shelf
theorem Fy {α:Type} [Inhabited α] (enc:α→Value) (L:List α) (xs junk:List Value) (hl:xs.length=L.length):putCells enc 0 L.toArray (xs++junk).toArray=(L.map enc++junk).toArray:=by
 apply UN;intro j;simp only [putCells,U2,RX,Ti,QZ,true_and,Rv,Td];by_cases hj:j<L.length
 ·rw [RC (by omega),RC (by rw [RA];omega),Rj,QU (by omega),QU hj];simp [hj]
 ·rw [RM (by omega),RM (by rw [RA];omega),hl,RA];simp [hj]
theorem Co (p:Option Addr) (cap:Nat) (fv:Value) (w:World):aC Tryz.prog 118 [.slice p 0 cap,fv] w (.tuple #[]):=
 (AnyF.slices_SortFunc_none { Tryz.sortJj with } p cap fv w).mono fun e w' ⟨h1,h2⟩=>⟨_,[],h1,by rw [h2];exact Mem.refl w,rfl⟩
theorem Cm (O:List (List Nat)) (vs:List Value) (g cap:Nat) (Z:List Blk) (w0:World) (hv:JIn Z vs O) (hne: ∀ p∈O,p≠ []) (hinj: ∀ i j,i<O.length→j<O.length→atN (au O i) 0=atN (au O j) 0→i=j) (hbd: ∀ p∈O,∀ v∈p,v<1000000) (hn:0<O.length) (hlen:O.length≤1000000):
 FnIn Tryz.prog 118 [sl (some g) O.length cap,.func (.func 119) #[] #[]] w0 (.own (some g) 68 1 O.length cap vs::Z) fun v H=>v= .tuple #[]∧ ∃ (P:List (List Nat)) (vs' :List Value),P.Perm O∧JIn Z vs' P∧H= .own (some g) 68 1 O.length cap vs' ::Z:=by
 intro w hm
 haveI:Inhabited (Fin O.length):=⟨⟨0,hn⟩⟩
 obtain ⟨⟨h1,h2,h3,junk,h4,h5⟩,hkk⟩:=hm.on _ QY;have hlt:g<w.heap.size:=(RQ.1 h5).1;rw [RV] at h1;let enc:Fin O.length→Value:=fun i=>(vs[i.1]?).getD .nilIface;let cf:Fin O.length→Fin O.length→Int:=fun i j=>(atN (au O i.1) 0:Int) - (atN (au O j.1) 0:Int);have hO: ∀ i:Fin O.length,au O i.1=O[i.1]:=fun i=>by unfold au;rw [QU i.2];rfl
 have hmemO: ∀ i:Fin O.length,au O i.1∈O:=fun i=>by rw [hO];exact RL i.2
 have hpos: ∀ i:Fin O.length,0<(au O i.1).length:=fun i=>TW.2 (hne _ (hmemO i));have hsl: ∀ i:Fin O.length,∃ ga o c,enc i= .slice (some ⟨ga,o,none⟩) (au O i.1).length c∧ ∀ w',Mem w0 w' Z→Ro w' ga o (nzC (au O i.1)):=fun i=>by
  obtain ⟨u,hu,hr⟩:=hv.2 i.1 i.2;have he:enc i=u:=by show (vs[i.1]?).getD _=u;rw [hu];rfl
  obtain ⟨A,c,e1,_,_,h6⟩:=hr w hm.tail;obtain ⟨ga,o,e2,_⟩:=h6 (hpos i);refine ⟨ga,o,c,by rw [he,e1,e2],fun w' hm' => ?_⟩;obtain ⟨A',c',e1',_,_,h6'⟩:=hr w' hm';obtain ⟨ga',o',e2',h7⟩:=h6' (hpos i);rw [e1,e2] at e1';injection e1' with e3 e4 e5;rw [e2'] at e3;injection e3 with e3;injection e3 with e6 e7 e8;rw [e6,e7];exact h7
 have h1c:OneCell enc:=fun i=>by
  obtain ⟨ga,o,c,e,_⟩:=hsl i;rw [e];rfl
 have hmap:(List.finRange O.length).map enc=vs:=by
  apply Sz;intro j;by_cases hj:j<O.length
  ·rw [Rj,QU (by simpa using hj)];simp only [List.getElem_finRange,Sq];show some ((vs[j]?).getD _)=vs[j]?;rw [QU (by rw [h1];exact hj)]
   rfl
  ·rw [Ry (by simp;omega),Ry (by rw [h1];omega)]
 have hmw: ∀ (m:Nat) (os:Array Obj) (D:List (Fin O.length)),D.length=O.length→Mem w0 (sortWorld enc w g 0 m D.toArray os) (.own (some g) 68 1 O.length cap (D.map enc)::Z):=fun m os D hD=>by
  refine hm.upd (tE w g m D.toArray os) (b' := .own (some g) 68 1 O.length cap (D.map enc)) ?_ fun k hk=> .inl hk;refine ⟨by rw [RA,hD,RV],h2,h3,junk,by rw [QT,RA,hD,← h1,← QT];exact h4,?_⟩;have h6:=vO (enc:=enc) w g m D.toArray os _ _ _ h5;rw [Fy enc D _ _ (by rw [hD,h1])] at h6;exact h6
 have hH:Holds enc w g 0 (List.finRange O.length).toArray:=by
  intro j hj;simp only [Ti,List.length_finRange] at hj;have hc:(vs++junk).toArray[j]? =some (enc (List.finRange O.length).toArray[j]!):=by
   rw [RX,RC (by rw [h1];exact hj)];have:(List.finRange O.length).toArray[j]! =⟨j,hj⟩:=by
    rw [getElem!_pos _ _ (by simpa using hj)];simp
   rw [this];show vs[j]? =some ((vs[j]?).getD _);rw [QU (by rw [h1];exact hj)]
   rfl
  constructor
  ·simp only [World.cell?,Rv,h5];exact hc
  ·simp [World.frozen?,h5]
 have eg: ∀ args w,(callFunc 119 args).run Tryz.prog w= .ok (.enter 119 args) w:=enters_of Tryz.func119 (by kernel_rfl) rfl;have hSW:SWO (ltOf cf):=⟨fun x=>by simp [ltOf,cf],fun x y z h1 h2=>by simp [ltOf,cf] at*;omega,fun x y z h1 h2=>by simp [ltOf,cf] at*;omega⟩;have hT: ∀ x y,ltOf cf x y=false→ltOf cf y x=false→x=y:=fun x y h1 h2=>by
  simp [ltOf,cf] at h1 h2;exact Fin.ext (hinj x.1 y.1 x.2 y.2 (by omega))
 have hcmp:CmpLays1 Tryz.prog 119 #[] enc cf g 0 (List.finRange O.length).toArray.size w:=fun m os dk hs x y=>by
  have hdl:dk.toList.length=O.length:=by rw [Array.length_toList,hs];simp
  have hM:=(hmw m os dk.toList hdl).tail;obtain ⟨ga,oa,ca,e1,r1⟩:=hsl x;obtain ⟨gb,ob,cb,e2,r2⟩:=hsl y;have r1:=r1 _ hM;have r2:=r2 _ hM;have hv1:=hbd _ (hmemO x) _ (kU (hne _ (hmemO x)));have hv2:=hbd _ (hmemO y) _ (kU (hne _ (hmemO y)));have hc:=Tryz.cmpJj ga gb oa ob _ ca _ cb (atN (au O x.1) 0) (atN (au O y.1) 0) _ hv1 hv2 r1.lt r2.lt (r1.cells 0 _ (sn (hpos x))) (r2.cells 0 _ (sn (hpos y))) (hpos x) (hpos y);rw [← e1,← e2] at hc;exact hc
 have hs:=Any.slices_SortFunc_total Tryz.sortJj enc h1c cf hSW 119 #[] g 0 cap (List.finRange O.length).toArray w eg hcmp hH hlt (by simp;omega) hT;have hsz:(List.finRange O.length).toArray.size=O.length:=by simp
 rw [hsz] at hs;refine hs.mono ?_;rintro e w' ⟨rfl,n,os,rfl⟩;have hp:=TV (List.finRange O.length) fun x y=> !(ltOf cf) y x;have hdl:((List.finRange O.length).mergeSort fun x y=> !(ltOf cf) y x).length=O.length:=by rw [hp.length_eq,List.length_finRange]
 generalize hD:((List.finRange O.length).mergeSort fun x y=> !(ltOf cf) y x)=D at hp hdl;have hmO:(List.finRange O.length).map (fun i=>au O i.1)=O:=by
  apply Sz;intro j;by_cases hj:j<O.length
  ·rw [Rj,QU (by simpa using hj),QU hj];simp [hO ⟨j,hj⟩]
  ·rw [Ry (by simp;omega),Ry (by omega)]
 refine ⟨_,_,rfl,?_,rfl,D.map fun i=>au O i.1,D.map enc,?_,?_,rfl⟩
 ·have h6:=hmw n os D hdl;rw [← hD] at h6 ⊢;exact h6
 ·have h6:=hp.map fun i=>au O i.1;rwa [hmO] at h6
 ·refine ⟨by simp,fun i hi=> ?_⟩;rw [RA] at hi;obtain ⟨u,hu,hr⟩:=hv.2 D[i].1 D[i].2;refine ⟨u,?_,fun w2 hm2=> ?_⟩
  ·rw [Rj,QU hi];show some ((vs[D[i].1]?).getD _)=_;rw [hu];rfl
  ·have:au (D.map fun i=>au O i.1) i=au O D[i].1:=by
    unfold au;rw [Rj,QU hi]
    rfl
   rw [this];exact hr w2 hm2
theorem Iw (O:List (List Nat)) (vs:List Value) (A:Option Nat) (cap:Nat) (Z:List Blk) (w0:World) (hv:JIn Z vs O) (hne: ∀ p∈O,p≠ []) (hinj: ∀ i j,i<O.length→j<O.length→atN (au O i) 0=atN (au O j) 0→i=j) (hbd: ∀ p∈O,∀ v∈p,v<1000000) (hlen:O.length≤1000000):
 FnIn Tryz.prog 118 [sl A O.length cap,.func (.func 119) #[] #[]] w0 (.own A 68 1 O.length cap vs::Z) fun v H=>v= .tuple #[]∧ ∃ (P:List (List Nat)) (vs' :List Value),P.Perm O∧JIn Z vs' P∧H= .own A 68 1 O.length cap vs' ::Z:=by
 rcases SY O.length with h0|h0
 ·intro w hm;rw [h0];refine Calls.mono (Co (A.map fun g=>⟨g,0,none⟩) cap _ w) ?_;rintro e w' ⟨v,H,rfl,hm',rfl⟩;rw [← h0];exact ⟨_,_,rfl,(hm.call hm').right,rfl,O,vs,.refl _,hv,rfl⟩
 ·cases A with
  |some g=>exact Cm O vs g cap Z w0 hv hne hinj hbd h0 hlen
  |none=>
   intro w hm;obtain ⟨⟨_,_,_,h4⟩,_⟩:=hm.on _ QY;omega
end Go.SL
namespace Go.SL
open Go Go.Proofs
attribute [local irreducible] W WL WQ WG WA WX WLI WR WT WC VOp RW thn blk bH scp aV bz bP FnAt FnIn FnP ceP
theorem K4 {xs:List Value} {L:List Rf} {i:Nat} (h:i<L.length) (hx:xs.length=i*2):
 ∃ ys:List Value,ys.length=(i+1)*2∧(xs++(L.drop i).flatMap aB).take (0+i*2)++aB ⟨0,0⟩++(xs++(L.drop i).flatMap aB).drop (0+i*2+2)=ys++(L.drop (i+1)).flatMap aB:=by
 refine ⟨xs++aB ⟨0,0⟩,by simp [aB,hx];omega,?_⟩;rw [Rn h,Rl];have e1:(xs++(aB L[i]++(L.drop (i+1)).flatMap aB)).take (0+i*2)=xs:=by
  rw [Rv,← hx,List.take_left']
  rfl
 have e2:(xs++(aB L[i]++(L.drop (i+1)).flatMap aB)).drop (0+i*2+2)=(L.drop (i+1)).flatMap aB:=by
  rw [← Rx,List.drop_left'];simp [aB,hx]
 rw [e1,e2]
theorem Ok (x:Gp) (G:Gr) (h:x.ok G) (hl:G.length≤900) {H:List Blk} (hH:MSub x.H H) (w0:World):
 FnIn Tryz.prog 25 [.agg #[x.pa,x.pb]] w0 H fun v H' =>v= .bool true∧H' =H:=by
 refine bF Tryz.func25 rfl Tryz.ntmps25 rfl ?_;have hF:=fun (H:List Blk) (hs:MSub x.H H)=>x.formulas G h hs w0 hl;have hE:=fun (H:List Blk) (hs:MSub x.H H)=>x.edges G h hs w0 hl;have hF2:=fun (H:List Blk) (hs:MSub x.H H)=>x.formulasB G h hs w0 hl;have hE2:=fun (H:List Blk) (hs:MSub x.H H)=>x.edgesB G h hs w0 hl;have hU:=fun (c:Rf) (H:List Blk) (hs:MSub x.H H)=>x.usesA G h hs w0 c;have hU2:=fun (c:Rf) (H:List Blk) (hs:MSub x.H H)=>x.usesB G h hs w0 hl c;have hT:=fun (c:Rf) (H:List Blk) (hs:MSub x.H H)=>x.treeA G h hs w0 c;have hT2:=fun (c:Rf) (H:List Blk) (hs:MSub x.H H)=>x.treeB G h hs w0 hl c;have hul:=fun c=>Ih h.g c;have htl:=fun c=>Ij h.g c;have hkl:(aA G).length≤900:=by rw [aA,RA];exact hl
 have hel:(bW G).length≤1000000:=by
  refine RD (xy G) ?_;exact RD (Nat.mul_le_mul hl hl) (by decide)
 generalize aA G=K at hF hF2 hkl;generalize bW G=P at hE hE2 hel;repeat' (first|refine zZB ?_|refine sM fun _=>?_|(refine sC ?_ ?_<;>intro hb<;>try omega)|fail)
 rename_i g1;refine gy (id:=1) [2,5] [] [.box g1 42 [x.pa,x.pb]] (by kernel_rfl) (by kernel_rfl) (by kernel_rfl) (MSub.pick .hd (MSub.nil _)) ?_;repeat' (first|(apply ak (f:=29);exact rfl;exact rfl;exact hF _ (MSub.trans hH mS);rintro _ _ ⟨A1,c1,rfl,rfl⟩)|(apply ak (f:=55);exact rfl;exact rfl;exact hE _ (MSub.trans hH mS);rintro _ _ ⟨A2,c2,rfl,rfl⟩)|refine zZI ?_|refine sM fun _=>?_|(refine sC ?_ ?_<;>intro hb<;>try omega)|(refine sCW ?_ ?_<;>intro hb<;>try omega)|fail)
 all_goals try (exfalso;omega)
 repeat' (first|(apply ak (f:=56);exact rfl;exact rfl;exact hF2 _ (MSub.trans hH mS);rintro _ _ ⟨A3,c3,rfl,rfl⟩)|(apply ak (f:=58);exact rfl;exact rfl;exact hE2 _ (MSub.trans hH mS);rintro _ _ ⟨A4,c4,rfl,rfl⟩)|(apply aa (f:=23);exact rfl;exact rfl;(intro w' hm;exact dO rfl (Reads.of_own hm pK) (Reads.of_own hm pK)))|(apply aa (f:=57);exact rfl;exact rfl;(intro w' hm;exact yf rfl (Reads.of_own hm pK) (Reads.of_own hm pK)))|refine zZB ?_|refine sM fun _=>?_|(refine sC ?_ ?_<;>intro hb<;>try omega)|fail)
 all_goals try (exfalso;omega)
 refine aw [1,3,4] rfl (fun y:Nat × List Value=> [(5,.int .i64 (y.1:Int))]) (fun y=> .own A2 114 4 P.length c2 y.2:: .own A1 28 2 K.length c1 (K.flatMap aB):: .box g1 42 [x.pa,x.pb]::H) (fun y=>y.1≤P.length∧y.2.length=P.length*4) (fun y=>P.length - y.1) (0,P.flatMap cj) ⟨QZ _,bR o6 _⟩ sB mS ?_;rintro ⟨i,xs⟩ ⟨hi,hxs⟩;dsimp only at hi hxs ⊢;refine tu (A:=A2) .hd fun q1 q2 q3=> ?_;by_cases hlt:i<P.length
 ·refine bg (A:=A2) .hd (by omega) fun gp hA=> ?_;subst hA;repeat' (first|(apply ai;exact rfl;apply ag;exact rfl;exact rfl;exact hlt)|(apply ai;exact rfl;apply yz;(iterate 3 exact rfl))|(apply mP (vs:=aB ⟨0,0⟩);exact rfl;exact rfl;exact pK;exact rfl;exact rfl;decide;omega)|refine zZA ?_|refine sM fun _=>?_|(refine sC ?_ ?_<;>intro hb<;>try omega)|fail)
  refine ⟨(i+1,xs.take (0+i*4)++aB ⟨0,0⟩++xs.drop (0+i*4+2)),?_,(by first|omega|(dsimp only;omega)),sB,sB,mS⟩;refine ⟨hlt,?_⟩;simp only [QT,RI,RE,show (aB ⟨0,0⟩).length=2 from rfl];omega
 ·repeat' (first|refine zZA ?_|refine sM fun _=>?_|(refine sC ?_ ?_<;>intro hb<;>try omega)|fail)
  refine aw [1,3] rfl (fun y:Nat × List Value=> [(6,.int .i64 (y.1:Int))]) (fun y=> .own A1 28 2 K.length c1 (y.2++(K.drop y.1).flatMap aB):: .box g1 42 [x.pa,x.pb]::H) (fun y=>y.1≤K.length∧y.2.length=y.1*2) (fun y=>K.length - y.1) (0,[]) ⟨QZ _,rfl⟩ sB mS ?_;rintro ⟨i,xs⟩ ⟨hi,hxs⟩;dsimp only at hi hxs ⊢;by_cases hlt:i<K.length
  ·refine tu (A:=A1) .hd fun q1 q2 q3=> ?_;refine bg (A:=A1) .hd (by omega) fun gk hA=> ?_;subst hA;obtain ⟨ys,hys,hover⟩:=K4 hlt hxs;have hread:((xs++(K.drop i).flatMap aB).drop (0+i*2)).take 2=aB K[i]:=by
    rw [Rv,← hxs,List.drop_left',Rn hlt,Rl,List.take_left']
    ·rfl
    ·rfl
   generalize K[i]=c at hread;have hsz:(xs++(K.drop i).flatMap aB).length=K.length*2:=q1;repeat' (first|(apply ai;exact rfl;apply ag;exact rfl;exact rfl;exact hlt)|(apply ai;exact rfl;apply aO;exact rfl;exact pK;exact hread;exact rfl)|(apply mP (vs:=aB ⟨0,0⟩);exact rfl;exact rfl;exact pK;exact rfl;exact rfl;decide;(rw [hsz];omega))|refine zZA ?_|refine sM fun _=>?_|(refine sC ?_ ?_<;>intro hb<;>try omega)|fail)
   rename_i g7;rw [hover];have u1:=hU c;have u2:=hU2 c;have u3:=hul c;have t1:=hT c;have t2:=hT2 c;have t3:=htl c;generalize dF G c=U at u1 u2 u3;generalize gV G c=T at t1 t2 t3;generalize isG G c=b at t1 t2;refine gy (id:=13) [3,7] [] [.box g7 28 (aB c),.box g1 42 [x.pa,x.pb]] (by kernel_rfl) (by kernel_rfl) (by kernel_rfl) mS ?_;repeat' (first|(apply ak (f:=59);exact rfl;exact rfl;exact u1 _ (MSub.trans hH mS);rintro _ _ ⟨A5,c5,rfl,rfl⟩)|(apply ak (f:=60);exact rfl;exact rfl;exact u2 _ (MSub.trans hH mS);rintro _ _ ⟨A6,c6,rfl,rfl⟩)|(apply ak (f:=61);exact rfl;exact rfl;exact t1 _ (MSub.trans hH mS);rintro _ _ ⟨A7,c7,rfl,rfl⟩)|(apply ak (f:=62);exact rfl;exact rfl;exact t2 _ (MSub.trans hH mS);rintro _ _ ⟨A8,c8,rfl,rfl⟩)|(apply aa (f:=63);exact rfl;exact rfl;(intro w' hm;exact Bi rfl (Reads.of_own hm pK) (Reads.of_own hm pK)))|(apply aa (f:=64);exact rfl;exact rfl;(intro w' hm;exact Bk rfl (Reads.of_own hm pK) (Reads.of_own hm pK)))|(apply ai;exact rfl;apply p6;exact rfl;exact rfl)|refine zZI ?_|refine sM fun _=>?_|(refine sC ?_ ?_<;>intro hb<;>try omega)|(refine sCW ?_ ?_<;>intro hb<;>try omega)|fail)
   all_goals first|(exfalso;omega)|(exfalso;simp at hb;done)|skip
   refine aw [1,3,6,8,10] rfl (fun y:Nat × List Value=> [(14,.int .i64 (y.1:Int))]) (fun y=> .own A5 121 6 U.length c5 y.2:: .own A7 123 11 T.length c7 (T.flatMap bf):: .own (some gk) 28 2 K.length c1 (ys++(K.drop (i+1)).flatMap aB):: .box g1 42 [x.pa,x.pb]::H) (fun y=>y.1≤U.length∧y.2.length=U.length*6) (fun y=>U.length - y.1) (0,U.flatMap cP) ⟨QZ _,bR kW _⟩ sB mS ?_;rintro ⟨k,us⟩ ⟨hk,hus⟩;dsimp only at hk hus ⊢;by_cases hku:k<U.length
   ·refine bg (A:=A5) .hd (by omega) fun gu hA=> ?_;subst hA;repeat' (first|(apply ai;exact rfl;apply ag;exact rfl;exact rfl;exact hku)|(apply aU;exact rfl;exact rfl;exact pK;exact rfl;omega)|refine zZA ?_|refine sM fun _=>?_|(refine sC ?_ ?_<;>intro hb<;>try omega)|fail)
    refine ⟨(k+1,us.set (0+k*6) (.int .i64 0)),?_,(by first|omega|(dsimp only;omega)),sB,sB,mS⟩;exact ⟨hku,by simpa using hus⟩
   ·repeat' (first|refine zZA ?_|refine sM fun _=>?_|(refine sC ?_ ?_<;>intro hb<;>try omega)|fail)
    refine aw [1,3,6,10] rfl (fun y:Nat × List Value=> [(15,.int .i64 (y.1:Int))]) (fun y=> .own A7 123 11 T.length c7 y.2:: .own (some gk) 28 2 K.length c1 (ys++(K.drop (i+1)).flatMap aB):: .box g1 42 [x.pa,x.pb]::H) (fun y=>y.1≤T.length∧y.2.length=T.length*11) (fun y=>T.length - y.1) (0,T.flatMap bf) ⟨QZ _,bR cu _⟩ sB mS ?_;rintro ⟨k,us⟩ ⟨hk,hus⟩;dsimp only at hk hus ⊢;by_cases hku:k<T.length
    ·refine bg (A:=A7) .hd (by omega) fun gu hA=> ?_;subst hA;repeat' (first|(apply ai;exact rfl;apply ag;exact rfl;exact rfl;exact hku)|(apply aU;exact rfl;exact rfl;exact pK;exact rfl;omega)|refine zZA ?_|refine sM fun _=>?_|(refine sC ?_ ?_<;>intro hb<;>try omega)|fail)
     refine ⟨(k+1,us.set (0+k*11) (.int .u8 0)),?_,(by first|omega|(dsimp only;omega)),sB,sB,mS⟩;exact ⟨hku,by simpa using hus⟩
    ·repeat' (first|refine zZA ?_|refine sM fun _=>?_|(refine sC ?_ ?_<;>intro hb<;>try omega)|fail)
     refine ⟨(i+1,ys),?_,(by first|omega|(dsimp only;omega)),sB,sB,mS⟩;exact ⟨hlt,hys⟩
  ·repeat' (first|refine zZA ?_|refine sM fun _=>?_|(refine sC ?_ ?_<;>intro hb<;>try omega)|fail)
   all_goals exact bJ eIO rfl rfl (H' :=H) mS ⟨rfl,rfl⟩
end Go.SL
