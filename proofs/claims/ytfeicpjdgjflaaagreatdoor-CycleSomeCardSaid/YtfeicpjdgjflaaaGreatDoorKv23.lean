/-
  Lemmas and walks, put together: Za Zb Zh Zk Ze Zc.
-/
import Derived.Test.YtfeicpjdgjflaaaGreatDoorKv22
set_option linter.unusedSimpArgs false
set_option linter.unusedVariables false
set_option maxRecDepth 20000
set_option maxHeartbeats 16000000
namespace Go.SL
open Go Go.Proofs Go.Sort Go.Shelf
attribute [local irreducible] W WL WQ WG WA WX WLI WR WT WC WE VOp RW thn blk bg scp aS aV bi FnAt FnIn FnP ceP
def nzC (l:List Nat):List Value:=l.map fun i:Nat=>Value.int .i64 (i:Int)
theorem mL (l:List Nat):(nzC l).length=l.length:=by simp [nzC]
theorem yM (l:List Nat):(nzC l).length=l.length*1:=by simp [nzC]
theorem Du (l:List Nat): ∀ u∈nzC l,u.oneCell' =true:=by
 intro u hu;obtain ⟨n,_,rfl⟩:=VM.1 hu
 rfl
theorem Dv (l m:List Nat):nzC (l++m)=nzC l++nzC m:=by simp [nzC]
theorem vn {l:List Nat} {k:Nat} (h:k<l.length):(nzC l)[k]? =some (.int .i64 ((atN l k:Nat):Int)):=by
 simp [nzC,atN,h]
theorem dh {l:List Nat} {k:Nat} (h:k<l.length):(nzC l)[0+k*1]? =some (.int .i64 ((atN l k:Nat):Int)):=by
 rw [VD,Wd];exact vn h
theorem mK {l:List Nat} {k x:Nat}:(nzC l).set (0+k*1) (.int .i64 ((x:Nat):Int))=nzC (l.set k x):=by
 rw [VD,Wd];simp [nzC,List.map_set]
theorem Ge (n:Nat):((List.range (n*1)).map fun i=> [Value.int .i64 0][i % [Value.int .i64 0].length]!)=nzC (List.replicate n 0):=by
 simp [nzC,Nat.mod_one,List.map_const']
theorem OT (l:List Nat) (k:Nat):(nzC l).drop k=nzC (l.drop k):=by simp [nzC]
theorem yL (l:List Nat) (k:Nat):(nzC l).take k=nzC (l.take k):=by simp [nzC]
theorem eE {l:List Nat} {k:Nat} (h:k<l.length):atN l k=l[k]:=by simp [atN,h]
theorem dM {l:List Nat} {k:Nat} (h:k<l.length):atN l k∈l:=by rw [eE h];exact VL h
theorem Ro.natN {w:World} {g o:Nat} {l:List Nat} (h:Ro w g o (nzC l)) (i:Nat) (hi:i<l.length):Ro w g (o+i*1) [.int .i64 ((atN l i:Nat):Int)]:=h.cellV i (vn hi)
def DK (l:List Nat) (x:Nat):Int:=match l.findIdx? fun b=>decide (b=x) with|some i=>(i:Int)|none=> -1
theorem Po (l:List Nat) (x:Nat):decide (0≤DK l x)=decide (x∈l):=by
 rw [decide_eq_decide];unfold DK
 cases h:l.findIdx? fun b=>decide (b=x) with
 |none=>
  rw [Wm] at h;exact ⟨fun hh=>by simp at hh,fun hm=>by have:=h x hm;simp at this⟩
 |some i=>
  obtain ⟨h1,h2,_⟩:=V4.1 h;refine ⟨fun _=> ?_,fun _=>by simp⟩;have:l[i]=x:=by simpa using h2
  rw [← this];exact VL h1
theorem Pp {A B:List Nat} {x:Nat} (h:x∉A):DK (A++x::B) x=(A.length:Int):=by
 have hlt:A.length<(A++x::B).length:=by simp
 unfold DK;rw [V4.2 ⟨hlt,by simp,fun j hj=> ?_⟩];rw [List.getElem_append_left hj];have:A[j]≠x:=fun e=>h (e ▸ VL hj);simp [this]
theorem CL (l:List Nat) (x:Nat) (hlen:l.length≤1000000) (tv:Value) (w:World) (ht:Reads w tv l.length (nzC l)):
 aF Tryz.prog 109 [tv,.int .i64 (x:Int)] w (.int .i64 (DK l x)):=by
 obtain ⟨Al,cl,rfl,hl1,hl2,hl3⟩:=ht;refine aA Tryz.func109 rfl Tryz.ntmps109 rfl ?_;repeat' (first|refine sT ?_|refine sM fun _=>?_|refine sC ?_ ?_<;>intro hb<;>try omega|fail)
 refine fP (fun i:Nat=> [(0,.slice Al l.length cl),(1,.int .i64 (x:Int)),(7,.int .i64 (l.length:Int)),(8,.int .i64 (i:Int))]) (fun _=> []) (fun i=>i≤l.length∧ ∀ j (h:j<l.length),j<i→l[j]≠x) (fun i=>l.length - i) 0 ⟨by omega,fun j _ h=>by omega⟩ sB (.refl _) ?_;rintro i ⟨hi,hno⟩;by_cases hlt:i<l.length
 ·obtain ⟨gl,ol,rfl,hrl⟩:=hl3 (by omega);have he:=hrl.natN i hlt;have hnext:(atN l i:Int)≠(x:Int)→ ∀ j (h:j<l.length),j<i+1→l[j]≠x:=fun h0 j h hj=>by
   by_cases e:j=i
   ·subst e;rw [eE hlt] at h0;exact fun e=>h0 (by rw [e])
   ·exact hno j h (by omega)
  have hres:(atN l i:Int)=(x:Int)→DK l x=(i:Int):=fun h0=>by
   rw [eE hlt] at h0;unfold DK;rw [V4.2 ⟨hlt,by simp;omega,fun j hj=>by have:=hno j (by omega) hj;simpa using this⟩]
  generalize atN l i=u at he hnext hres;repeat' (first|apply ai;exact rfl;apply aa (j:=i);exact rfl;exact rfl;exact hlt|apply ai;exact rfl;apply bF;exact rfl;exact he|refine sT ?_|refine sN ?_|refine sM fun _=>?_|refine sC ?_ ?_<;>intro hb<;>try omega|fail)
  all_goals first
   |refine bp eIO rfl rfl (.nil _) ?_;rw [hres (by omega)];done
   |refine ⟨i+1,⟨hlt,hnext (by omega)⟩,by omega,?_,.nil _⟩;exact sB;done
 ·have e:i=l.length:=by omega
  subst e;have hres:DK l x= -1:=by
   unfold DK
   rw [Wm.2 fun y hy=>by
    obtain ⟨j,hj,rfl⟩:=WJ hy;have:=hno j hj hj;simpa using this]
  repeat' first|refine sT ?_|refine sM fun _=>?_|refine sC ?_ ?_<;>intro hb<;>try omega|fail
  all_goals first
   |refine bp eIO rfl rfl (.nil _) ?_;rw [hres];done
theorem uI (l:List Nat) (x:Nat) (hlen:l.length≤1000000) (tv:Value) (w:World) (ht:Reads w tv l.length (nzC l)):
 aF Tryz.prog 49 [tv,.int .i64 (x:Int)] w (.bool (decide (x∈l))):=by
 refine aA Tryz.func49 rfl Tryz.ntmps49 rfl ?_;have hI:=fun (w' :World) (H:List Blk) (hm:Mem w w' H)=>CL l x hlen tv w' (ht.of_w0 hm);have hres:=Po l x;repeat' (first|apply ag (f:=109);exact rfl;exact rfl;intro w' hm;exact hI w' _ hm|refine sT ?_|refine sM fun _=>?_|refine sC ?_ ?_<;>intro hb<;>try omega|fail)
 all_goals first
  |refine bp eIO rfl rfl (.nil _) ?_;rw [hres];done
theorem Np (l:List Nat) (tv:Value) (w:World) (ht:Reads w tv l.length (nzC l)) (hlen:l.length≤1000000):
 FnAt Tryz.prog 193 [tv] w fun v H=> ∃ A cap,v=sl A l.length cap∧H= [.own A 3 1 l.length cap (nzC l)]:=by
 have ht' :=ht;obtain ⟨At,ct,rfl,ht1,ht2,ht3⟩:=ht;refine aA Tryz.func193 rfl Tryz.ntmps193 rfl ?_;refine aI 3 1 ?_;repeat' (first|apply ai;exact rfl;apply xR;exact rfl|apply dN;exact rfl;intro gb|apply dA (n' :=0) (c:=0) (A:=some _) (m:=l.length);(iterate 3 exact rfl);exact pK;intro w hm;exact ht'.of_w0 hm;exact yM l;exact Du l;omega;simp only [maxLen];omega;intro A' cap' hA|refine sT ?_|refine sM fun _=>?_|refine sC ?_ ?_<;>intro hb<;>try omega|fail)
 ·have e:l.length=0:=by
   rcases Xc l.length with h|h
   ·exact h
   ·obtain ⟨g,o,rfl,_⟩:=ht3 h;cases hb
  have e' :l= []:=Wo e;subst e';exact bp (.inl rfl) Tryz.results193 rfl (.refl _) ⟨none,0,rfl,rfl⟩
 ·exact bp (.inl rfl) Tryz.results193 rfl (H' := [.own A' 3 1 (0+l.length) cap' ([]++nzC l)]) mS ⟨A',cap',by rw [VD],by rw [VD];rfl⟩
def fB (l:List Nat):List Nat:=l.mergeSort fun x y=>decide (x≤y)
theorem dZ (l:List Nat):(fB l).Perm l:=XQ _ _
theorem qI (l:List Nat):(fB l).Pairwise (· ≤ ·):=by
 have h:=YU (le:=fun x y:Nat=>decide (x≤y)) (fun a b c h1 h2=>by simp at*;omega) (fun a b=>by simp;omega) l;exact h.imp fun h=>by simpa using h
theorem LI (l:List Nat):(tE (l.map fun i:Nat=>(i:Int))).map Ah=nzC (fB l):=by
 unfold tE fB nzC;rw [← List.map_mergeSort (r:=fun x y:Nat=>decide (x≤y)) (fun a _ b _=>by rw [decide_eq_decide];omega),Xl]
 rfl
theorem x7 (l:List Nat) (A:Option Nat) (cap:Nat) (hL:l.length≤1000000) (R:List Blk) (w0:World):
 FnIn Tryz.prog 50 [sl A l.length cap] w0 (.own A 3 1 l.length cap (nzC l)::R) fun v H=>v= .tuple #[]∧H= .own A 3 1 l.length cap (nzC (fB l))::R:=by
 have h:=Fm (l.map fun i:Nat=>(i:Int)) A cap (by rw [VK];exact hL) R w0;rw [VK,LI,Xl] at h;exact h
def JRd (w:World) (v:Value) (X:Nx):Prop:= ∃ vs:List Value,vs.length=X.length∧Reads w v X.length vs∧ ∀ i,i<X.length→ ∃ u,vs[i]? =some u∧Reads w u (ax X i).length (nzC (ax X i))
theorem JRd.of_w0 {w0 w:World} {H:List Blk} {v:Value} {X:Nx} (hm:Mem w0 w H) (h:JRd w0 v X):JRd w v X:=by
 obtain ⟨vs,h1,h2,h3⟩:=h;exact ⟨vs,h1,h2.of_w0 hm,fun i hi=>by obtain ⟨u,h4,h5⟩:=h3 i hi;exact ⟨u,h4,h5.of_w0 hm⟩⟩
def JIn (Z:List Blk) (vs:List Value) (X:Nx):Prop:=vs.length=X.length∧ ∀ i,i<X.length→ ∃ u,vs[i]? =some u∧ ∀ {w1:World} (w:World),Mem w1 w Z→Reads w u (ax X i).length (nzC (ax X i))
theorem JIn.mono {Z Z' :List Blk} {vs:List Value} {X:Nx} (h:JIn Z vs X) (hs:MSub Z Z'):JIn Z' vs X:=
 ⟨h.1,fun i hi=>by obtain ⟨u,h1,h2⟩:=h.2 i hi;exact ⟨u,h1,fun w hm=>h2 w (hs.use hm)⟩⟩
theorem JIn.nil:JIn [] [] []:=⟨rfl,fun i hi=>absurd hi (Xr _)⟩
theorem Aw {X:Nx} {l:List Nat} {i:Nat} (h:i<X.length):ax (X++ [l]) i=ax X i:=by
 unfold ax;rw [VO h]
theorem Ay {X:Nx} {l:List Nat}:ax (X++ [l]) X.length=l:=by
 unfold ax;rw [VW (VA _)];simp
theorem JIn.snoc {Z Z' :List Blk} {vs:List Value} {X:Nx} {u:Value} {l:List Nat} (h:JIn Z vs X) (hs:MSub Z Z') (hu: ∀ {w1:World} (w:World),Mem w1 w Z' →Reads w u l.length (nzC l)):JIn Z' (vs++ [u]) (X++ [l]):=by
 refine ⟨by rw [Vn,Vn,h.1];rfl,fun i hi=> ?_⟩;rw [Vn,Vs] at hi;by_cases e:i<X.length
 ·obtain ⟨u',h1,h2⟩:=h.2 i e;rw [Aw e];exact ⟨u',by rw [VO (by rw [h.1];exact e)];exact h1,fun w hm=>h2 w (hs.use hm)⟩
 ·have e2:i=X.length:=by omega
  subst e2;rw [Ay];exact ⟨u,by rw [← h.1,VW (VA _)];simp,hu⟩
abbrev JA:=List (Option Nat × Nat)
def dr:Nx→JA→List Value
 |l::X,a::As=>sl a.1 l.length a.2::dr X As
 |_,_=> []
def jT:Nx→JA→List Blk
 |l::X,a::As=> .own a.1 3 1 l.length a.2 (nzC l)::jT X As
 |_,_=> []
theorem l9: ∀ {X:Nx} {As:JA},As.length=X.length→(dr X As).length=X.length
 | [],[],_=>rfl
 |l::X,a::As,h=>by rw [dr,Vw,l9 (Nat.succ.inj h),Vw]
 | [],_::_,h=>by cases h
 |_::_,[],h=>by cases h
theorem jw: ∀ {X:Nx} {As:JA} {i:Nat} (h:As.length=X.length) (hi:i<X.length),(dr X As)[i]? =some (sl (As[i]'(by omega)).1 (ax X i).length (As[i]'(by omega)).2)
 |l::X,a::As,0,_,_=>rfl
 |l::X,a::As,i+1,h,hi=>by
  have:=jw (X:=X) (As:=As) (i:=i) (Nat.succ.inj h) (Yw hi);rw [dr,Yq,this]
  rfl
 | [],_,_,_,hi=>absurd hi (Xr _)
 |_::_,[],_,h,_=>by cases h
theorem y9: ∀ {X:Nx} {As:JA} {i:Nat} (h:As.length=X.length) (hi:i<X.length),∃ Rs,∀ (l:List Nat) (a:Option Nat × Nat),(jT (X.set i l) (As.set i a)).Perm (.own a.1 3 1 l.length a.2 (nzC l)::Rs)
 |l0::X,a0::As,0,_,_=>⟨jT X As,fun l a=> .refl _⟩
 |l0::X,a0::As,i+1,h,hi=>by
  obtain ⟨Rs,hR⟩:=y9 (X:=X) (As:=As) (i:=i) (Nat.succ.inj h) (Yw hi);exact ⟨.own a0.1 3 1 l0.length a0.2 (nzC l0)::Rs,fun l a=>((hR l a).cons _).trans (.swap _ _ _)⟩
 | [],_,_,_,hi=>absurd hi (Xr _)
 |_::_,[],_,h,_=>by cases h
theorem oh: ∀ {X:Nx} {As:JA} {i:Nat} (l:List Nat) (a:Option Nat × Nat),As.length=X.length→dr (X.set i l) (As.set i a)=(dr X As).set i (sl a.1 l.length a.2)
 | [],[],_,_,_,_=>rfl
 |l0::X,a0::As,0,_,_,_=>rfl
 |l0::X,a0::As,i+1,l,a,h=>by
  rw [YP,YP,dr,dr,YP,oh l a (Nat.succ.inj h)]
 | [],_::_,_,_,_,h=>by cases h
 |_::_,[],_,_,_,h=>by cases h
theorem tZ: ∀ {X:Nx} {As:JA} {i:Nat} (h:As.length=X.length) (hi:i<X.length),Blk.own (As[i]'(by omega)).1 3 1 (ax X i).length (As[i]'(by omega)).2 (nzC (ax X i))∈jT X As
 |l0::X,a0::As,0,_,_=>Vr
 |l0::X,a0::As,i+1,h,hi=>Vv _ (tZ (X:=X) (As:=As) (i:=i) (Nat.succ.inj h) (Yw hi))
 | [],_,_,_,hi=>absurd hi (Xr _)
 |_::_,[],_,h,_=>by cases h
theorem DF {X:Nx} {As:JA} (h:As.length=X.length):JIn (jT X As) (dr X As) X:=
 ⟨l9 h,fun _ hi=>⟨_,jw h hi,fun _ hm=>Reads.of_own hm (In.of_mem (tZ h hi))⟩⟩
def ub (n:Nat):Nx:=List.replicate n []
def fX (n:Nat):JA:=List.replicate n (none,0)
theorem UY (n:Nat):dr (ub n) (fX n)=List.replicate n (.slice none 0 0):=by
 induction n with
 |zero=>rfl
 |succ n ih=>rw [ub,fX,X4,X4,dr,X4,← ih];rfl
theorem GM (n:Nat):jT (ub n) (fX n)=List.replicate n (.own none 3 1 0 0 []):=by
 induction n with
 |zero=>rfl
 |succ n ih=>rw [ub,fX,X4,X4,jT,X4,← ih];rfl
theorem og (n:Nat):((List.range (n*1)).map fun i=> [Value.slice none 0 0][i % [Value.slice none 0 0].length]!)=dr (ub n) (fX n):=by
 rw [UY];simp [Nat.mod_one,List.map_const']
theorem lB {P:Program} {n:Fr} {w0:World} {Q:cd} {s:aC} {H:List Blk} {c:Code} (e:TypeId): ∀ m,W P n w0 c Q s (List.replicate m (.own none e 1 0 0 [])++H)→W P n w0 c Q s H
 |0,h=>h
 |m+1,h=>lB e m (aI e 1 h)
theorem JIn.rd {w0 w:World} {Z:List Blk} {vs:List Value} {X:Nx} {A:Option Nat} {t c:Nat} (h:JIn Z vs X) (hm:Mem w0 w (.own A t 1 X.length c vs::Z)):JRd w (sl A X.length c) X:=
 ⟨vs,h.1,Reads.of_own hm .hd,fun i hi=>by
  obtain ⟨u,h1,h2⟩:=h.2 i hi;exact ⟨u,h1,h2 w hm.tail⟩⟩
theorem nJ {P:Program} {w0:World} {s:aC} {H:List Blk} {ty:TypeId} {x:Operand} {t g o off:Nat} {xs:List Value} {v:Value} [One P t] (hc: ∀ w,Mem w0 w H→Cells w g o xs) (hx:ev s x=some (.pointer (some ⟨g,o+off,none⟩))) (hv:xs[off]? =some v):
 VOp P w0 s H (.load t x) ty v:=by
 unfold VOp;intro ρ w _ _ _ _ hρ hm;have hc:w.cell? ⟨g,o+off,none⟩=some v:=hc w hm off v hv;simp [execOp,hρ x _ hx,Instr.loadAt,Instr.sureAddr,eC (P:=P) hc]
def Tj.un (S:Tj):Nat:=S.num.countP fun x=>decide (x=0)
theorem E5 {S:Tj} {i:Nat} (hi:i<S.num.length) (h0:S.n i=0):(S.start i).un+1=S.un:=by
 have he:S.num[i]=0:=by
  unfold Tj.n at h0;rw [Vo hi] at h0;exact h0
 have hp:0<S.num.countP fun x=>decide (x=0):=List.countP_pos_iff.2 ⟨_,VL hi,by rw [he];rfl⟩;unfold Tj.un Tj.start;dsimp only;rw [List.countP_set hi,he];simp;omega
theorem Dd {X:Nx} {S:Tj} (h:TjOk X S):S.stk.length≤X.length:=by
 have h1:=dV S.stk (List.range X.length) (h.stk.imp fun hab e=>by rw [e] at hab;exact W0 _ hab) (fun x hx=>VT.2 (h.lt x hx));rwa [We] at h1
theorem mf {p:List Nat} (h:p≠ []):atN p 0∈p:=by
 cases p with
 |nil=>exact absurd rfl h
 |cons a l=>exact Vr
theorem BW {n:Nat} {O:List (List Nat)} (hd:O.Pairwise fun p q=> ∀ v∈p,v∉q) (hn: ∀ p∈O,p≠ []) (hl: ∀ p∈O,∀ v∈p,v<n):O.length≤n:=by
 have h1:(O.map fun p=>atN p 0).Nodup:=by
  rw [List.Nodup,X8];exact hd.imp_of_mem fun {p q} hp hq hpq e=>hpq _ (mf (hn p hp)) (e ▸ mf (hn q hq))
 have h2:=dV _ (List.range n) h1 (fun x hx=>by
  obtain ⟨p,hp,rfl⟩:=VM.1 hx;exact VT.2 (hl p hp _ (mf (hn p hp))))
 rwa [VK,We] at h2
theorem RB {X:Nx} {S:Tj} (h:TjOk X S):S.out.length≤X.length:=
 BW h.dis (fun p hp=>(h.scc p hp).1) fun p hp v hv=>h.nlt ((h.prt v).1 ⟨p,hp,hv⟩).1
theorem TjEnd.len {X:Nx} {O:List (List Nat)} (h:TjEnd X O):O.length≤X.length:=
 BW h.dis (fun p hp=>(h.scc p hp).1) h.lt
theorem TjEnd.part_len {X:Nx} {O:List (List Nat)} (h:TjEnd X O) {p:List Nat} (hp:p∈O):p.length≤X.length:=by
 have h1:=dV p (List.range X.length) ((h.scc p hp).2.1.imp fun hab e=>by rw [e] at hab;exact W0 _ hab) (fun x hx=>VT.2 (h.lt p hp x hx));rwa [We] at h1
theorem Lp.ex_len {X:Nx} {S0 S:Tj} {i:Nat} {ex dn:List Nat} (h:Lp X S0 i S ex dn):ex.length+1≤X.length:=by
 have h1:=Dd h.ok;rw [h.stk,Vn,Vw] at h1;omega
def Tj.new (n:Nat):Tj:=⟨List.replicate n 0,List.replicate n 0,List.replicate n false,[],[],0⟩
theorem OV (n v:Nat):(Tj.new n).n v=0:=by
 unfold Tj.n Tj.new;dsimp only;rw [XL];split<;>rfl
theorem ST (n v:Nat):(Tj.new n).o v=false:=by
 unfold Tj.o Tj.new;dsimp only;rw [XL];split<;>rfl
theorem TZ (n:Nat):(Tj.new n).un=n:=by
 unfold Tj.un Tj.new;dsimp only;rw [List.countP_eq_length.2 (fun a ha=>by rw [(List.mem_replicate.1 ha).2];rfl),Xo]
theorem T9 (X:Nx):TjOk X (Tj.new X.length):={
 ln:=Xo
 ll:=Xo
 lo:=Xo
 le i:=by rw [OV];exact Vt _
 stk:=List.Pairwise.nil
 lt v hv:=by cases hv
 vis v hv:=by cases hv
 on v _:=by
  rw [ST];exact ⟨fun h=>by simp at h,fun h=>by cases h⟩
 cls v hv:=absurd (OV _ v) hv
 prt v:=⟨fun ⟨p,hp,_⟩=>(by cases hp),fun h=>absurd (OV _ v) h.1⟩
 scc p hp:=by cases hp
 dis:=List.Pairwise.nil }
def wS (S:Tj) (l:List Nat) (v:Nat):Bool:=S.o v && !decide (v∈l)
theorem Mo (S:Tj) (l:List Nat) {n j:Nat} (h:j<l.length):aH n (fun v=>if v=atN l j then false else wS S (l.take j) v)=aH n (wS S (l.take (j+1))):=aO fun v _=>by
 unfold wS;rw [Vu h,eE h];by_cases e:v=l[j]
 ·subst e;rw [if_pos rfl,decide_eq_true (V9 _ (Vx.2 rfl)),Bool.not_true,Xd]
 ·rw [if_neg e];congr 2;rw [decide_eq_decide,VH,Vx];exact ⟨.inl,fun hh=>hh.resolve_right e⟩
theorem Mm (S:Tj) (l:List Nat) (n:Nat):aH n S.o=aH n (wS S (l.take 0)):=aO fun v _=>by simp [wS]
theorem RK {X:Nx} {S0 S:Tj} {i:Nat} {ex:List Nat} (h:Lp X S0 i S ex (ax X i)) (he:S.l i=S.n i): ∃ S' :Tj,Entd X S0 i S' []∧S'.num=S.num∧S'.low=S.low∧S'.stk=S0.stk∧S'.out=S.out++ [fB (i::ex)]∧S'.cnt=S.cnt∧aH X.length (wS S ((i::ex).take (i::ex).length))=aH X.length S'.o:=by
 have hon: ∀ v,v<X.length→((((List.range X.length).map (wS S (i::ex)))[v]?).getD false)=wS S (i::ex) v:=fun v hv=>by
  rw [VG,V7 hv];rfl
 refine ⟨_,Ua h he (on' :=(List.range X.length).map (wS S (i::ex))) (part:=fB (i::ex)) (by simp) (fun v hv=> ?_) (dZ _) (qI _),rfl,rfl,rfl,rfl,rfl,?_⟩
 ·rw [hon v hv];unfold wS;simp
 ·rw [V1];refine aO fun v hv=> ?_;exact (hon v hv).symm
theorem MA {X:Nx} {O:List (List Nat)} (h:TjEnd X O):(fB (O.flatMap (fN X))).Pairwise (· < ·)∧ ∀ v,v∈fB (O.flatMap (fN X))↔v<X.length∧onC X v:=by
 have hp:=dZ (O.flatMap (fN X));refine ⟨?_,fun v=>by rw [hp.mem_iff];exact h.loop⟩;have h3:(fB (O.flatMap (fN X))).Nodup:=hp.nodup_iff.2 h.nodup;exact (Yz.2 ⟨qI _,h3⟩).imp fun ⟨h4,h5⟩=>YO h4 h5
theorem BT {X:Nx} {O:List (List Nat)} (h:TjEnd X O) (k:Nat):((O.take k).flatMap (fN X)).length≤X.length:=by
 have h1:((O.take k).flatMap (fN X)).Sublist (O.flatMap (fN X)):=by
  conv=>rhs;rw [← Wh k O,VF]
  exact List.sublist_append_left _ _
 have h2:=dV _ (List.range X.length) (h1.nodup h.nodup) (fun x hx=>VT.2 (h.loop.1 (h1.subset hx)).1);rwa [We] at h2
theorem Jh {X:Nx} {O:List (List Nat)} {k:Nat} (h:k<O.length):(O.take (k+1)).flatMap (fN X)=(O.take k).flatMap (fN X)++fN X (ax O k):=by
 rw [Vu h,VF,WZ];unfold ax;rw [Vo h]
 rfl
theorem Fh {L:List Nat} {i j:Nat} (hi:i<L.length) (hj:j<L.length):atN (swapN L i j)=nK (atN L) i j:=funext (x6 hi hj)
theorem Hw {L M:List Nat} {i:Nat} (h:i<L.length):atN (L++M) i=atN L i:=by
 unfold atN;rw [VO h]
theorem Hx {L:List Nat} {x:Nat}:atN (L++ [x]) L.length=x:=by
 unfold atN;rw [VW (VA _)];simp
theorem NY {h:List Nat} {x:Nat} (H:HpF (atN h) h.length):UpH (atN (h++ [x])) (h.length+1) h.length:=H.push fun i hi=>Hw hi
def dW (X:Nx) (i m k:Nat):List Nat:=((List.range i).flatMap fun j=>((ax X j).filter fun u=>decide (u=k)).map fun _=>j)++(((ax X i).take m).filter fun u=>decide (u=k)).map fun _=>i
def cE (X:Nx) (i m:Nat):Nx:=(List.range X.length).map (dW X i m)
theorem qQ (X:Nx) (i m:Nat):(cE X i m).length=X.length:=by simp [cE]
theorem uk {X:Nx} {i m k:Nat} (h:k<X.length):ax (cE X i m) k=dW X i m k:=by
 unfold ax cE;rw [VG,V7 h];rfl
theorem sF (X:Nx):cE X 0 0=ub X.length:=by
 unfold cE ub;apply WB;intro k;by_cases h:k<X.length
 ·rw [VG,V7 h,XL,if_pos h];simp [dW]
 ·rw [VJ (by simp;omega),VJ (by simp;omega)]
theorem zg {X:Nx} {i m k:Nat} (h:m<(ax X i).length):dW X i (m+1) k=if atN (ax X i) m=k then dW X i m k++ [i] else dW X i m k:=by
 unfold dW;rw [Vu h,X6,Wj,← VC,eE h];by_cases e:(ax X i)[m]=k
 ·simp [e]
 ·simp [e]
theorem zh {X:Nx} {i m k:Nat} (h:m<(ax X i).length) (hk:atN (ax X i) m=k):cE X i (m+1)=(cE X i m).set k (dW X i m k++ [i]):=by
 apply WB;intro j;by_cases hj:j<X.length
 ·unfold cE;rw [VG,V7 hj,Ya];simp only [Wq];by_cases e:k=j
  ·subst e;rw [if_pos rfl,if_pos (by simpa using hj),zg h,if_pos hk]
  ·rw [if_neg e,VG,V7 hj,zg h,if_neg (fun e2=>e (hk.symm.trans e2))]
   rfl
 ·rw [VJ (by rw [qQ];omega),VJ (by rw [Wr,qQ];omega)]
theorem zi (X:Nx) (i:Nat):cE X i (ax X i).length=cE X (i+1) 0:=by
 unfold cE;refine Wu fun k _=> ?_;unfold dW;rw [V1,WP,XP,VF];simp
theorem ph (X:Nx):cE X X.length 0=jB X:=by
 unfold cE jB;refine Wu fun k _=> ?_;unfold dW eH;simp
theorem qP {X:Nx} {B:Nat} (hB: ∀ j,(ax X j).length≤B) (i m k:Nat):(dW X i m k).length≤(i+1)*B:=by
 have h1: ∀ n:Nat,((List.range n).flatMap fun j=>((ax X j).filter fun u=>decide (u=k)).map fun _=>j).length≤n*B:=fun n=>by
  induction n with
  |zero=>simp
  |succ n ih=>
   rw [XP,VF,Vn,WZ,VK,Xm,XX];have:=VR (WD (fun u=>decide (u=k)) (ax X n)) (hB n);omega
 have h2:((((ax X i).take m).filter fun u=>decide (u=k)).map fun _=>i).length≤B:=by
  rw [VK];refine VR (WD _ _) (VR ?_ (hB i));rw [VQ];omega
 have h3:=h1 i;unfold dW;rw [Vn,Xm,XX];omega
def kS (X:Nx) (i:Nat):List Nat:=(List.range X.length).map fun j=>if j<i then (ax X j).length else 0
def nj (X:Nx) (i:Nat):List Nat:=(List.range i).filter fun j=>decide ((ax X j).length=0)
theorem n8 (X:Nx) (i:Nat):(kS X i).length=X.length:=by simp [kS]
theorem Jl (X:Nx):kS X 0=List.replicate X.length 0:=by
 unfold kS;apply WB;intro k;by_cases h:k<X.length
 ·rw [VG,V7 h,XL,if_pos h];rfl
 ·rw [VJ (by simp;omega),VJ (by simp;omega)]
theorem Jm {X:Nx} {i:Nat}:(kS X i).set i (ax X i).length=kS X (i+1):=by
 apply WB;intro j;by_cases hj:j<X.length
 ·rw [Ya];unfold kS;rw [VG,VG,V7 hj];by_cases e:i=j
  ·subst e;rw [if_pos rfl,if_pos (by simpa using hj)];simp
  ·rw [if_neg e];simp only [Wq];by_cases h1:j<i
   ·rw [if_pos h1,if_pos (by omega)]
   ·rw [if_neg h1,if_neg (by omega)]
 ·rw [VJ (by rw [Wr,n8];omega),VJ (by rw [n8];omega)]
theorem FP (X:Nx) (i:Nat):nj X (i+1)=if (ax X i).length=0 then nj X i++ [i] else nj X i:=by
 unfold nj;rw [gZ];simp only [decide_eq_true_eq]
theorem Pr {X:Nx} {h:List Nat} (hp:h.Perm (nj X X.length)):HpI X [] h (kS X X.length):={
 dn:=XN
 dl i hi:=by cases hi
 dc i hi:=by cases hi
 ll:=n8 _ _
 lv i hi:=by
  unfold kS;rw [VG,V7 hi,List.countP_eq_length.2 (fun k _=>by simp)];simp [hi]
 hn:=hp.nodup_iff.2 (List.Pairwise.filter _ Yk)
 hm m:=by
  rw [hp.mem_iff];unfold nj;rw [Wx,VT,fL,decide_eq_true_eq];refine and_congr_right fun _=>⟨fun h=>⟨by simp,fun k hk=> ?_⟩,fun h=> ?_⟩
  ·rw [WW.1 h] at hk;cases hk
  ·rcases hs:ax X m with _|⟨a,l⟩
   ·rfl
   ·have:=h.2 a (by rw [hs];exact Vr);cases this }
def mq (n:Nat) (M:Nat→Bool):Nat:=(List.range n).countP M
theorem ra (n:Nat) (M:Nat→Bool):mq n M≤n:=by
 have:=List.countP_le_length (p:=M) (l:=List.range n);rwa [We] at this
theorem Cy {n:Nat} {M:Nat→Bool} {u:Nat} (hu:u<n) (h:M u=false):mq n (fun x=>if x=u then true else M x)=mq n M+1:=by
 unfold mq
 induction n with
 |zero=>omega
 |succ n ih=>
  rw [XP,List.countP_append,List.countP_append,Y2,Y2];by_cases e:u=n
  ·subst e;have h2:(List.range u).countP (fun x=>if x=u then true else M x)=(List.range u).countP M:=List.countP_congr fun x hx=>by
    have:=VT.1 hx;simp [show x≠u by omega]
   rw [h2];simp [h]
  ·rw [ih (by omega)];have: ¬ n=u:=fun e2=>e e2.symm;simp only [this,if_false];omega
def fC (l:List Nat) (x:Nat):Bool:=decide (x∈l)
theorem Je {n:Nat} {l:List Nat} {j:Nat} (h:j<l.length):aH n (fun x=>if x=atN l j then true else fC (l.take j) x)=aH n (fC (l.take (j+1))):=aO fun x _=>by
 unfold fC;rw [Vu h,eE h];by_cases e:x=l[j]
 ·subst e;rw [if_pos rfl,decide_eq_true (V9 _ (Vx.2 rfl))]
 ·rw [if_neg e,decide_eq_decide,VH,Vx];exact ⟨.inl,fun hh=>hh.resolve_right e⟩
theorem Hm {n:Nat} {l:List Nat} (hn:l.Nodup) (hl: ∀ x∈l,x<n):mq n (fC l)=l.length:=by
 unfold mq fC;rw [List.countP_eq_length_filter];refine List.Perm.length_eq ((YM (List.Pairwise.filter _ Yk) hn).2 fun x=> ?_);rw [Wx,VT,decide_eq_true_eq];exact ⟨fun h=>h.2,fun h=>⟨hl x h,h⟩⟩
open Go.RowKit
instance klaw_Z:KLaw Tryz.prog 3 (fun z:Int=>Value.int .i64 z):=GH
def zK (l:List Nat):List Int:=l.map fun i:Nat=>(i:Int)
theorem CN (l:List Nat):(zK l).length=l.length:=by simp [zK]
theorem EE {l:List Nat} (h:l.Nodup):(zK l).Nodup:=by
 unfold zK;rw [List.Nodup,X8];exact h.imp fun hab e=>hab (Int.ofNat.inj e)
theorem Gg (K:List Rf) (hn:K.Nodup) (hlen:K.length≤1000000) (tv:Value) (w:World) (ht:Reads w tv K.length (K.flatMap aw)):
 FnAt Tryz.prog 108 [tv] w fun v H=> ∃ g,v= .map (some g)∧H= [.obj g (cJ bJ (iR K) K.length)]:=by
 obtain ⟨Al,cl,rfl,hl1,hl2,hl3⟩:=ht;refine aA Tryz.func108 rfl Tryz.ntmps108 rfl ?_;repeat' (first|apply lM (enc:=bJ);exact rfl;intro gm|refine zZB ?_|refine sM fun _=>?_|refine sC ?_ ?_<;>intro hb<;>try omega|fail)
 refine ay [3,7,8] rfl (fun i:Nat=> [(9,.int .i64 (i:Int))]) (fun i=> [.obj gm (cJ bJ (iR (K.take i)) i)]) (fun i=>i≤K.length) (fun i=>K.length - i) 0 (Vt _) sB mS ?_;rintro i hi;by_cases hlt:i<K.length
 ·obtain ⟨gl,ol,rfl,hrl⟩:=hl3 (by omega);have he:=hrl.elem bS i hlt;have hput:lr K[i] (.int .i64 (i:Int)) i (iR (K.take i))=(iR (K.take (i+1)),i+1):=by
   have h1:=Kt (K:=K.take i) (a:=K[i]) (fun hm=>by
    obtain ⟨j,hj,e⟩:=WM.1 hm;rw [VQ] at hj;rw [X9] at e;have:=(Yl hn).1 e;omega)
   rw [VQ,Xs (by omega),← Vu hlt] at h1;exact h1
  generalize K[i]=a at he hput;repeat' (first|apply ai (d:=12);exact rfl;apply aa (j:=i);exact rfl;exact rfl;exact hlt|apply nD (enc:=bJ) (k:=a);(iterate 3 exact rfl);exact pK;rw [hput]|refine sT ?_|refine sS ?_|refine sN ?_|refine sO ?_|refine sM fun _=>?_|refine sC ?_ ?_<;>intro hb<;>try omega|fail)
  all_goals first
   |omega
   |refine ⟨i+1,hlt,by omega,by exact sB,by exact sB,by exact mS⟩;done
 ·have e:i=K.length:=by omega
  subst e;rw [V1];repeat' (first|refine zZA ?_|refine sM fun _=>?_|refine sC ?_ ?_<;>intro hb<;>try omega|fail)
  all_goals first
   |omega
   |exact bp eIO rfl rfl (MSub.refl _) ⟨gm,rfl,rfl⟩
theorem Gf (l:List Nat) (hn:l.Nodup) (hlen:l.length≤1000000) (tv:Value) (w:World) (ht:Reads w tv l.length (nzC l)):
 FnAt Tryz.prog 68 [tv] w fun v H=> ∃ g,v= .map (some g)∧H= [.obj g (cJ (fun z:Int=>Value.int .i64 z) (iR (zK l)) l.length)]:=by
 obtain ⟨Al,cl,rfl,hl1,hl2,hl3⟩:=ht;refine aA Tryz.func68 rfl Tryz.ntmps68 rfl ?_;repeat' (first|apply lM (enc:=fun z:Int=>Value.int .i64 z);exact rfl;intro gm|refine zZB ?_|refine sM fun _=>?_|refine sC ?_ ?_<;>intro hb<;>try omega|fail)
 refine ay [3,7,8] rfl (fun i:Nat=> [(9,.int .i64 (i:Int))]) (fun i=> [.obj gm (cJ (fun z:Int=>Value.int .i64 z) (iR ((zK l).take i)) i)]) (fun i=>i≤l.length) (fun i=>l.length - i) 0 (Vt _) sB mS ?_;rintro i hi;by_cases hlt:i<l.length
 ·obtain ⟨gl,ol,rfl,hrl⟩:=hl3 (by omega);have he:=hrl.natN i hlt;have hz:i<(zK l).length:=by rw [CN];exact hlt
  have hget:(zK l)[i]=((atN l i:Nat):Int):=by rw [eE hlt];simp [zK]
  have hput:lr ((atN l i:Nat):Int) (.int .i64 (i:Int)) i (iR ((zK l).take i))=(iR ((zK l).take (i+1)),i+1):=by
   have h1:=Kt (K:=(zK l).take i) (a:=(zK l)[i]) (fun hm=>by
    obtain ⟨j,hj,e⟩:=WM.1 hm;rw [VQ] at hj;rw [X9] at e;have:=(Yl (EE hn)).1 e;omega)
   rw [VQ,Xs (by omega),← Vu hz,hget] at h1;exact h1
  generalize atN l i=a at he hput;repeat' (first|apply ai (d:=12);exact rfl;apply aa (j:=i);exact rfl;exact rfl;exact hlt|apply nD (enc:=fun z:Int=>Value.int .i64 z) (k:=(a:Int));(iterate 3 exact rfl);exact pK;rw [hput]|refine sT ?_|refine sS ?_|refine sN ?_|refine sO ?_|refine sM fun _=>?_|refine sC ?_ ?_<;>intro hb<;>try omega|fail)
  all_goals first
   |omega
   |refine ⟨i+1,hlt,by omega,by exact sB,by exact sB,by exact mS⟩;done
 ·have e:i=l.length:=by omega
  subst e;have htl:(zK l).take l.length=zK l:=by rw [← CN,V1]
  rw [htl];repeat' (first|refine zZA ?_|refine sM fun _=>?_|refine sC ?_ ?_<;>intro hb<;>try omega|fail)
  all_goals first
   |omega
   |exact bp eIO rfl rfl (MSub.refl _) ⟨gm,rfl,rfl⟩
theorem MZ (K:List Rf) (l:List Nat) (hl: ∀ i∈l,i<K.length) (hlen:l.length≤1000000) (cv mv xv lv:Value) (w:World) (hc:Reads w cv K.length (K.flatMap aw)) (ht:Reads w lv l.length (nzC l)):
 FnAt Tryz.prog 73 [.agg #[cv,mv,xv],lv] w fun v H=> ∃ A c,v=sl A (bQ K l).length c∧H= [.own A 35 2 (bQ K l).length c ((bQ K l).flatMap aw)]:=by
 obtain ⟨Ac,cc,rfl,hc1,hc2,hc3⟩:=hc;obtain ⟨Al,cl,rfl,hl1,hl2,hl3⟩:=ht;refine aA Tryz.func73 rfl Tryz.ntmps73 rfl ?_;refine aI 35 2 ?_;repeat' (first|refine zZB ?_|refine sM fun _=>?_|refine sC ?_ ?_<;>intro hb<;>try omega|fail)
 rename_i g2;refine ay [2,8,9] rfl (fun y:Nat × Option Nat × Nat=> [(5,sl y.2.1 y.1 y.2.2),(10,.int .i64 (y.1:Int))]) (fun y=> .own y.2.1 35 2 y.1 y.2.2 ((bQ K (l.take y.1)).flatMap aw):: [.box g2 101 [.slice Ac K.length cc,mv,xv]]) (fun y=>y.1≤l.length) (fun y=>l.length - y.1) (0,none,0) (Vt _) sB mS ?_;rintro ⟨i,A3,c3⟩ hi;dsimp only at hi ⊢;by_cases hlt:i<l.length
 ·obtain ⟨gl,ol,rfl,hrl⟩:=hl3 (by omega);have he:=hrl.natN i hlt;have hk:=hl _ (dM hlt);have hst:bQ K (l.take (i+1))=bQ K (l.take i)++ [jq K (atN l i)]:=by rw [Vu hlt,lG,eE hlt]
  obtain ⟨gc,oc,rfl,hrc⟩:=hc3 (by omega);have hel:=hrc.elem bS (atN l i) hk;rw [← lW hk] at hel;generalize atN l i=k at he hk hst hel;generalize jq K k=a at hst hel;repeat' (first|apply ai (d:=12);exact rfl;apply aa (j:=i);exact rfl;exact rfl;exact hlt|apply ai (d:=13);exact rfl;apply bF;exact rfl;exact he|apply ai (d:=18);exact rfl;apply aa (j:=k);exact rfl;exact rfl;exact hk|apply ai (d:=19);exact rfl;apply bC;exact rfl;exact hel;exact rfl|apply aG;(iterate 3 exact rfl);exact pK;exact pK;exact rfl;simp [aw,Value.oneCell'];omega;simp only [maxLen];omega;intro g8 c8|refine zZA ?_|refine sM fun _=>?_|refine sC ?_ ?_<;>intro hb<;>try omega|fail)
  all_goals first
   |omega
   | (refine ⟨(i + 1, some g8, c8), hlt, by dsimp only; omega, by exact sB, by exact sB, ?_⟩
      dsimp only;rw [hst,VF,WZ];exact mS)
 ·have e:i=l.length:=by omega
  subst e;rw [V1];have hnl:=cQ K l;repeat' (first|refine zZA ?_|refine sM fun _=>?_|refine sC ?_ ?_<;>intro hb<;>try omega|fail)
  all_goals first
   |omega
   |exact bp (H' := [.own A3 35 2 (bQ K l).length c3 ((bQ K l).flatMap aw)]) eIO rfl rfl (by rw [hnl];exact mS) ⟨A3,c3,by rw [hnl],rfl⟩
def ck (G:Gr) (i:Nat):Bool:=aQ G G.length i i||(List.range G.length).any fun k=>aQ G G.length i k && aQ G G.length k k
def lpC (G:Gr):List Nat:=(List.range G.length).filter fun i=>aQ G G.length i i
def ccC (G:Gr):List Nat:=(List.range G.length).filter (ck G)
def frC (G:Gr):List Nat:=(List.range G.length).filter fun i=> !ck G i
def dP (G:Gr) (l:List Nat):List Nat:=mF (aQ G G.length) G.length l.length (iT l [])
def AH (G:Gr):List Nat:=dP G (frC G)
def l5 (G:Gr):List Rf:=bQ (au G) (lpC G)
def mW (G:Gr):List Rf:=bQ (au G) (ccC G)
def iq (G:Gr):List Rf:=bQ (au G) (AH G)
theorem oD {G:Gr} {i:Nat}:ck G i=true↔fM (aP G) i:=Hq
theorem RM (G:Gr):Pa (aP G)=lpC G:=by
 unfold Pa lpC;rw [di];exact YS fun i _=>Sy.symm
theorem KK (G:Gr):zj (aP G)=frC G:=by
 unfold zj frC;rw [di];exact YS fun i _=>by rw [show ck G i=uD (aP G) i from CJ]
theorem DN (G:Gr):(frC G).Pairwise (· < ·):=u7 _ _
theorem xk {G:Gr} {i:Nat}:i∈frC G↔i<G.length∧ ¬ fM (aP G) i:=by
 rw [← KK,oz,di]
theorem RY (G:Gr):(frC G).length≤G.length:=by
 unfold frC;have:=WD (fun v=> !ck G v) (List.range G.length);rwa [We] at this
theorem Uf {G:Gr} {i k:Nat} (hi:i∈frC G) (hk:k∈ax (aP G) i):k∈frC G:=by
 rw [xk] at hi ⊢;have:=tU i k hk;rw [di] at this;exact ⟨this,Gj hi.2 hk⟩
theorem yH (G:Gr):SubN (aQ G G.length) G.length (frC G) (df (aP G) (frC G)):=by
 have h:=I7 (G:=G);rwa [KK] at h
theorem RC (G:Gr):(cV (df (aP G) (frC G))).map (fun p=>((frC G)[p]?).getD 0)=AH G:=(yH G).topo.1
structure SomeOk (G:Gr) (l:List Nat):Prop where
 asc:l.Pairwise (· < ·)
 lt: ∀ i∈l,i<G.length
 free: ∀ i∈l,¬ fM (aP G) i
theorem nu (G:Gr):SomeOk G (frC G):=⟨DN G,fun _ h=>(xk.1 h).1,fun _ h=>(xk.1 h).2⟩
theorem SomeOk.sub {G:Gr} {l:List Nat} (h:SomeOk G l):SubN (aQ G G.length) G.length l (cG (aQ G G.length) l):=Nb (fun _ _=>gz) h.asc h.lt h.free
theorem SomeOk.eq {G:Gr} {l:List Nat} (h:SomeOk G l):(cV (cG (aQ G G.length) l)).map (fun p=>(l[p]?).getD 0)=dP G l:=h.sub.topo.1
theorem SomeOk.topo_len {G:Gr} {l:List Nat} (h:SomeOk G l):(cV (cG (aQ G G.length) l)).length=l.length:=by
 rw [h.sub.topo.2.length_eq,We]
theorem SomeOk.sort_len {G:Gr} {l:List Nat} (h:SomeOk G l):(dP G l).length=l.length:=by
 rw [← h.eq,VK,h.topo_len]
theorem SomeOk.nodup {G:Gr} {l:List Nat} (h:SomeOk G l):l.Nodup:=h.asc.imp fun hab e=>by rw [e] at hab;exact W0 _ hab
def mA (K:List Rf) (circ:Nat→Bool):List Rf→List Nat→List Nat × Int
 | [],S=>(S,0)
 |a::L,S=>if a.valid=false then (S,3) else if a∉K then (S,6) else if circ (iz K a)=true then (S,13) else if iz K a∈S then (S,8) else mA K circ L (S++ [iz K a])
def iA (G:Gr) (L:List Rf):Int:=(mA (au G) (ck G) L []).2
def lA (G:Gr) (L:List Rf):List Rf:=if iA G L=0 then bQ (au G) (dP G (fB (mA (au G) (ck G) L []).1)) else []
structure AmgI (G:Gr) (S:List Nat):Prop where
 nd:S.Nodup
 lt: ∀ i∈S,i<G.length
 free: ∀ i∈S,¬ fM (aP G) i
theorem AmgI.nil (G:Gr):AmgI G []:=⟨XN,fun _ h=>(by cases h),fun _ h=>(by cases h)⟩
theorem AmgI.snoc {G:Gr} {S:List Nat} (h:AmgI G S) {i:Nat} (hi:i<G.length) (hc:ck G i=false) (hn:i∉S):AmgI G (S++ [i]):=by
 refine ⟨?_,fun j hj=> ?_,fun j hj=> ?_⟩
 ·rw [Xq];exact ⟨h.nd,by simp,fun a ha b hb e=>hn (by rw [Vx.1 hb] at e;exact e ▸ ha)⟩
 ·rcases VH.1 hj with hj|hj
  ·exact h.lt j hj
  ·rw [Vx.1 hj];exact hi
 ·rcases VH.1 hj with hj|hj
  ·exact h.free j hj
  ·rw [Vx.1 hj,← oD,hc];simp
theorem AmgI.len {G:Gr} {S:List Nat} (h:AmgI G S):S.length≤G.length:=by
 have h1:=dV S (List.range G.length) h.nd fun x hx=>VT.2 (h.lt x hx);rwa [We] at h1
theorem AmgI.ok {G:Gr} {S:List Nat} (h:AmgI G S):SomeOk G (fB S):=by
 have hp:=dZ S;refine ⟨?_,fun i hi=>h.lt i (hp.mem_iff.1 hi),fun i hi=>h.free i (hp.mem_iff.1 hi)⟩;exact (Yz.2 ⟨qI S,hp.nodup_iff.2 h.nd⟩).imp fun ⟨h4,h5⟩=>YO h4 h5
theorem pg {K:List Rf} (hn:K.Nodup) {a:Rf} (h:a∈K): ∃ hi:iz K a<K.length,K[iz K a]=a:=by
 obtain ⟨i,hi,rfl⟩:=WM.1 h;have e:=uh hn hi;exact ⟨by rw [e];exact hi,by simp only [e]⟩
theorem cC (G:Gr):(au G).length=G.length:=by simp [au]
end Go.SL
namespace Go.Proofs
open Go Go.Shelf Go.RowKit Go.Lib Go.Sort Go.SL
def Tryz.sortJj_ren:Go.Shelf.Ren:=⟨fun|6=>194|15=>111|14=>255|28=>178|29=>179|20=>315|21=>316|22=>317|23=>318|24=>319|25=>320|26=>321|27=>322|46=>366|47=>248|48=>249|49=>367|50=>368|57=>393|n=>n,fun|22=>99|24=>104|25=>297|3=>3|39=>75|0=>0|53=>279|55=>24|4=>4|46=>272|45=>271|50=>105|5=>5|9=>9|66=>352|70=>356|76=>423|77=>424|n=>n,fun|n=>n⟩
theorem Tryz.sortJj:Go.Proofs.SlLaysF.n6 Tryz.prog Tryz.sortJj_ren:={
 mixed:=by kernel_rfl
 f6:=⟨Tryz.f194.name,by decide,Tryz.func194.trans (congrArg some (by kernel_rfl))⟩
 f14:=⟨Tryz.f255.name,by decide,Tryz.func255.trans (congrArg some (by kernel_rfl))⟩
 f15:=Tryz.func111.trans (congrArg some (by kernel_rfl))
 f20:=⟨Tryz.f315.name,by decide,Tryz.func315.trans (congrArg some (by kernel_rfl))⟩
 f21:=⟨Tryz.f316.name,by decide,Tryz.func316.trans (congrArg some (by kernel_rfl))⟩
 f22:=⟨Tryz.f317.name,by decide,Tryz.func317.trans (congrArg some (by kernel_rfl))⟩
 f23:=⟨Tryz.f318.name,by decide,Tryz.func318.trans (congrArg some (by kernel_rfl))⟩
 f24:=⟨Tryz.f319.name,by decide,Tryz.func319.trans (congrArg some (by kernel_rfl))⟩
 f25:=⟨Tryz.f320.name,by decide,Tryz.func320.trans (congrArg some (by kernel_rfl))⟩
 f26:=⟨Tryz.f321.name,by decide,Tryz.func321.trans (congrArg some (by kernel_rfl))⟩
 f27:=⟨Tryz.f322.name,by decide,Tryz.func322.trans (congrArg some (by kernel_rfl))⟩
 f28:=Tryz.func178.trans (congrArg some (by kernel_rfl))
 f29:=Tryz.func179.trans (congrArg some (by kernel_rfl))
 f46:=⟨Tryz.f366.name,by decide,Tryz.func366.trans (congrArg some (by kernel_rfl))⟩
 f47:=Tryz.func248.trans (congrArg some (by kernel_rfl))
 f48:=Tryz.func249.trans (congrArg some (by kernel_rfl))
 f49:=⟨Tryz.f367.name,by decide,Tryz.func367.trans (congrArg some (by kernel_rfl))⟩
 f50:=⟨Tryz.f368.name,by decide,Tryz.func368.trans (congrArg some (by kernel_rfl))⟩
 f57:=⟨Tryz.f393.name,by decide,Tryz.func393.trans (congrArg some (by kernel_rfl))⟩
 t0:=Tryz.underlying0
 a0:=Tryz.isAgg0
 z0:=Tryz.sizeOf0
 v0:=Tryz.zeroValue0
 t3:=Tryz.underlying3
 a3:=Tryz.isAgg3
 z3:=Tryz.sizeOf3
 v3:=Tryz.zeroValue3
 t4:=Tryz.underlying4
 a4:=Tryz.isAgg4
 z4:=Tryz.sizeOf4
 v4:=Tryz.zeroValue4
 t5:=Tryz.underlying5
 a5:=Tryz.isAgg5
 z5:=Tryz.sizeOf5
 v5:=Tryz.zeroValue5
 t9:=Tryz.underlying9
 a9:=Tryz.isAgg9
 z9:=Tryz.sizeOf9
 v9:=Tryz.zeroValue9
 t22:=Tryz.underlying99
 a22:=Tryz.isAgg99
 z22:=Tryz.sizeOf99
 v22:=Tryz.zeroValue99
 a24:=Tryz.isAgg104
 z24:=Tryz.sizeOf104
 t25:=Tryz.underlying297
 a25:=Tryz.isAgg297
 z25:=Tryz.sizeOf297
 v25:=Tryz.zeroValue297
 t39:=Tryz.underlying75
 a39:=Tryz.isAgg75
 z39:=Tryz.sizeOf75
 v39:=Tryz.zeroValue75
 t45:=Tryz.underlying271
 a45:=Tryz.isAgg271
 z45:=Tryz.sizeOf271
 v45:=Tryz.zeroValue271
 t46:=Tryz.underlying272
 a46:=Tryz.isAgg272
 z46:=Tryz.sizeOf272
 v46:=Tryz.zeroValue272
 t50:=Tryz.underlying105
 a50:=Tryz.isAgg105
 z50:=Tryz.sizeOf105
 v50:=Tryz.zeroValue105
 t53:=Tryz.underlying279
 a53:=Tryz.isAgg279
 z53:=Tryz.sizeOf279
 v53:=Tryz.zeroValue279
 t55:=Tryz.underlying24
 a55:=Tryz.isAgg24
 z55:=Tryz.sizeOf24
 v55:=Tryz.zeroValue24
 t66:=Tryz.underlying352
 a66:=Tryz.isAgg352
 z66:=Tryz.sizeOf352
 v66:=Tryz.zeroValue352
 t70:=Tryz.underlying356
 a70:=Tryz.isAgg356
 z70:=Tryz.sizeOf356
 v70:=Tryz.zeroValue356
 t76:=Tryz.underlying423
 a76:=Tryz.isAgg423
 z76:=Tryz.sizeOf423
 v76:=Tryz.zeroValue423
 t77:=Tryz.underlying424
 a77:=Tryz.isAgg424
 z77:=Tryz.sizeOf424
 v77:=Tryz.zeroValue424 }
theorem Tryz.cmpJj (A B oa ob la ca lb cb:Nat) (x y:Nat) (W:World) (hx:x<1000000) (hy:y<1000000) (hA:A<W.heap.size) (hB:B<W.heap.size) (cA:W.cell? ⟨A,oa,none⟩=some (.int .i64 (x:Int))) (cB:W.cell? ⟨B,ob,none⟩=some (.int .i64 (y:Int))) (hla:0<la) (hlb:0<lb):Calls Tryz.prog 195 #[.slice (some ⟨A,oa,none⟩) la ca,.slice (some ⟨B,ob,none⟩) lb cb] W fun e w' =>e= .returned (.int .i64 ((x:Int) - (y:Int)))∧ ∃ q os',w' =grow (W.drewN q) os' :=by
 have cA' : ∀ q os,(grow (W.drewN q) os).cell? ⟨A,oa,none⟩=some (.int .i64 (x:Int)):=fun q os=>cell_grown hA cA q os;have cB' : ∀ q os,(grow (W.drewN q) os).cell? ⟨B,ob,none⟩=some (.int .i64 (y:Int)):=fun q os=>cell_grown hB cB q os;have hw:IntKind.i64.wrap ((x:Int) - (y:Int))=(x:Int) - (y:Int):=I64.wrap ⟨by omega,by omega⟩
 go_enter Tryz.func195,Tryz.ntmps195
 have hla' :(0:Int)<(la:Int):=by omega
 have hlb' :(0:Int)<(lb:Int):=by omega
 go_wp2
 go_region
 all_goals (go_wp2;go_ret;exact ⟨rfl,1,#[],by rw [grow_empty];rfl⟩)
end Go.Proofs
namespace Go.SL
open Go Go.Proofs Go.Sort Go.Shelf
theorem IY {α:Type} [Inhabited α] (enc:α→Value) (L:List α) (xs junk:List Value) (hl:xs.length=L.length):putCells enc 0 L.toArray (xs++junk).toArray=(L.map enc++junk).toArray:=by
 apply Yv;intro j;simp only [putCells,YC,V6,Xa,Vt,true_and,VD,WU];by_cases hj:j<L.length
 ·rw [VO (by omega),VO (by rw [VK];omega),VG,Vo (by omega),Vo hj];simp [hj]
 ·rw [VW (by omega),VW (by rw [VK];omega),hl,VK];simp [hj]
theorem Fl (p:Option Addr) (cap:Nat) (fv:Value) (w:World):aF Tryz.prog 194 [.slice p 0 cap,fv] w (.tuple #[]):=
 (AnyF.slices_SortFunc_none { Tryz.sortJj with } p cap fv w).mono fun e w' ⟨h1,h2⟩=>⟨_,[],h1,by rw [h2];exact Mem.refl w,rfl⟩
theorem Fk (O:List (List Nat)) (vs:List Value) (g cap:Nat) (Z:List Blk) (w0:World) (hv:JIn Z vs O) (hne: ∀ p∈O,p≠ []) (hinj: ∀ i j,i<O.length→j<O.length→atN (ax O i) 0=atN (ax O j) 0→i=j) (hbd: ∀ p∈O,∀ v∈p,v<1000000) (hn:0<O.length) (hlen:O.length≤1000000):
 FnIn Tryz.prog 194 [sl (some g) O.length cap,.func (.func 195) #[] #[]] w0 (.own (some g) 104 1 O.length cap vs::Z) fun v H=>v= .tuple #[]∧ ∃ (P:List (List Nat)) (vs' :List Value),P.Perm O∧JIn Z vs' P∧H= .own (some g) 104 1 O.length cap vs' ::Z:=by
 intro w hm
 haveI:Inhabited (Fin O.length):=⟨⟨0,hn⟩⟩
 obtain ⟨⟨h1,h2,h3,junk,h4,h5⟩,hkk⟩:=hm.on _ Vr;have hlt:g<w.heap.size:=(V0.1 h5).1;rw [Wd] at h1;let enc:Fin O.length→Value:=fun i=>(vs[i.1]?).getD .nilIface;let cf:Fin O.length→Fin O.length→Int:=fun i j=>(atN (ax O i.1) 0:Int) - (atN (ax O j.1) 0:Int);have hO: ∀ i:Fin O.length,ax O i.1=O[i.1]:=fun i=>by unfold ax;rw [Vo i.2];rfl
 have hmemO: ∀ i:Fin O.length,ax O i.1∈O:=fun i=>by rw [hO];exact VL i.2
 have hpos: ∀ i:Fin O.length,0<(ax O i.1).length:=fun i=>XR.2 (hne _ (hmemO i));have hsl: ∀ i:Fin O.length,∃ ga o c,enc i= .slice (some ⟨ga,o,none⟩) (ax O i.1).length c∧ ∀ w',Mem w0 w' Z→Ro w' ga o (nzC (ax O i.1)):=fun i=>by
  obtain ⟨u,hu,hr⟩:=hv.2 i.1 i.2;have he:enc i=u:=by show (vs[i.1]?).getD _=u;rw [hu];rfl
  obtain ⟨A,c,e1,_,_,h6⟩:=hr w hm.tail;obtain ⟨ga,o,e2,_⟩:=h6 (hpos i);refine ⟨ga,o,c,by rw [he,e1,e2],fun w' hm' => ?_⟩;obtain ⟨A',c',e1',_,_,h6'⟩:=hr w' hm';obtain ⟨ga',o',e2',h7⟩:=h6' (hpos i);rw [e1,e2] at e1';injection e1' with e3 e4 e5;rw [e2'] at e3;injection e3 with e3;injection e3 with e6 e7 e8;rw [e6,e7];exact h7
 have h1c:OneCell enc:=fun i=>by
  obtain ⟨ga,o,c,e,_⟩:=hsl i;rw [e];rfl
 have hmap:(List.finRange O.length).map enc=vs:=by
  apply WB;intro j;by_cases hj:j<O.length
  ·rw [VG,Vo (by simpa using hj)];simp only [List.getElem_finRange,Wq];show some ((vs[j]?).getD _)=vs[j]?;rw [Vo (by rw [h1];exact hj)]
   rfl
  ·rw [VJ (by simp;omega),VJ (by rw [h1];omega)]
 have hmw: ∀ (m:Nat) (os:Array Obj) (D:List (Fin O.length)),D.length=O.length→Mem w0 (sortWorld enc w g 0 m D.toArray os) (.own (some g) 104 1 O.length cap (D.map enc)::Z):=fun m os D hD=>by
  refine hm.upd (wh w g m D.toArray os) (b' := .own (some g) 104 1 O.length cap (D.map enc)) ?_ fun k hk=> .inl hk;refine ⟨by rw [VK,hD,Wd],h2,h3,junk,by rw [Vn,VK,hD,← h1,← Vn];exact h4,?_⟩;have h6:=x8 (enc:=enc) w g m D.toArray os _ _ _ h5;rw [IY enc D _ _ (by rw [hD,h1])] at h6;exact h6
 have hH:Holds enc w g 0 (List.finRange O.length).toArray:=by
  intro j hj;simp only [Xa,List.length_finRange] at hj;have hc:(vs++junk).toArray[j]? =some (enc (List.finRange O.length).toArray[j]!):=by
   rw [V6,VO (by rw [h1];exact hj)];have:(List.finRange O.length).toArray[j]! =⟨j,hj⟩:=by
    rw [getElem!_pos _ _ (by simpa using hj)];simp
   rw [this];show vs[j]? =some ((vs[j]?).getD _);rw [Vo (by rw [h1];exact hj)]
   rfl
  constructor
  ·simp only [World.cell?,VD,h5];exact hc
  ·simp [World.frozen?,h5]
 have eg: ∀ args w,(callFunc 195 args).run Tryz.prog w= .ok (.enter 195 args) w:=enters_of Tryz.func195 (by kernel_rfl) rfl;have hSW:SWO (ltOf cf):=⟨fun x=>by simp [ltOf,cf],fun x y z h1 h2=>by simp [ltOf,cf] at*;omega,fun x y z h1 h2=>by simp [ltOf,cf] at*;omega⟩;have hT: ∀ x y,ltOf cf x y=false→ltOf cf y x=false→x=y:=fun x y h1 h2=>by
  simp [ltOf,cf] at h1 h2;exact Fin.ext (hinj x.1 y.1 x.2 y.2 (by omega))
 have hcmp:CmpLays1 Tryz.prog 195 #[] enc cf g 0 (List.finRange O.length).toArray.size w:=fun m os dk hs x y=>by
  have hdl:dk.toList.length=O.length:=by rw [YL,hs];simp
  have hM:=(hmw m os dk.toList hdl).tail;obtain ⟨ga,oa,ca,e1,r1⟩:=hsl x;obtain ⟨gb,ob,cb,e2,r2⟩:=hsl y;have r1:=r1 _ hM;have r2:=r2 _ hM;have hv1:=hbd _ (hmemO x) _ (mf (hne _ (hmemO x)));have hv2:=hbd _ (hmemO y) _ (mf (hne _ (hmemO y)));have hc:=Tryz.cmpJj ga gb oa ob _ ca _ cb (atN (ax O x.1) 0) (atN (ax O y.1) 0) _ hv1 hv2 r1.lt r2.lt (r1.cells 0 _ (vn (hpos x))) (r2.cells 0 _ (vn (hpos y))) (hpos x) (hpos y);rw [← e1,← e2] at hc;exact hc
 have hs:=Any.slices_SortFunc_total Tryz.sortJj enc h1c cf hSW 195 #[] g 0 cap (List.finRange O.length).toArray w eg hcmp hH hlt (by simp;omega) hT;have hsz:(List.finRange O.length).toArray.size=O.length:=by simp
 rw [hsz] at hs;refine hs.mono ?_;rintro e w' ⟨rfl,n,os,rfl⟩;have hp:=XQ (List.finRange O.length) fun x y=> !(ltOf cf) y x;have hdl:((List.finRange O.length).mergeSort fun x y=> !(ltOf cf) y x).length=O.length:=by rw [hp.length_eq,List.length_finRange]
 generalize hD:((List.finRange O.length).mergeSort fun x y=> !(ltOf cf) y x)=D at hp hdl;have hmO:(List.finRange O.length).map (fun i=>ax O i.1)=O:=by
  apply WB;intro j;by_cases hj:j<O.length
  ·rw [VG,Vo (by simpa using hj),Vo hj];simp [hO ⟨j,hj⟩]
  ·rw [VJ (by simp;omega),VJ (by omega)]
 refine ⟨_,_,rfl,?_,rfl,D.map fun i=>ax O i.1,D.map enc,?_,?_,rfl⟩
 ·have h6:=hmw n os D hdl;rw [← hD] at h6 ⊢;exact h6
 ·have h6:=hp.map fun i=>ax O i.1;rwa [hmO] at h6
 ·refine ⟨by simp,fun i hi=> ?_⟩;rw [VK] at hi;obtain ⟨u,hu,hr⟩:=hv.2 D[i].1 D[i].2;refine ⟨u,?_,fun w2 hm2=> ?_⟩
  ·rw [VG,Vo hi];show some ((vs[D[i].1]?).getD _)=_;rw [hu];rfl
  ·have:ax (D.map fun i=>ax O i.1) i=ax O D[i].1:=by
    unfold ax;rw [VG,Vo hi]
    rfl
   rw [this];exact hr w2 hm2
theorem LJ (O:List (List Nat)) (vs:List Value) (A:Option Nat) (cap:Nat) (Z:List Blk) (w0:World) (hv:JIn Z vs O) (hne: ∀ p∈O,p≠ []) (hinj: ∀ i j,i<O.length→j<O.length→atN (ax O i) 0=atN (ax O j) 0→i=j) (hbd: ∀ p∈O,∀ v∈p,v<1000000) (hlen:O.length≤1000000):
 FnIn Tryz.prog 194 [sl A O.length cap,.func (.func 195) #[] #[]] w0 (.own A 104 1 O.length cap vs::Z) fun v H=>v= .tuple #[]∧ ∃ (P:List (List Nat)) (vs' :List Value),P.Perm O∧JIn Z vs' P∧H= .own A 104 1 O.length cap vs' ::Z:=by
 rcases Xc O.length with h0|h0
 ·intro w hm;rw [h0];refine Calls.mono (Fl (A.map fun g=>⟨g,0,none⟩) cap _ w) ?_;rintro e w' ⟨v,H,rfl,hm',rfl⟩;rw [← h0];exact ⟨_,_,rfl,(hm.call hm').right,rfl,O,vs,.refl _,hv,rfl⟩
 ·cases A with
  |some g=>exact Fk O vs g cap Z w0 hv hne hinj hbd h0 hlen
  |none=>
   intro w hm;obtain ⟨⟨_,_,_,h4⟩,_⟩:=hm.on _ Vr;omega
end Go.SL
