/-
  Lemmas and walks, put together: Za Ze Zb Zh Zk Zm Zc.
-/
import Derived.Test.YtpoafcnhplbkmaaGreatDoorKt13
set_option linter.unusedSimpArgs false
set_option linter.unusedVariables false
set_option maxRecDepth 20000
set_option maxHeartbeats 16000000
namespace Go.SL
open Go Go.Proofs Go.Sort Go.Shelf
attribute [local irreducible] W WL WQ WG WA WX WLI WR WT WC WE VOp RW thn blk aW scp aJ aS bg FnAt FnIn FnP ceP
def nzC (l:List Nat):List Value:=l.map fun i:Nat=>Value.int .i64 (i:Int)
theorem gD (l:List Nat):(nzC l).length=l.length:=by simp [nzC]
theorem o3 (l:List Nat):(nzC l).length=l.length*1:=by simp [nzC]
theorem sq (l:List Nat): ∀ u∈nzC l,u.oneCell' =true:=by
 intro u hu;obtain ⟨n,_,rfl⟩:=IM.1 hu
 rfl
theorem sr (l m:List Nat):nzC (l++m)=nzC l++nzC m:=by simp [nzC]
theorem mh {l:List Nat} {k:Nat} (h:k<l.length):(nzC l)[k]? =some (.int .i64 ((atN l k:Nat):Int)):=by
 simp [nzC,atN,h]
theorem ba {l:List Nat} {k:Nat} (h:k<l.length):(nzC l)[0+k*1]? =some (.int .i64 ((atN l k:Nat):Int)):=by
 rw [IG,Jd];exact mh h
theorem gC {l:List Nat} {k x:Nat}:(nzC l).set (0+k*1) (.int .i64 ((x:Nat):Int))=nzC (l.set k x):=by
 rw [IG,Jd];simp [nzC,List.map_set]
theorem uX (n:Nat):((List.range (n*1)).map fun i=> [Value.int .i64 0][i % [Value.int .i64 0].length]!)=nzC (List.replicate n 0):=by
 simp [nzC,Nat.mod_one,List.map_const']
theorem Ct (l:List Nat) (k:Nat):(nzC l).drop k=nzC (l.drop k):=by simp [nzC]
theorem oZ (l:List Nat) (k:Nat):(nzC l).take k=nzC (l.take k):=by simp [nzC]
theorem bS {l:List Nat} {k:Nat} (h:k<l.length):atN l k=l[k]:=by simp [atN,h]
theorem bw {l:List Nat} {k:Nat} (h:k<l.length):atN l k∈l:=by rw [bS h];exact IZ h
theorem Ro.natN {w:World} {g o:Nat} {l:List Nat} (h:Ro w g o (nzC l)) (i:Nat) (hi:i<l.length):Ro w g (o+i*1) [.int .i64 ((atN l i:Nat):Int)]:=h.cellV i (mh hi)
def sY (l:List Nat) (x:Nat):Int:=match l.findIdx? fun b=>decide (b=x) with|some i=>(i:Int)|none=> -1
theorem CS (l:List Nat) (x:Nat):decide (0≤sY l x)=decide (x∈l):=by
 rw [decide_eq_decide];unfold sY
 cases h:l.findIdx? fun b=>decide (b=x) with
 |none=>
  rw [JH] at h;exact ⟨fun hh=>by simp at hh,fun hm=>by have:=h x hm;simp at this⟩
 |some i=>
  obtain ⟨h1,h2,_⟩:=Jb.1 h;refine ⟨fun _=> ?_,fun _=>by simp⟩;have:l[i]=x:=by simpa using h2
  rw [← this];exact IZ h1
theorem CT {A B:List Nat} {x:Nat} (h:x∉A):sY (A++x::B) x=(A.length:Int):=by
 have hlt:A.length<(A++x::B).length:=by simp
 unfold sY;rw [Jb.2 ⟨hlt,by simp,fun j hj=> ?_⟩];rw [List.getElem_append_left hj];have:A[j]≠x:=fun e=>h (e ▸ IZ hj);simp [this]
theorem rC (l:List Nat) (x:Nat) (hlen:l.length≤1000000) (tv:Value) (w:World) (ht:Reads w tv l.length (nzC l)):
 aC Tryz.prog 84 [tv,.int .i64 (x:Int)] w (.int .i64 (sY l x)):=by
 obtain ⟨Al,cl,rfl,hl1,hl2,hl3⟩:=ht;refine ax Tryz.func84 rfl Tryz.ntmps84 rfl ?_;repeat' (first|refine sT ?_|refine sM fun _=>?_|(refine sC ?_ ?_<;>intro hb<;>try omega)|fail)
 refine fc (fun i:Nat=> [(0,.slice Al l.length cl),(1,.int .i64 (x:Int)),(7,.int .i64 (l.length:Int)),(8,.int .i64 (i:Int))]) (fun _=> []) (fun i=>i≤l.length∧ ∀ j (h:j<l.length),j<i→l[j]≠x) (fun i=>l.length - i) 0 ⟨by omega,fun j _ h=>by omega⟩ sB (.refl _) ?_;rintro i ⟨hi,hno⟩;by_cases hlt:i<l.length
 ·obtain ⟨gl,ol,rfl,hrl⟩:=hl3 (by omega);have he:=hrl.natN i hlt;have hnext:(atN l i:Int)≠(x:Int)→ ∀ j (h:j<l.length),j<i+1→l[j]≠x:=fun h0 j h hj=>by
   by_cases e:j=i
   ·subst e;rw [bS hlt] at h0;exact fun e=>h0 (by rw [e])
   ·exact hno j h (by omega)
  have hres:(atN l i:Int)=(x:Int)→sY l x=(i:Int):=fun h0=>by
   rw [bS hlt] at h0;unfold sY;rw [Jb.2 ⟨hlt,by simp;omega,fun j hj=>by have:=hno j (by omega) hj;simpa using this⟩]
  generalize atN l i=u at he hnext hres;repeat' (first|(apply ai;exact rfl;apply aa (j:=i);exact rfl;exact rfl;exact hlt)|(apply ai;exact rfl;apply aG;exact rfl;exact he)|refine sT ?_|refine sN ?_|refine sM fun _=>?_|(refine sC ?_ ?_<;>intro hb<;>try omega)|fail)
  all_goals first
   |(refine bB eIO rfl rfl (.nil _) ?_;rw [hres (by omega)];done)
   |(refine ⟨i+1,⟨hlt,hnext (by omega)⟩,by omega,?_,.nil _⟩;exact sB;done)
 ·have e:i=l.length:=by omega
  subst e;have hres:sY l x= -1:=by
   unfold sY
   rw [JH.2 fun y hy=>by
    obtain ⟨j,hj,rfl⟩:=JZ hy;have:=hno j hj hj;simpa using this]
  repeat' (first|refine sT ?_|refine sM fun _=>?_|(refine sC ?_ ?_<;>intro hb<;>try omega)|fail)
  all_goals first
   |(refine bB eIO rfl rfl (.nil _) ?_;rw [hres];done)
theorem lT (l:List Nat) (x:Nat) (hlen:l.length≤1000000) (tv:Value) (w:World) (ht:Reads w tv l.length (nzC l)):
 aC Tryz.prog 40 [tv,.int .i64 (x:Int)] w (.bool (decide (x∈l))):=by
 refine ax Tryz.func40 rfl Tryz.ntmps40 rfl ?_;have hI:=fun (w' :World) (H:List Blk) (hm:Mem w w' H)=>rC l x hlen tv w' (ht.of_w0 hm);have hres:=CS l x;repeat' (first|(apply ag (f:=84);exact rfl;exact rfl;(intro w' hm;exact hI w' _ hm))|refine sT ?_|refine sM fun _=>?_|(refine sC ?_ ?_<;>intro hb<;>try omega)|fail)
 all_goals first
  |(refine bB eIO rfl rfl (.nil _) ?_;rw [hres];done)
theorem Bf (l:List Nat) (tv:Value) (w:World) (ht:Reads w tv l.length (nzC l)) (hlen:l.length≤1000000):
 FnAt Tryz.prog 117 [tv] w fun v H=> ∃ A cap,v=sl A l.length cap∧H= [.own A 3 1 l.length cap (nzC l)]:=by
 have ht' :=ht;obtain ⟨At,ct,rfl,ht1,ht2,ht3⟩:=ht;refine ax Tryz.func117 rfl Tryz.ntmps117 rfl ?_;refine aN 3 1 ?_;repeat' (first|(apply ai;exact rfl;apply BM;exact rfl)|(apply jp;exact rfl;intro gb)|(apply eG (n' :=0) (c:=0) (A:=some _) (m:=l.length);(iterate 3 exact rfl);exact pK;(intro w hm;exact ht'.of_w0 hm);exact o3 l;exact sq l;omega;(simp only [maxLen];omega);intro A' cap' hA)|refine sT ?_|refine sM fun _=>?_|(refine sC ?_ ?_<;>intro hb<;>try omega)|fail)
 ·have e:l.length=0:=by
   rcases Kx l.length with h|h
   ·exact h
   ·obtain ⟨g,o,rfl,_⟩:=ht3 h;cases hb
  have e' :l= []:=JV e;subst e';exact bB (.inl rfl) Tryz.results117 rfl (.refl _) ⟨none,0,rfl,rfl⟩
 ·exact bB (.inl rfl) Tryz.results117 rfl (H' := [.own A' 3 1 (0+l.length) cap' ([]++nzC l)]) mS ⟨A',cap',by rw [IG],by rw [IG];rfl⟩
def dI (l:List Nat):List Nat:=l.mergeSort fun x y=>decide (x≤y)
theorem di (l:List Nat):(dI l).Perm l:=Kc _ _
theorem jQ (l:List Nat):(dI l).Pairwise (· ≤ ·):=by
 have h:=List.pairwise_mergeSort (le:=fun x y:Nat=>decide (x≤y)) (fun a b c h1 h2=>by simp at*;omega) (fun a b=>by simp;omega) l;exact h.imp fun h=>by simpa using h
theorem zC (l:List Nat):(lh (l.map fun i:Nat=>(i:Int))).map qb=nzC (dI l):=by
 unfold lh dI nzC;rw [← List.map_mergeSort (r:=fun x y:Nat=>decide (x≤y)) (fun a _ b _=>by rw [decide_eq_decide];omega),JM]
 rfl
theorem oJ (l:List Nat) (A:Option Nat) (cap:Nat) (hL:l.length≤1000000) (R:List Blk) (w0:World):
 FnIn Tryz.prog 41 [sl A l.length cap] w0 (.own A 3 1 l.length cap (nzC l)::R) fun v H=>v= .tuple #[]∧H= .own A 3 1 l.length cap (nzC (dI l))::R:=by
 have h:=uB (l.map fun i:Nat=>(i:Int)) A cap (by rw [II];exact hL) R w0;rw [II,zC,JM] at h;exact h
def JRd (w:World) (v:Value) (X:Nx):Prop:= ∃ vs:List Value,vs.length=X.length∧Reads w v X.length vs∧ ∀ i,i<X.length→ ∃ u,vs[i]? =some u∧Reads w u (aj X i).length (nzC (aj X i))
theorem JRd.of_w0 {w0 w:World} {H:List Blk} {v:Value} {X:Nx} (hm:Mem w0 w H) (h:JRd w0 v X):JRd w v X:=by
 obtain ⟨vs,h1,h2,h3⟩:=h;exact ⟨vs,h1,h2.of_w0 hm,fun i hi=>by obtain ⟨u,h4,h5⟩:=h3 i hi;exact ⟨u,h4,h5.of_w0 hm⟩⟩
def JIn (Z:List Blk) (vs:List Value) (X:Nx):Prop:=vs.length=X.length∧ ∀ i,i<X.length→ ∃ u,vs[i]? =some u∧ ∀ {w1:World} (w:World),Mem w1 w Z→Reads w u (aj X i).length (nzC (aj X i))
theorem JIn.mono {Z Z' :List Blk} {vs:List Value} {X:Nx} (h:JIn Z vs X) (hs:MSub Z Z'):JIn Z' vs X:=
 ⟨h.1,fun i hi=>by obtain ⟨u,h1,h2⟩:=h.2 i hi;exact ⟨u,h1,fun w hm=>h2 w (hs.use hm)⟩⟩
theorem JIn.nil:JIn [] [] []:=⟨rfl,fun i hi=>absurd hi (J7 _)⟩
theorem qd {X:Nx} {l:List Nat} {i:Nat} (h:i<X.length):aj (X++ [l]) i=aj X i:=by
 unfold aj;rw [I6 h]
theorem qe {X:Nx} {l:List Nat}:aj (X++ [l]) X.length=l:=by
 unfold aj;rw [Ji (IK _)];simp
theorem JIn.snoc {Z Z' :List Blk} {vs:List Value} {X:Nx} {u:Value} {l:List Nat} (h:JIn Z vs X) (hs:MSub Z Z') (hu: ∀ {w1:World} (w:World),Mem w1 w Z' →Reads w u l.length (nzC l)):JIn Z' (vs++ [u]) (X++ [l]):=by
 refine ⟨by rw [Iv,Iv,h.1];rfl,fun i hi=> ?_⟩;rw [Iv,IV] at hi;by_cases e:i<X.length
 ·obtain ⟨u',h1,h2⟩:=h.2 i e;rw [qd e];exact ⟨u',by rw [I6 (by rw [h.1];exact e)];exact h1,fun w hm=>h2 w (hs.use hm)⟩
 ·have e2:i=X.length:=by omega
  subst e2;rw [qe];exact ⟨u,by rw [← h.1,Ji (IK _)];simp,hu⟩
abbrev JA:=List (Option Nat × Nat)
def bo:Nx→JA→List Value
 |l::X,a::As=>sl a.1 l.length a.2::bo X As
 |_,_=> []
def eP:Nx→JA→List Blk
 |l::X,a::As=> .own a.1 3 1 l.length a.2 (nzC l)::eP X As
 |_,_=> []
theorem fW: ∀ {X:Nx} {As:JA},As.length=X.length→(bo X As).length=X.length
 | [],[],_=>rfl
 |l::X,a::As,h=>by rw [bo,IU,fW (Nat.succ.inj h),IU]
 | [],_::_,h=>by cases h
 |_::_,[],h=>by cases h
theorem eu: ∀ {X:Nx} {As:JA} {i:Nat} (h:As.length=X.length) (hi:i<X.length),(bo X As)[i]? =some (sl (As[i]'(by omega)).1 (aj X i).length (As[i]'(by omega)).2)
 |l::X,a::As,0,_,_=>rfl
 |l::X,a::As,i+1,h,hi=>by
  have:=eu (X:=X) (As:=As) (i:=i) (Nat.succ.inj h) (KC hi);rw [bo,Kz,this]
  rfl
 | [],_,_,_,hi=>absurd hi (J7 _)
 |_::_,[],_,h,_=>by cases h
theorem pE: ∀ {X:Nx} {As:JA} {i:Nat} (h:As.length=X.length) (hi:i<X.length),∃ Rs,∀ (l:List Nat) (a:Option Nat × Nat),(eP (X.set i l) (As.set i a)).Perm (.own a.1 3 1 l.length a.2 (nzC l)::Rs)
 |l0::X,a0::As,0,_,_=>⟨eP X As,fun l a=> .refl _⟩
 |l0::X,a0::As,i+1,h,hi=>by
  obtain ⟨Rs,hR⟩:=pE (X:=X) (As:=As) (i:=i) (Nat.succ.inj h) (KC hi);exact ⟨.own a0.1 3 1 l0.length a0.2 (nzC l0)::Rs,fun l a=>((hR l a).cons _).trans (.swap _ _ _)⟩
 | [],_,_,_,hi=>absurd hi (J7 _)
 |_::_,[],_,h,_=>by cases h
theorem iw: ∀ {X:Nx} {As:JA} {i:Nat} (l:List Nat) (a:Option Nat × Nat),As.length=X.length→bo (X.set i l) (As.set i a)=(bo X As).set i (sl a.1 l.length a.2)
 | [],[],_,_,_,_=>rfl
 |l0::X,a0::As,0,_,_,_=>rfl
 |l0::X,a0::As,i+1,l,a,h=>by
  rw [KV,KV,bo,bo,KV,iw l a (Nat.succ.inj h)]
 | [],_::_,_,_,_,h=>by cases h
 |_::_,[],_,_,_,h=>by cases h
theorem lF: ∀ {X:Nx} {As:JA} {i:Nat} (h:As.length=X.length) (hi:i<X.length),Blk.own (As[i]'(by omega)).1 3 1 (aj X i).length (As[i]'(by omega)).2 (nzC (aj X i))∈eP X As
 |l0::X,a0::As,0,_,_=>Iu
 |l0::X,a0::As,i+1,h,hi=>IB _ (lF (X:=X) (As:=As) (i:=i) (Nat.succ.inj h) (KC hi))
 | [],_,_,_,hi=>absurd hi (J7 _)
 |_::_,[],_,h,_=>by cases h
theorem sK {X:Nx} {As:JA} (h:As.length=X.length):JIn (eP X As) (bo X As) X:=
 ⟨fW h,fun _ hi=>⟨_,eu h hi,fun _ hm=>Reads.of_own hm (In.of_mem (lF h hi))⟩⟩
def lG (n:Nat):Nx:=List.replicate n []
def cI (n:Nat):JA:=List.replicate n (none,0)
theorem HR (n:Nat):bo (lG n) (cI n)=List.replicate n (.slice none 0 0):=by
 induction n with
 |zero=>rfl
 |succ n ih=>rw [lG,cI,Kb,Kb,bo,Kb,← ih];rfl
theorem vu (n:Nat):eP (lG n) (cI n)=List.replicate n (.own none 3 1 0 0 []):=by
 induction n with
 |zero=>rfl
 |succ n ih=>rw [lG,cI,Kb,Kb,eP,Kb,← ih];rfl
theorem iq (n:Nat):((List.range (n*1)).map fun i=> [Value.slice none 0 0][i % [Value.slice none 0 0].length]!)=bo (lG n) (cI n):=by
 rw [HR];simp [Nat.mod_one,List.map_const']
theorem fK {P:Program} {n:Fr} {w0:World} {Q:aO} {s:au} {H:List Blk} {c:Code} (e:TypeId): ∀ m,W P n w0 c Q s (List.replicate m (.own none e 1 0 0 [])++H)→W P n w0 c Q s H
 |0,h=>h
 |m+1,h=>fK e m (aN e 1 h)
theorem JIn.rd {w0 w:World} {Z:List Blk} {vs:List Value} {X:Nx} {A:Option Nat} {t c:Nat} (h:JIn Z vs X) (hm:Mem w0 w (.own A t 1 X.length c vs::Z)):JRd w (sl A X.length c) X:=
 ⟨vs,h.1,Reads.of_own hm .hd,fun i hi=>by
  obtain ⟨u,h1,h2⟩:=h.2 i hi;exact ⟨u,h1,h2 w hm.tail⟩⟩
theorem gU {P:Program} {w0:World} {s:au} {H:List Blk} {ty:TypeId} {x:Operand} {t g o off:Nat} {xs:List Value} {v:Value} [One P t] (hc: ∀ w,Mem w0 w H→Cells w g o xs) (hx:ev s x=some (.pointer (some ⟨g,o+off,none⟩))) (hv:xs[off]? =some v):
 VOp P w0 s H (.load t x) ty v:=by
 unfold VOp;intro ρ w _ _ _ _ hρ hm;have hc:w.cell? ⟨g,o+off,none⟩=some v:=hc w hm off v hv;simp [execOp,hρ x _ hx,Instr.loadAt,Instr.sureAddr,bI (P:=P) hc]
end Go.SL
namespace Go.SL
open Go
def bT (G:Gr) (i:Nat):Bool:=bh G G.length i i||(List.range G.length).any fun k=>bh G G.length i k && bh G G.length k k
def lpC (G:Gr):List Nat:=(List.range G.length).filter fun i=>bh G G.length i i
def ccC (G:Gr):List Nat:=(List.range G.length).filter (bT G)
def frC (G:Gr):List Nat:=(List.range G.length).filter fun i=> !bT G i
def lj (G:Gr) (l:List Nat):List Nat:=qJ (bh G G.length) G.length l.length (kv l [])
def Gl (G:Gr):List Nat:=lj G (frC G)
def jA (G:Gr):List Rf:=cZ (aw G) (lpC G)
def kB (G:Gr):List Rf:=cZ (aw G) (ccC G)
def mg (G:Gr):List Rf:=cZ (aw G) (Gl G)
theorem Dp {G:Gr} {i:Nat}:bT G i=true↔co (ay G) i:=vY
theorem Ev (G:Gr):CH (ay G)=lpC G:=by
 unfold CH lpC;rw [bi];exact List.filter_congr fun i _=>Fa.symm
theorem yP (G:Gr):pJ (ay G)=frC G:=by
 unfold pJ frC;rw [bi];exact List.filter_congr fun i _=>by rw [show bT G i=lQ (ay G) i from rA]
theorem EE (G:Gr):(frC G).Pairwise (· < ·):=ma _ _
theorem yQ {G:Gr} {i:Nat}:i∈frC G↔i<G.length∧ ¬ co (ay G) i:=by
 rw [← yP,iB,bi]
theorem GK {G:Gr} {i k:Nat} (hi:i∈frC G) (hk:k∈aj (ay G) i):k∈frC G:=by
 rw [yQ] at hi ⊢;have:=lz i k hk;rw [bi] at this;exact ⟨this,u5 hi.2 hk⟩
theorem oY (G:Gr):SubN (bh G G.length) G.length (frC G) (aZ (ay G) (frC G)):=by
 have h:=xm (G:=G);rwa [yP] at h
theorem El (G:Gr):(cV (aZ (ay G) (frC G))).map (fun p=>((frC G)[p]?).getD 0)=Gl G:=(oY G).topo.1
structure SomeOk (G:Gr) (l:List Nat):Prop where
 asc:l.Pairwise (· < ·)
 lt: ∀ i∈l,i<G.length
 free: ∀ i∈l,¬ co (ay G) i
theorem SomeOk.sub {G:Gr} {l:List Nat} (h:SomeOk G l):SubN (bh G G.length) G.length l (bq (bh G G.length) l):=AZ (fun _ _=>cM) h.asc h.lt h.free
theorem SomeOk.eq {G:Gr} {l:List Nat} (h:SomeOk G l):(cV (bq (bh G G.length) l)).map (fun p=>(l[p]?).getD 0)=lj G l:=h.sub.topo.1
def mL (K:List Rf) (circ:Nat→Bool):List Rf→List Nat→List Nat × Int
 | [],S=>(S,0)
 |a::L,S=>if a.valid=false then (S,3) else if a∉K then (S,6) else if circ (dR K a)=true then (S,13) else if dR K a∈S then (S,8) else mL K circ L (S++ [dR K a])
def fH (G:Gr) (L:List Rf):Int:=(mL (aw G) (bT G) L []).2
def kg (G:Gr) (L:List Rf):List Rf:=if fH G L=0 then cZ (aw G) (lj G (dI (mL (aw G) (bT G) L []).1)) else []
structure AmgI (G:Gr) (S:List Nat):Prop where
 nd:S.Nodup
 lt: ∀ i∈S,i<G.length
 free: ∀ i∈S,¬ co (ay G) i
theorem AmgI.nil (G:Gr):AmgI G []:=⟨Kh,fun _ h=>(by cases h),fun _ h=>(by cases h)⟩
theorem AmgI.snoc {G:Gr} {S:List Nat} (h:AmgI G S) {i:Nat} (hi:i<G.length) (hc:bT G i=false) (hn:i∉S):AmgI G (S++ [i]):=by
 refine ⟨?_,fun j hj=> ?_,fun j hj=> ?_⟩
 ·rw [J8];exact ⟨h.nd,by simp,fun a ha b hb e=>hn (by rw [Iz.1 hb] at e;exact e ▸ ha)⟩
 ·rcases IL.1 hj with hj|hj
  ·exact h.lt j hj
  ·rw [Iz.1 hj];exact hi
 ·rcases IL.1 hj with hj|hj
  ·exact h.free j hj
  ·rw [Iz.1 hj,← Dp,hc];simp
theorem AmgI.len {G:Gr} {S:List Nat} (h:AmgI G S):S.length≤G.length:=by
 have h1:=bK S (List.range G.length) h.nd fun x hx=>IJ.2 (h.lt x hx);rwa [Jc] at h1
theorem AmgI.ok {G:Gr} {S:List Nat} (h:AmgI G S):SomeOk G (dI S):=by
 have hp:=di S;refine ⟨?_,fun i hi=>h.lt i (hp.mem_iff.1 hi),fun i hi=>h.free i (hp.mem_iff.1 hi)⟩;exact (KH.2 ⟨jQ S,hp.nodup_iff.2 h.nd⟩).imp fun ⟨h4,h5⟩=>KT h4 h5
theorem lJ {K:List Rf} (hn:K.Nodup) {a:Rf} (h:a∈K): ∃ hi:dR K a<K.length,K[dR K a]=a:=by
 obtain ⟨i,hi,rfl⟩:=JE.1 h;have e:=yO hn hi;exact ⟨by rw [e];exact hi,by simp only [e]⟩
theorem bM (G:Gr):(aw G).length=G.length:=by simp [aw]
def Tj.un (S:Tj):Nat:=S.num.countP fun x=>decide (x=0)
theorem uk {S:Tj} {i:Nat} (hi:i<S.num.length) (h0:S.n i=0):(S.start i).un+1=S.un:=by
 have he:S.num[i]=0:=by
  unfold Tj.n at h0;rw [Ir hi] at h0;exact h0
 have hp:0<S.num.countP fun x=>decide (x=0):=List.countP_pos_iff.2 ⟨_,IZ hi,by rw [he];rfl⟩;unfold Tj.un Tj.start;dsimp only;rw [List.countP_set hi,he];simp;omega
theorem r9 {X:Nx} {S:Tj} (h:TjOk X S):S.stk.length≤X.length:=by
 have h1:=bK S.stk (List.range X.length) (h.stk.imp fun hab e=>by rw [e] at hab;exact JO _ hab) (fun x hx=>IJ.2 (h.lt x hx));rwa [Jc] at h1
theorem fY {p:List Nat} (h:p≠ []):atN p 0∈p:=by
 cases p with
 |nil=>exact absurd rfl h
 |cons a l=>exact Iu
theorem qX {n:Nat} {O:List (List Nat)} (hd:O.Pairwise fun p q=> ∀ v∈p,v∉q) (hn: ∀ p∈O,p≠ []) (hl: ∀ p∈O,∀ v∈p,v<n):O.length≤n:=by
 have h1:(O.map fun p=>atN p 0).Nodup:=by
  rw [List.Nodup,KD];exact hd.imp_of_mem fun {p q} hp hq hpq e=>hpq _ (fY (hn p hp)) (e ▸ fY (hn q hq))
 have h2:=bK _ (List.range n) h1 (fun x hx=>by
  obtain ⟨p,hp,rfl⟩:=IM.1 hx;exact IJ.2 (hl p hp _ (fY (hn p hp))))
 rwa [II,Jc] at h2
theorem Ej {X:Nx} {S:Tj} (h:TjOk X S):S.out.length≤X.length:=
 qX h.dis (fun p hp=>(h.scc p hp).1) fun p hp v hv=>h.nlt ((h.prt v).1 ⟨p,hp,hv⟩).1
theorem TjEnd.len {X:Nx} {O:List (List Nat)} (h:TjEnd X O):O.length≤X.length:=
 qX h.dis (fun p hp=>(h.scc p hp).1) h.lt
theorem TjEnd.part_len {X:Nx} {O:List (List Nat)} (h:TjEnd X O) {p:List Nat} (hp:p∈O):p.length≤X.length:=by
 have h1:=bK p (List.range X.length) ((h.scc p hp).2.1.imp fun hab e=>by rw [e] at hab;exact JO _ hab) (fun x hx=>IJ.2 (h.lt p hp x hx));rwa [Jc] at h1
theorem Lp.ex_len {X:Nx} {S0 S:Tj} {i:Nat} {ex dn:List Nat} (h:Lp X S0 i S ex dn):ex.length+1≤X.length:=by
 have h1:=r9 h.ok;rw [h.stk,Iv,IU] at h1;omega
def Tj.new (n:Nat):Tj:=⟨List.replicate n 0,List.replicate n 0,List.replicate n false,[],[],0⟩
theorem Cv (n v:Nat):(Tj.new n).n v=0:=by
 unfold Tj.n Tj.new;dsimp only;rw [JY];split<;>rfl
theorem FA (n v:Nat):(Tj.new n).o v=false:=by
 unfold Tj.o Tj.new;dsimp only;rw [JY];split<;>rfl
theorem Gz (n:Nat):(Tj.new n).un=n:=by
 unfold Tj.un Tj.new;dsimp only;rw [List.countP_eq_length.2 (fun a ha=>by rw [(List.mem_replicate.1 ha).2];rfl),JD]
theorem GA (X:Nx):TjOk X (Tj.new X.length):={
 ln:=JD
 ll:=JD
 lo:=JD
 le i:=by rw [Cv];exact Iw _
 stk:=List.Pairwise.nil
 lt v hv:=by cases hv
 vis v hv:=by cases hv
 on v _:=by
  rw [FA];exact ⟨fun h=>by simp at h,fun h=>by cases h⟩
 cls v hv:=absurd (Cv _ v) hv
 prt v:=⟨fun ⟨p,hp,_⟩=>(by cases hp),fun h=>absurd (Cv _ v) h.1⟩
 scc p hp:=by cases hp
 dis:=List.Pairwise.nil }
def nC (S:Tj) (l:List Nat) (v:Nat):Bool:=S.o v && !decide (v∈l)
theorem zY (S:Tj) (l:List Nat) {n j:Nat} (h:j<l.length):aL n (fun v=>if v=atN l j then false else nC S (l.take j) v)=aL n (nC S (l.take (j+1))):=bY fun v _=>by
 unfold nC;rw [IA h,bS h];by_cases e:v=l[j]
 ·subst e;rw [if_pos rfl,decide_eq_true (JL _ (Iz.2 rfl)),Bool.not_true,Bool.and_false]
 ·rw [if_neg e];congr 2;rw [decide_eq_decide,IL,Iz];exact ⟨.inl,fun hh=>hh.resolve_right e⟩
theorem zX (S:Tj) (l:List Nat) (n:Nat):aL n S.o=aL n (nC S (l.take 0)):=bY fun v _=>by simp [nC]
theorem Es {X:Nx} {S0 S:Tj} {i:Nat} {ex:List Nat} (h:Lp X S0 i S ex (aj X i)) (he:S.l i=S.n i): ∃ S' :Tj,Entd X S0 i S' []∧S'.num=S.num∧S'.low=S.low∧S'.stk=S0.stk∧S'.out=S.out++ [dI (i::ex)]∧S'.cnt=S.cnt∧aL X.length (nC S ((i::ex).take (i::ex).length))=aL X.length S'.o:=by
 have hon: ∀ v,v<X.length→((((List.range X.length).map (nC S (i::ex)))[v]?).getD false)=nC S (i::ex) v:=fun v hv=>by
  rw [Iy,IY hv];rfl
 refine ⟨_,GD h he (on' :=(List.range X.length).map (nC S (i::ex))) (part:=dI (i::ex)) (by simp) (fun v hv=> ?_) (di _) (jQ _),rfl,rfl,rfl,rfl,rfl,?_⟩
 ·rw [hon v hv];unfold nC;simp
 ·rw [I5];refine bY fun v hv=> ?_;exact (hon v hv).symm
theorem Aa {X:Nx} {O:List (List Nat)} (h:TjEnd X O):(dI (O.flatMap (cu X))).Pairwise (· < ·)∧ ∀ v,v∈dI (O.flatMap (cu X))↔v<X.length∧onC X v:=by
 have hp:=di (O.flatMap (cu X));refine ⟨?_,fun v=>by rw [hp.mem_iff];exact h.loop⟩;have h3:(dI (O.flatMap (cu X))).Nodup:=hp.nodup_iff.2 h.nodup;exact (KH.2 ⟨jQ _,h3⟩).imp fun ⟨h4,h5⟩=>KT h4 h5
theorem qV {X:Nx} {O:List (List Nat)} (h:TjEnd X O) (k:Nat):((O.take k).flatMap (cu X)).length≤X.length:=by
 have h1:((O.take k).flatMap (cu X)).Sublist (O.flatMap (cu X)):=by
  conv=>rhs;rw [← Jr k O,Jk]
  exact List.sublist_append_left _ _
 have h2:=bK _ (List.range X.length) (h1.nodup h.nodup) (fun x hx=>IJ.2 (h.loop.1 (h1.subset hx)).1);rwa [Jc] at h2
theorem xy {X:Nx} {O:List (List Nat)} {k:Nat} (h:k<O.length):(O.take (k+1)).flatMap (cu X)=(O.take k).flatMap (cu X)++cu X (aj O k):=by
 rw [IA h,Jk,J1];unfold aj;rw [Ir h]
 rfl
theorem uw {L:List Nat} {i j:Nat} (hi:i<L.length) (hj:j<L.length):atN (swapN L i j)=gY (atN L) i j:=funext (oI hi hj)
theorem v8 {L M:List Nat} {i:Nat} (h:i<L.length):atN (L++M) i=atN L i:=by
 unfold atN;rw [I6 h]
theorem wg {L:List Nat} {x:Nat}:atN (L++ [x]) L.length=x:=by
 unfold atN;rw [Ji (IK _)];simp
theorem BR {h:List Nat} {x:Nat} (H:HpF (atN h) h.length):UpH (atN (h++ [x])) (h.length+1) h.length:=H.push fun i hi=>v8 hi
def bF (X:Nx) (i m k:Nat):List Nat:=((List.range i).flatMap fun j=>((aj X j).filter fun u=>decide (u=k)).map fun _=>j)++(((aj X i).take m).filter fun u=>decide (u=k)).map fun _=>i
def aR (X:Nx) (i m:Nat):Nx:=(List.range X.length).map (bF X i m)
theorem jY (X:Nx) (i m:Nat):(aR X i m).length=X.length:=by simp [aR]
theorem lK {X:Nx} {i m k:Nat} (h:k<X.length):aj (aR X i m) k=bF X i m k:=by
 unfold aj aR;rw [Iy,IY h];rfl
theorem kP (X:Nx):aR X 0 0=lG X.length:=by
 unfold aR lG;apply Js;intro k;by_cases h:k<X.length
 ·rw [Iy,IY h,JY,if_pos h];simp [bF]
 ·rw [IC (by simp;omega),IC (by simp;omega)]
theorem pG {X:Nx} {i m k:Nat} (h:m<(aj X i).length):bF X i (m+1) k=if atN (aj X i) m=k then bF X i m k++ [i] else bF X i m k:=by
 unfold bF;rw [IA h,KA,Jn,← I1,bS h];by_cases e:(aj X i)[m]=k
 ·simp [e]
 ·simp [e]
theorem pH {X:Nx} {i m k:Nat} (h:m<(aj X i).length) (hk:atN (aj X i) m=k):aR X i (m+1)=(aR X i m).set k (bF X i m k++ [i]):=by
 apply Js;intro j;by_cases hj:j<X.length
 ·unfold aR;rw [Iy,IY hj,KF];simp only [JB];by_cases e:k=j
  ·subst e;rw [if_pos rfl,if_pos (by simpa using hj),pG h,if_pos hk]
  ·rw [if_neg e,Iy,IY hj,pG h,if_neg (fun e2=>e (hk.symm.trans e2))]
   rfl
 ·rw [IC (by rw [jY];omega),IC (by rw [Jo,jY];omega)]
theorem pI (X:Nx) (i:Nat):aR X i (aj X i).length=aR X (i+1) 0:=by
 unfold aR;refine Jj fun k _=> ?_;unfold bF;rw [I5,Kf,Ky,Jk];simp
theorem jf (X:Nx):aR X X.length 0=eE X:=by
 unfold aR eE;refine Jj fun k _=> ?_;unfold bF bJ;simp
theorem jX {X:Nx} {B:Nat} (hB: ∀ j,(aj X j).length≤B) (i m k:Nat):(bF X i m k).length≤(i+1)*B:=by
 have h1: ∀ n:Nat,((List.range n).flatMap fun j=>((aj X j).filter fun u=>decide (u=k)).map fun _=>j).length≤n*B:=fun n=>by
  induction n with
  |zero=>simp
  |succ n ih=>
   rw [Ky,Jk,Iv,J1,II,JP,Kk];have:=Je (JN (fun u=>decide (u=k)) (aj X n)) (hB n);omega
 have h2:((((aj X i).take m).filter fun u=>decide (u=k)).map fun _=>i).length≤B:=by
  rw [II];refine Je (JN _ _) (Je ?_ (hB i));rw [Jl];omega
 have h3:=h1 i;unfold bF;rw [Iv,JP,Kk];omega
def fo (X:Nx) (i:Nat):List Nat:=(List.range X.length).map fun j=>if j<i then (aj X j).length else 0
def gO (X:Nx) (i:Nat):List Nat:=(List.range i).filter fun j=>decide ((aj X j).length=0)
theorem il (X:Nx) (i:Nat):(fo X i).length=X.length:=by simp [fo]
theorem xA (X:Nx):fo X 0=List.replicate X.length 0:=by
 unfold fo;apply Js;intro k;by_cases h:k<X.length
 ·rw [Iy,IY h,JY,if_pos h];rfl
 ·rw [IC (by simp;omega),IC (by simp;omega)]
theorem xB {X:Nx} {i:Nat}:(fo X i).set i (aj X i).length=fo X (i+1):=by
 apply Js;intro j;by_cases hj:j<X.length
 ·rw [KF];unfold fo;rw [Iy,Iy,IY hj];by_cases e:i=j
  ·subst e;rw [if_pos rfl,if_pos (by simpa using hj)];simp
  ·rw [if_neg e];simp only [JB];by_cases h1:j<i
   ·rw [if_pos h1,if_pos (by omega)]
   ·rw [if_neg h1,if_neg (by omega)]
 ·rw [IC (by rw [Jo,il];omega),IC (by rw [il];omega)]
theorem uN (X:Nx) (i:Nat):gO X (i+1)=if (aj X i).length=0 then gO X i++ [i] else gO X i:=by
 unfold gO;rw [dz];simp only [decide_eq_true_eq]
theorem CU {X:Nx} {h:List Nat} (hp:h.Perm (gO X X.length)):HpI X [] h (fo X X.length):={
 dn:=Kh
 dl i hi:=by cases hi
 dc i hi:=by cases hi
 ll:=il _ _
 lv i hi:=by
  unfold fo;rw [Iy,IY hi,List.countP_eq_length.2 (fun k _=>by simp)];simp [hi]
 hn:=hp.nodup_iff.2 (List.Pairwise.filter _ KJ)
 hm m:=by
  rw [hp.mem_iff];unfold gO;rw [JC,IJ,cL,decide_eq_true_eq];refine and_congr_right fun _=>⟨fun h=>⟨by simp,fun k hk=> ?_⟩,fun h=> ?_⟩
  ·rw [JX.1 h] at hk;cases hk
  ·rcases hs:aj X m with _|⟨a,l⟩
   ·rfl
   ·have:=h.2 a (by rw [hs];exact Iu);cases this }
def kf (n:Nat) (M:Nat→Bool):Nat:=(List.range n).countP M
theorem nQ (n:Nat) (M:Nat→Bool):kf n M≤n:=by
 have:=List.countP_le_length (p:=M) (l:=List.range n);rwa [Jc] at this
theorem rl {n:Nat} {M:Nat→Bool} {u:Nat} (hu:u<n) (h:M u=false):kf n (fun x=>if x=u then true else M x)=kf n M+1:=by
 unfold kf
 induction n with
 |zero=>omega
 |succ n ih=>
  rw [Ky,List.countP_append,List.countP_append,List.countP_singleton,List.countP_singleton];by_cases e:u=n
  ·subst e;have h2:(List.range u).countP (fun x=>if x=u then true else M x)=(List.range u).countP M:=List.countP_congr fun x hx=>by
    have:=IJ.1 hx;simp [show x≠u by omega]
   rw [h2];simp [h]
  ·rw [ih (by omega)];have: ¬ n=u:=fun e2=>e e2.symm;simp only [this,if_false];omega
def fT (l:List Nat) (x:Nat):Bool:=decide (x∈l)
theorem xw {n:Nat} {l:List Nat} {j:Nat} (h:j<l.length):aL n (fun x=>if x=atN l j then true else fT (l.take j) x)=aL n (fT (l.take (j+1))):=bY fun x _=>by
 unfold fT;rw [IA h,bS h];by_cases e:x=l[j]
 ·subst e;rw [if_pos rfl,decide_eq_true (JL _ (Iz.2 rfl))]
 ·rw [if_neg e,decide_eq_decide,IL,Iz];exact ⟨.inl,fun hh=>hh.resolve_right e⟩
theorem Dn {n:Nat} {l:List Nat} (hn:l.Nodup) (hl: ∀ x∈l,x<n):kf n (fT l)=l.length:=by
 unfold kf fT;rw [List.countP_eq_length_filter];refine List.Perm.length_eq ((List.perm_ext_iff_of_nodup (List.Pairwise.filter _ KJ) hn).2 fun x=> ?_);rw [JC,IJ,decide_eq_true_eq];exact ⟨fun h=>h.2,fun h=>⟨hl x h,h⟩⟩
end Go.SL
namespace Go.SL
open Go Go.Proofs Go.RowKit
attribute [local irreducible] W WL WQ WG WA WX WLI WR WT WC WE VOp RW thn blk aW scp aJ aS bg FnAt FnIn FnP ceP
instance klaw_Z:KLaw Tryz.prog 3 (fun z:Int=>Value.int .i64 z):=vo
def zK (l:List Nat):List Int:=l.map fun i:Nat=>(i:Int)
theorem rE (l:List Nat):(zK l).length=l.length:=by simp [zK]
theorem tK {l:List Nat} (h:l.Nodup):(zK l).Nodup:=by
 unfold zK;rw [List.Nodup,KD];exact h.imp fun hab e=>hab (Int.ofNat.inj e)
theorem uZ (K:List Rf) (hn:K.Nodup) (hlen:K.length≤1000000) (tv:Value) (w:World) (ht:Reads w tv K.length (K.flatMap az)):
 FnAt Tryz.prog 77 [tv] w fun v H=> ∃ g,v= .map (some g)∧H= [.obj g (bC dE (dK K) K.length)]:=by
 obtain ⟨Al,cl,rfl,hl1,hl2,hl3⟩:=ht;refine ax Tryz.func77 rfl Tryz.ntmps77 rfl ?_;repeat' (first|(apply iK (enc:=dE);exact rfl;intro gm)|refine zZB ?_|refine sM fun _=>?_|(refine sC ?_ ?_<;>intro hb<;>try omega)|fail)
 refine aB [3,7,8] rfl (fun i:Nat=> [(9,.int .i64 (i:Int))]) (fun i=> [.obj gm (bC dE (dK (K.take i)) i)]) (fun i=>i≤K.length) (fun i=>K.length - i) 0 (Iw _) sB mS ?_;rintro i hi;by_cases hlt:i<K.length
 ·obtain ⟨gl,ol,rfl,hrl⟩:=hl3 (by omega);have he:=hrl.elem bN i hlt;have hput:je K[i] (.int .i64 (i:Int)) i (dK (K.take i))=(dK (K.take (i+1)),i+1):=by
   have h1:=yD (K:=K.take i) (a:=K[i]) (fun hm=>by
    obtain ⟨j,hj,e⟩:=JE.1 hm;rw [Jl] at hj;rw [List.getElem_take] at e;have:=(KL hn).1 e;omega)
   rw [Jl,Kw (by omega),← IA hlt] at h1;exact h1
  generalize K[i]=a at he hput;repeat' (first|(apply ai (d:=12);exact rfl;apply aa (j:=i);exact rfl;exact rfl;exact hlt)|(apply lV (enc:=dE) (k:=a);(iterate 3 exact rfl);exact pK;rw [hput])|refine sT ?_|refine sS ?_|refine sN ?_|refine sO ?_|refine sM fun _=>?_|(refine sC ?_ ?_<;>intro hb<;>try omega)|fail)
  all_goals first
   |(exfalso;omega)
   |(refine ⟨i+1,hlt,by omega,by exact sB,by exact sB,by exact mS⟩;done)
 ·have e:i=K.length:=by omega
  subst e;rw [I5];repeat' (first|refine zZA ?_|refine sM fun _=>?_|(refine sC ?_ ?_<;>intro hb<;>try omega)|fail)
  all_goals first
   |(exfalso;omega)
   |(exact bB eIO rfl rfl (MSub.refl _) ⟨gm,rfl,rfl⟩)
theorem uY (l:List Nat) (hn:l.Nodup) (hlen:l.length≤1000000) (tv:Value) (w:World) (ht:Reads w tv l.length (nzC l)):
 FnAt Tryz.prog 37 [tv] w fun v H=> ∃ g,v= .map (some g)∧H= [.obj g (bC (fun z:Int=>Value.int .i64 z) (dK (zK l)) l.length)]:=by
 obtain ⟨Al,cl,rfl,hl1,hl2,hl3⟩:=ht;refine ax Tryz.func37 rfl Tryz.ntmps37 rfl ?_;repeat' (first|(apply iK (enc:=fun z:Int=>Value.int .i64 z);exact rfl;intro gm)|refine zZB ?_|refine sM fun _=>?_|(refine sC ?_ ?_<;>intro hb<;>try omega)|fail)
 refine aB [3,7,8] rfl (fun i:Nat=> [(9,.int .i64 (i:Int))]) (fun i=> [.obj gm (bC (fun z:Int=>Value.int .i64 z) (dK ((zK l).take i)) i)]) (fun i=>i≤l.length) (fun i=>l.length - i) 0 (Iw _) sB mS ?_;rintro i hi;by_cases hlt:i<l.length
 ·obtain ⟨gl,ol,rfl,hrl⟩:=hl3 (by omega);have he:=hrl.natN i hlt;have hz:i<(zK l).length:=by rw [rE];exact hlt
  have hget:(zK l)[i]=((atN l i:Nat):Int):=by rw [bS hlt];simp [zK]
  have hput:je ((atN l i:Nat):Int) (.int .i64 (i:Int)) i (dK ((zK l).take i))=(dK ((zK l).take (i+1)),i+1):=by
   have h1:=yD (K:=(zK l).take i) (a:=(zK l)[i]) (fun hm=>by
    obtain ⟨j,hj,e⟩:=JE.1 hm;rw [Jl] at hj;rw [List.getElem_take] at e;have:=(KL (tK hn)).1 e;omega)
   rw [Jl,Kw (by omega),← IA hz,hget] at h1;exact h1
  generalize atN l i=a at he hput;repeat' (first|(apply ai (d:=12);exact rfl;apply aa (j:=i);exact rfl;exact rfl;exact hlt)|(apply lV (enc:=fun z:Int=>Value.int .i64 z) (k:=(a:Int));(iterate 3 exact rfl);exact pK;rw [hput])|refine sT ?_|refine sS ?_|refine sN ?_|refine sO ?_|refine sM fun _=>?_|(refine sC ?_ ?_<;>intro hb<;>try omega)|fail)
  all_goals first
   |(exfalso;omega)
   |(refine ⟨i+1,hlt,by omega,by exact sB,by exact sB,by exact mS⟩;done)
 ·have e:i=l.length:=by omega
  subst e;have htl:(zK l).take l.length=zK l:=by rw [← rE,I5]
  rw [htl];repeat' (first|refine zZA ?_|refine sM fun _=>?_|(refine sC ?_ ?_<;>intro hb<;>try omega)|fail)
  all_goals first
   |(exfalso;omega)
   |(exact bB eIO rfl rfl (MSub.refl _) ⟨gm,rfl,rfl⟩)
theorem AU (K:List Rf) (l:List Nat) (hl: ∀ i∈l,i<K.length) (hlen:l.length≤1000000) (cv mv xv lv:Value) (w:World) (hc:Reads w cv K.length (K.flatMap az)) (ht:Reads w lv l.length (nzC l)):
 FnAt Tryz.prog 35 [.agg #[cv,mv,xv],lv] w fun v H=> ∃ A c,v=sl A (cZ K l).length c∧H= [.own A 28 2 (cZ K l).length c ((cZ K l).flatMap az)]:=by
 obtain ⟨Ac,cc,rfl,hc1,hc2,hc3⟩:=hc;obtain ⟨Al,cl,rfl,hl1,hl2,hl3⟩:=ht;refine ax Tryz.func35 rfl Tryz.ntmps35 rfl ?_;refine aN 28 2 ?_;repeat' (first|refine zZB ?_|refine sM fun _=>?_|(refine sC ?_ ?_<;>intro hb<;>try omega)|fail)
 rename_i g2;refine aB [2,8,9] rfl (fun y:Nat × Option Nat × Nat=> [(5,sl y.2.1 y.1 y.2.2),(10,.int .i64 (y.1:Int))]) (fun y=> .own y.2.1 28 2 y.1 y.2.2 ((cZ K (l.take y.1)).flatMap az):: [.box g2 66 [.slice Ac K.length cc,mv,xv]]) (fun y=>y.1≤l.length) (fun y=>l.length - y.1) (0,none,0) (Iw _) sB mS ?_;rintro ⟨i,A3,c3⟩ hi;dsimp only at hi ⊢;by_cases hlt:i<l.length
 ·obtain ⟨gl,ol,rfl,hrl⟩:=hl3 (by omega);have he:=hrl.natN i hlt;have hk:=hl _ (bw hlt);have hst:cZ K (l.take (i+1))=cZ K (l.take i)++ [oR K (atN l i)]:=by rw [IA hlt,jT,bS hlt]
  obtain ⟨gc,oc,rfl,hrc⟩:=hc3 (by omega);have hel:=hrc.elem bN (atN l i) hk;rw [← lm hk] at hel;generalize atN l i=k at he hk hst hel;generalize oR K k=a at hst hel;repeat' (first|(apply ai (d:=12);exact rfl;apply aa (j:=i);exact rfl;exact rfl;exact hlt)|(apply ai (d:=13);exact rfl;apply aG;exact rfl;exact he)|(apply ai (d:=18);exact rfl;apply aa (j:=k);exact rfl;exact rfl;exact hk)|(apply ai (d:=19);exact rfl;apply bZ;exact rfl;exact hel;exact rfl)|(apply aF;(iterate 3 exact rfl);exact pK;exact pK;exact rfl;(simp [az,Value.oneCell']);omega;(simp only [maxLen];omega);intro g8 c8)|refine zZA ?_|refine sM fun _=>?_|(refine sC ?_ ?_<;>intro hb<;>try omega)|fail)
  all_goals first
   |(exfalso;omega)
   | (refine ⟨(i + 1, some g8, c8), hlt, by dsimp only; omega, by exact sB, by exact sB, ?_⟩
      dsimp only;rw [hst,Jk,J1];exact mS)
 ·have e:i=l.length:=by omega
  subst e;rw [I5];have hnl:=lB K l;repeat' (first|refine zZA ?_|refine sM fun _=>?_|(refine sC ?_ ?_<;>intro hb<;>try omega)|fail)
  all_goals first
   |(exfalso;omega)
   |(exact bB (H' := [.own A3 28 2 (cZ K l).length c3 ((cZ K l).flatMap az)]) eIO rfl rfl (by rw [hnl];exact mS) ⟨A3,c3,by rw [hnl],rfl⟩)
def tr (i:Nat):List Value:= [.int .i64 (i:Int)]
theorem pR (i:Nat):(tr i).length=1:=rfl
theorem Cs (l:List Nat):nzC l=l.flatMap tr:=by
 unfold nzC tr
 induction l with
 |nil=>rfl
 |cons a l ih=>rw [Ja,I8,ih];rfl
noncomputable def Cn (X:Nx) (i v:Nat):Bool:= @decide (pathN X i v) (Classical.propDecidable _)
theorem uO {X:Nx} {i v:Nat}:Cn X i v=true↔pathN X i v:=by unfold Cn;exact @decide_eq_true_iff _ (Classical.propDecidable _)
theorem FD {q:Qu} {k:Nat} {L:List Nat} (h:q.ok tr 1 (k::L)) (hc:q.n≤q.c):q.ys[q.off+0*1]? =some (.int .i64 (k:Int)):=by
 have h1:=h.head (pR k) hc;have h2:((q.ys.drop (q.off+0*1)).take 1)[0]? =some (.int .i64 (k:Int)):=by rw [h1];rfl
 rw [KW,if_pos (by decide),J3,KG] at h2;exact h2
theorem w6 (X:Nx) (hX: ∀ i,∀ k∈aj X i,k<X.length) (hlen:X.length≤1000) (hrl: ∀ i,(aj X i).length≤1000) (i0:Nat) (h0:i0<X.length) (Ac:Option Addr) (cc:Nat) (mv xv:Value) (w:World) (hv:JRd w xv X):
 FnAt Tryz.prog 42 [.agg #[.slice Ac X.length cc,mv,xv],.int .i64 (i0:Int)] w fun v H=> ∃ g,v= .slice (some ⟨g,0,none⟩) X.length X.length∧H= [oP X.length g (Cn X i0)]:=by
 obtain ⟨vs0,hvl,⟨Av,cv,rfl,hm1,hm2,hm3⟩,hrow⟩:=hv;obtain ⟨gv,ov,rfl,hrv⟩:=hm3 (by omega);refine ax Tryz.func42 rfl Tryz.ntmps42 rfl ?_;repeat' (first|(apply cw (c:=X.length);(iterate 3 exact rfl);omega;(simp only [maxLen];omega);intro go;(try simp only [kT]))|refine zZB ?_|refine sM fun _=>?_|(refine sC ?_ ?_<;>intro hb<;>try omega)|fail)
 all_goals try (exfalso;omega)
 rename_i g2 gq;let p:Nat→Prop:=pathN X i0;have hp0: ∀ u∈aj X i0,p u:=fun u hu=>⟨u,hu,.refl u⟩;have hp1: ∀ v u,p v→u∈aj X v→p u:=fun v u ⟨k,hk,r⟩ hu=>⟨k,hk,r.trans (Rch.one hu)⟩;refine aB [2,5] rfl (fun z:(Nat→Bool) × List Nat × List Nat × Qu=> [(6,z.2.2.2.v)]) (fun z=> [.own (some z.2.2.2.g) 3 1 z.2.2.2.n z.2.2.2.c z.2.2.2.ys,.own (some go) 4 1 X.length X.length (aL X.length z.1),.box g2 66 [.slice Ac X.length cc,mv,.slice (some ⟨gv,ov,none⟩) X.length cv]]) (fun z=>WkI X p z.1 z.2.1 z.2.2.1∧z.2.2.2.ok tr 1 z.2.1∧z.2.2.2.n≤1+kf X.length z.1∧(∀ x∈z.2.1,x<X.length∧(x=i0∨p x))∧(i0∈z.2.2.1∨i0∈z.2.1)) (fun z=>z.2.1.length+(X.length - kf X.length z.1)) (fun _=>false,[i0],[],⟨gq,0,0,1,1,tr i0⟩) ⟨⟨fun v h=>(by cases h),fun v h=>(by cases h),fun v h=>(by cases h)⟩,⟨Iw _,fun _=>by rw [KS],rfl,rfl⟩,Nat.le_add_right _ _,fun x hx=>by rw [Iz.1 hx];exact ⟨h0,.inl rfl⟩,.inr (Iz.2 rfl)⟩ sB (by simp only [Qu.v];exact mS) ?_;rintro ⟨M,todo,dn,q⟩ ⟨hI,hq,hqn,htd,hin⟩;dsimp only at hI hq hqn htd hin ⊢;have hql:=hq.len;have hcn:=nQ X.length M
 cases todo with
 |nil=>
   rw [Km] at hql;have hfin:=hI.reach (hin.resolve_right K6);have hM:aL X.length M=aL X.length (Cn X i0):=bY fun v _=>by rw [Jp,hfin,uO];exact Iff.rfl
   rw [hM];repeat' (first|refine zZB ?_|refine sM fun _=>?_|(refine sC ?_ ?_<;>intro hb<;>try omega)|fail)
   all_goals first
    |(exfalso;omega)
    |(exact bB eIO rfl rfl (by unfold oP;exact mS) ⟨go,rfl,rfl⟩)
 |cons k todo=>
   rw [IU] at hql;refine G6 (A:=some q.g) pK fun hle=> ?_;have hhd:=FD hq hle;have hpo:=hq.pop (pR k) hle;obtain ⟨hkl,hkp⟩:=htd k Iu;have htd' :=fun x (hx:x∈todo)=>htd x (IB _ hx);obtain ⟨u,hu,⟨Ai,ci,rfl,hi1,hi2,hi3⟩⟩:=hrow k hkl;have hc:=hrv.cellV k hu;have hJ0:=hI.pop;have hpk: ∀ u∈aj X k,p u:=fun u hu=>hkp.elim (fun e=>hp0 u (e ▸ hu)) fun h=>hp1 k u h hu;have hXk:=hX k;have hrk:=hrl k;have hfinJ:=fun M todo (hJ:WkJ X p M k todo dn (aj X k))=>hJ.fin;generalize aj X k=L at*;repeat' (first|(apply ai (d:=20);exact rfl;apply aa (j:=0);exact rfl;exact rfl;omega)|(apply ai (d:=21);exact rfl;apply ak;exact rfl;exact pK;exact hhd)|(apply ai (d:=23);exact rfl;apply Fs q;exact rfl;omega;exact hle)|(apply ai (d:=27);exact rfl;apply aa (j:=k);exact rfl;exact rfl;exact hkl)|(apply ai (d:=28);exact rfl;apply aG;exact rfl;exact hc)|refine zZB ?_|refine sM fun _=>?_|(refine sC ?_ ?_<;>intro hb<;>try omega)|fail)
   all_goals try (exfalso;omega)
   refine aB [2,5,28,29] rfl (fun z:Nat × (Nat→Bool) × List Nat × Qu=> [(30,.int .i64 (z.1:Int)),(6,z.2.2.2.v)]) (fun z=> [.own (some z.2.2.2.g) 3 1 z.2.2.2.n z.2.2.2.c z.2.2.2.ys,.own (some go) 4 1 X.length X.length (aL X.length z.2.1),.box g2 66 [.slice Ac X.length cc,mv,.slice (some ⟨gv,ov,none⟩) X.length cv]]) (fun z=>z.1≤L.length∧WkJ X p z.2.1 k z.2.2.1 dn (L.take z.1)∧z.2.2.2.ok tr 1 z.2.2.1∧z.2.2.2.n≤1+kf X.length z.2.1∧(∀ x∈z.2.2.1,x<X.length∧(x=i0∨p x))∧z.2.2.1.length+kf X.length M=todo.length+kf X.length z.2.1∧(i0∈k::dn∨i0∈z.2.2.1)) (fun z=>L.length - z.1) (0,M,todo,q.pop 1) ⟨Iw _,hJ0,hpo,hqn,htd',rfl,hin.elim (fun h=> .inl (IB _ h)) fun h=>(IP.1 h).elim (fun e=> .inl (e ▸ Iu)) .inr⟩ sB (by simp only [Qu.pop];exact mS) ?_;clear hI hq hqn htd hin hql hhd hpo htd' hJ0 hle;rintro ⟨m,M1,todo1,q1⟩ ⟨hm,hJ,hq1,hqn1,htd1,hsum,hin1⟩;dsimp only at hm hJ hq1 hqn1 htd1 hsum hin1 ⊢;have hcn1:=nQ X.length M1;by_cases hlm:m<L.length
   ·obtain ⟨gi,oi,rfl,hri⟩:=hi3 (by omega);have he:=hri.natN m hlm;have hul:=hXk _ (bw hlm);have hup:=hpk _ (bw hlm);have htk:L.take (m+1)=L.take m++ [atN L m]:=by rw [IA hlm,bS hlm]
    generalize atN L m=u at he hul hup htk;have hou:=eU (f:=M1) hul
    cases hMu:M1 u with
    |true=>
      rw [hMu] at hou;have hJ2:=hJ.old hMu;rw [← htk] at hJ2;repeat' (first|(apply ai (d:=32);exact rfl;apply aa (j:=m);exact rfl;exact rfl;exact hlm)|(apply ai (d:=33);exact rfl;apply aG;exact rfl;exact he)|(apply ai (d:=36);exact rfl;apply aa (j:=u);exact rfl;exact rfl;exact hul)|(apply ai (d:=37);exact rfl;apply ak;exact rfl;exact pK;exact hou)|refine zZA ?_|refine sM fun _=>?_|(refine sC ?_ ?_<;>intro hb<;>try omega)|fail)
      all_goals first
       |(exfalso;omega)
       |(refine ⟨(m+1,M1,todo1,q1),⟨hlm,hJ2,hq1,hqn1,htd1,hsum,hin1⟩,by dsimp only;omega,by exact sB,by exact sB,by exact mS⟩;done)
    |false=>
      rw [hMu] at hou;have hJ2:=hJ.new hup;rw [← htk] at hJ2;have hcm:=rl hul hMu;have hst:=iF (n:=X.length) (f:=M1) (k:=u) (v:=true);obtain ⟨qg,qoff,qk,qn,qc,qys⟩:=q1;obtain ⟨hq3,hq4,hq5,hq6⟩:=hq1;dsimp only at hq3 hq4 hq5 hq6 hqn1 ⊢;simp only [Qu.v];repeat' (first|(apply ai (d:=32);exact rfl;apply aa (j:=m);exact rfl;exact rfl;exact hlm)|(apply ai (d:=33);exact rfl;apply aG;exact rfl;exact he)|(apply ai (d:=36);exact rfl;apply aa (j:=u);exact rfl;exact rfl;exact hul)|(apply ai (d:=37);exact rfl;apply ak;exact rfl;exact pK;exact hou)|(apply ai (d:=41);exact rfl;apply aa (j:=u);exact rfl;exact rfl;exact hul)|(apply aI (g:=go);exact rfl;exact rfl;exact pK;exact rfl;(rw [iG];omega);rw [hst])|(apply nZ;exact rfl;exact rfl;exact hq3;exact hq4;exact rfl;exact pK;exact pK;exact rfl;(simp [Value.oneCell']);omega;(simp only [maxLen];omega);intro g' off' k' n2 c2 ys hk2 hoff2 hlen2 hn2 hys2)|refine zZA ?_|refine sM fun _=>?_|(refine sC ?_ ?_<;>intro hb<;>try omega)|fail)
      all_goals first
       |(exfalso;omega)
       | (refine ⟨(m + 1, (fun x => if x = u then true else M1 x), todo1 ++ [u], ⟨g', off', k', n2, c2, ys⟩), ⟨hlm, hJ2, ⟨hk2, hoff2, (by rw [List.length_append]; exact hlen2.trans (by rw [hq5]; rfl)), (by rw [hys2, hq6, List.flatMap_append]; rfl)⟩, (by dsimp only; rw [hcm]; omega), (fun x hx => ?_), (by dsimp only; rw [List.length_append, hcm, List.length_singleton]; omega), hin1.imp id (List.mem_append_left _)⟩, by dsimp only; omega, by exact sB, by exact sB, by exact mS⟩
          rcases IL.1 hx with hx|hx
          ·exact htd1 x hx
          ·rw [Iz.1 hx];exact ⟨hul,.inr hup⟩)
   ·have hm2:m=L.length:=by omega
    subst hm2;rw [I5] at hJ;have hI2:=hfinJ _ _ hJ;repeat' (first|refine zZA ?_|refine sM fun _=>?_|(refine sC ?_ ?_<;>intro hb<;>try omega)|fail)
    all_goals first
     |(exfalso;omega)
     |(refine ⟨(M1,todo1,k::dn,q1),⟨hI2,hq1,hqn1,htd1,hin1⟩,by dsimp only;rw [List.length_cons];omega,by exact sB,by exact sB,by exact mS⟩;done)
end Go.SL
namespace Go.Proofs
open Go Go.Shelf Go.RowKit Go.Lib Go.Sort Go.SL
def Tryz.sortJj_ren:Go.Shelf.Ren:=⟨fun|6=>118|15=>86|14=>172|28=>131|29=>132|20=>222|21=>223|22=>224|23=>225|24=>226|25=>227|26=>228|27=>229|46=>269|47=>174|48=>175|49=>270|50=>271|57=>292|n=>n,fun|22=>64|24=>68|25=>192|3=>3|39=>159|0=>0|53=>209|55=>49|4=>4|46=>202|45=>201|50=>76|5=>5|9=>9|66=>245|70=>249|76=>292|77=>293|n=>n,fun|n=>n⟩
theorem Tryz.sortJj:Go.Proofs.SlLaysF.n6 Tryz.prog Tryz.sortJj_ren:={
 mixed:=by kernel_rfl
 f6:=⟨Tryz.f118.name,by decide,Tryz.func118.trans (congrArg some (by kernel_rfl))⟩
 f14:=⟨Tryz.f172.name,by decide,Tryz.func172.trans (congrArg some (by kernel_rfl))⟩
 f15:=Tryz.func86.trans (congrArg some (by kernel_rfl))
 f20:=⟨Tryz.f222.name,by decide,Tryz.func222.trans (congrArg some (by kernel_rfl))⟩
 f21:=⟨Tryz.f223.name,by decide,Tryz.func223.trans (congrArg some (by kernel_rfl))⟩
 f22:=⟨Tryz.f224.name,by decide,Tryz.func224.trans (congrArg some (by kernel_rfl))⟩
 f23:=⟨Tryz.f225.name,by decide,Tryz.func225.trans (congrArg some (by kernel_rfl))⟩
 f24:=⟨Tryz.f226.name,by decide,Tryz.func226.trans (congrArg some (by kernel_rfl))⟩
 f25:=⟨Tryz.f227.name,by decide,Tryz.func227.trans (congrArg some (by kernel_rfl))⟩
 f26:=⟨Tryz.f228.name,by decide,Tryz.func228.trans (congrArg some (by kernel_rfl))⟩
 f27:=⟨Tryz.f229.name,by decide,Tryz.func229.trans (congrArg some (by kernel_rfl))⟩
 f28:=Tryz.func131.trans (congrArg some (by kernel_rfl))
 f29:=Tryz.func132.trans (congrArg some (by kernel_rfl))
 f46:=⟨Tryz.f269.name,by decide,Tryz.func269.trans (congrArg some (by kernel_rfl))⟩
 f47:=Tryz.func174.trans (congrArg some (by kernel_rfl))
 f48:=Tryz.func175.trans (congrArg some (by kernel_rfl))
 f49:=⟨Tryz.f270.name,by decide,Tryz.func270.trans (congrArg some (by kernel_rfl))⟩
 f50:=⟨Tryz.f271.name,by decide,Tryz.func271.trans (congrArg some (by kernel_rfl))⟩
 f57:=⟨Tryz.f292.name,by decide,Tryz.func292.trans (congrArg some (by kernel_rfl))⟩
 t0:=Tryz.underlying0
 a0:=Tryz.isAgg0
 z0:=Tryz.sizeOf0
 v0:=Tryz.zeroValue0
 t3:=Tryz.underlying3
 a3:=Tryz.isAgg3
 z3:=Tryz.sizeOf3
 v3:=Tryz.zeroValue3
 t4:=Tryz.underlying4
 a4:=Tryz.isAgg4
 z4:=Tryz.sizeOf4
 v4:=Tryz.zeroValue4
 t5:=Tryz.underlying5
 a5:=Tryz.isAgg5
 z5:=Tryz.sizeOf5
 v5:=Tryz.zeroValue5
 t9:=Tryz.underlying9
 a9:=Tryz.isAgg9
 z9:=Tryz.sizeOf9
 v9:=Tryz.zeroValue9
 t22:=Tryz.underlying64
 a22:=Tryz.isAgg64
 z22:=Tryz.sizeOf64
 v22:=Tryz.zeroValue64
 a24:=Tryz.isAgg68
 z24:=Tryz.sizeOf68
 t25:=Tryz.underlying192
 a25:=Tryz.isAgg192
 z25:=Tryz.sizeOf192
 v25:=Tryz.zeroValue192
 t39:=Tryz.underlying159
 a39:=Tryz.isAgg159
 z39:=Tryz.sizeOf159
 v39:=Tryz.zeroValue159
 t45:=Tryz.underlying201
 a45:=Tryz.isAgg201
 z45:=Tryz.sizeOf201
 v45:=Tryz.zeroValue201
 t46:=Tryz.underlying202
 a46:=Tryz.isAgg202
 z46:=Tryz.sizeOf202
 v46:=Tryz.zeroValue202
 t50:=Tryz.underlying76
 a50:=Tryz.isAgg76
 z50:=Tryz.sizeOf76
 v50:=Tryz.zeroValue76
 t53:=Tryz.underlying209
 a53:=Tryz.isAgg209
 z53:=Tryz.sizeOf209
 v53:=Tryz.zeroValue209
 t55:=Tryz.underlying49
 a55:=Tryz.isAgg49
 z55:=Tryz.sizeOf49
 v55:=Tryz.zeroValue49
 t66:=Tryz.underlying245
 a66:=Tryz.isAgg245
 z66:=Tryz.sizeOf245
 v66:=Tryz.zeroValue245
 t70:=Tryz.underlying249
 a70:=Tryz.isAgg249
 z70:=Tryz.sizeOf249
 v70:=Tryz.zeroValue249
 t76:=Tryz.underlying292
 a76:=Tryz.isAgg292
 z76:=Tryz.sizeOf292
 v76:=Tryz.zeroValue292
 t77:=Tryz.underlying293
 a77:=Tryz.isAgg293
 z77:=Tryz.sizeOf293
 v77:=Tryz.zeroValue293 }
theorem Tryz.cmpJj (A B oa ob la ca lb cb:Nat) (x y:Nat) (W:World) (hx:x<1000000) (hy:y<1000000) (hA:A<W.heap.size) (hB:B<W.heap.size) (cA:W.cell? ⟨A,oa,none⟩=some (.int .i64 (x:Int))) (cB:W.cell? ⟨B,ob,none⟩=some (.int .i64 (y:Int))) (hla:0<la) (hlb:0<lb):Calls Tryz.prog 119 #[.slice (some ⟨A,oa,none⟩) la ca,.slice (some ⟨B,ob,none⟩) lb cb] W fun e w' =>e= .returned (.int .i64 ((x:Int) - (y:Int)))∧ ∃ q os',w' =grow (W.drewN q) os' :=by
 have cA' : ∀ q os,(grow (W.drewN q) os).cell? ⟨A,oa,none⟩=some (.int .i64 (x:Int)):=fun q os=>cell_grown hA cA q os;have cB' : ∀ q os,(grow (W.drewN q) os).cell? ⟨B,ob,none⟩=some (.int .i64 (y:Int)):=fun q os=>cell_grown hB cB q os;have hw:IntKind.i64.wrap ((x:Int) - (y:Int))=(x:Int) - (y:Int):=I64.wrap ⟨by omega,by omega⟩
 go_enter Tryz.func119,Tryz.ntmps119
 have hla' :(0:Int)<(la:Int):=by omega
 have hlb' :(0:Int)<(lb:Int):=by omega
 go_wp2
 go_region
 all_goals (go_wp2;go_ret;exact ⟨rfl,1,#[],by rw [grow_empty];rfl⟩)
end Go.Proofs
namespace Go.SL
open Go Go.Proofs Go.Sort Go.Shelf
theorem w8 {α:Type} [Inhabited α] (enc:α→Value) (L:List α) (xs junk:List Value) (hl:xs.length=L.length):putCells enc 0 L.toArray (xs++junk).toArray=(L.map enc++junk).toArray:=by
 apply KY;intro j;simp only [putCells,Lb,I0,JK,Iw,true_and,IG,JJ];by_cases hj:j<L.length
 ·rw [I6 (by omega),I6 (by rw [II];omega),Iy,Ir (by omega),Ir hj];simp [hj]
 ·rw [Ji (by omega),Ji (by rw [II];omega),hl,II];simp [hj]
theorem uA (p:Option Addr) (cap:Nat) (fv:Value) (w:World):aC Tryz.prog 118 [.slice p 0 cap,fv] w (.tuple #[]):=
 (AnyF.slices_SortFunc_none { Tryz.sortJj with } p cap fv w).mono fun e w' ⟨h1,h2⟩=>⟨_,[],h1,by rw [h2];exact Mem.refl w,rfl⟩
theorem uz (O:List (List Nat)) (vs:List Value) (g cap:Nat) (Z:List Blk) (w0:World) (hv:JIn Z vs O) (hne: ∀ p∈O,p≠ []) (hinj: ∀ i j,i<O.length→j<O.length→atN (aj O i) 0=atN (aj O j) 0→i=j) (hbd: ∀ p∈O,∀ v∈p,v<1000000) (hn:0<O.length) (hlen:O.length≤1000000):
 FnIn Tryz.prog 118 [sl (some g) O.length cap,.func (.func 119) #[] #[]] w0 (.own (some g) 68 1 O.length cap vs::Z) fun v H=>v= .tuple #[]∧ ∃ (P:List (List Nat)) (vs' :List Value),P.Perm O∧JIn Z vs' P∧H= .own (some g) 68 1 O.length cap vs' ::Z:=by
 intro w hm
 haveI:Inhabited (Fin O.length):=⟨⟨0,hn⟩⟩
 obtain ⟨⟨h1,h2,h3,junk,h4,h5⟩,hkk⟩:=hm.on _ Iu;have hlt:g<w.heap.size:=(IW.1 h5).1;rw [Jd] at h1;let enc:Fin O.length→Value:=fun i=>(vs[i.1]?).getD .nilIface;let cf:Fin O.length→Fin O.length→Int:=fun i j=>(atN (aj O i.1) 0:Int) - (atN (aj O j.1) 0:Int);have hO: ∀ i:Fin O.length,aj O i.1=O[i.1]:=fun i=>by unfold aj;rw [Ir i.2];rfl
 have hmemO: ∀ i:Fin O.length,aj O i.1∈O:=fun i=>by rw [hO];exact IZ i.2
 have hpos: ∀ i:Fin O.length,0<(aj O i.1).length:=fun i=>Ku.2 (hne _ (hmemO i));have hsl: ∀ i:Fin O.length,∃ ga o c,enc i= .slice (some ⟨ga,o,none⟩) (aj O i.1).length c∧ ∀ w',Mem w0 w' Z→Ro w' ga o (nzC (aj O i.1)):=fun i=>by
  obtain ⟨u,hu,hr⟩:=hv.2 i.1 i.2;have he:enc i=u:=by show (vs[i.1]?).getD _=u;rw [hu];rfl
  obtain ⟨A,c,e1,_,_,h6⟩:=hr w hm.tail;obtain ⟨ga,o,e2,_⟩:=h6 (hpos i);refine ⟨ga,o,c,by rw [he,e1,e2],fun w' hm' => ?_⟩;obtain ⟨A',c',e1',_,_,h6'⟩:=hr w' hm';obtain ⟨ga',o',e2',h7⟩:=h6' (hpos i);rw [e1,e2] at e1';injection e1' with e3 e4 e5;rw [e2'] at e3;injection e3 with e3;injection e3 with e6 e7 e8;rw [e6,e7];exact h7
 have h1c:OneCell enc:=fun i=>by
  obtain ⟨ga,o,c,e,_⟩:=hsl i;rw [e];rfl
 have hmap:(List.finRange O.length).map enc=vs:=by
  apply Js;intro j;by_cases hj:j<O.length
  ·rw [Iy,Ir (by simpa using hj)];simp only [List.getElem_finRange,JB];show some ((vs[j]?).getD _)=vs[j]?;rw [Ir (by rw [h1];exact hj)]
   rfl
  ·rw [IC (by simp;omega),IC (by rw [h1];omega)]
 have hmw: ∀ (m:Nat) (os:Array Obj) (D:List (Fin O.length)),D.length=O.length→Mem w0 (sortWorld enc w g 0 m D.toArray os) (.own (some g) 68 1 O.length cap (D.map enc)::Z):=fun m os D hD=>by
  refine hm.upd (mV w g m D.toArray os) (b' := .own (some g) 68 1 O.length cap (D.map enc)) ?_ fun k hk=> .inl hk;refine ⟨by rw [II,hD,Jd],h2,h3,junk,by rw [Iv,II,hD,← h1,← Iv];exact h4,?_⟩;have h6:=oK (enc:=enc) w g m D.toArray os _ _ _ h5;rw [w8 enc D _ _ (by rw [hD,h1])] at h6;exact h6
 have hH:Holds enc w g 0 (List.finRange O.length).toArray:=by
  intro j hj;simp only [JK,List.length_finRange] at hj;have hc:(vs++junk).toArray[j]? =some (enc (List.finRange O.length).toArray[j]!):=by
   rw [I0,I6 (by rw [h1];exact hj)];have:(List.finRange O.length).toArray[j]! =⟨j,hj⟩:=by
    rw [getElem!_pos _ _ (by simpa using hj)];simp
   rw [this];show vs[j]? =some ((vs[j]?).getD _);rw [Ir (by rw [h1];exact hj)]
   rfl
  constructor
  ·simp only [World.cell?,IG,h5];exact hc
  ·simp [World.frozen?,h5]
 have eg: ∀ args w,(callFunc 119 args).run Tryz.prog w= .ok (.enter 119 args) w:=enters_of Tryz.func119 (by kernel_rfl) rfl;have hSW:SWO (ltOf cf):=⟨fun x=>by simp [ltOf,cf],fun x y z h1 h2=>by simp [ltOf,cf] at*;omega,fun x y z h1 h2=>by simp [ltOf,cf] at*;omega⟩;have hT: ∀ x y,ltOf cf x y=false→ltOf cf y x=false→x=y:=fun x y h1 h2=>by
  simp [ltOf,cf] at h1 h2;exact Fin.ext (hinj x.1 y.1 x.2 y.2 (by omega))
 have hcmp:CmpLays1 Tryz.prog 119 #[] enc cf g 0 (List.finRange O.length).toArray.size w:=fun m os dk hs x y=>by
  have hdl:dk.toList.length=O.length:=by rw [Array.length_toList,hs];simp
  have hM:=(hmw m os dk.toList hdl).tail;obtain ⟨ga,oa,ca,e1,r1⟩:=hsl x;obtain ⟨gb,ob,cb,e2,r2⟩:=hsl y;have r1:=r1 _ hM;have r2:=r2 _ hM;have hv1:=hbd _ (hmemO x) _ (fY (hne _ (hmemO x)));have hv2:=hbd _ (hmemO y) _ (fY (hne _ (hmemO y)));have hc:=Tryz.cmpJj ga gb oa ob _ ca _ cb (atN (aj O x.1) 0) (atN (aj O y.1) 0) _ hv1 hv2 r1.lt r2.lt (r1.cells 0 _ (mh (hpos x))) (r2.cells 0 _ (mh (hpos y))) (hpos x) (hpos y);rw [← e1,← e2] at hc;exact hc
 have hs:=Any.slices_SortFunc_total Tryz.sortJj enc h1c cf hSW 119 #[] g 0 cap (List.finRange O.length).toArray w eg hcmp hH hlt (by simp;omega) hT;have hsz:(List.finRange O.length).toArray.size=O.length:=by simp
 rw [hsz] at hs;refine hs.mono ?_;rintro e w' ⟨rfl,n,os,rfl⟩;have hp:=Kc (List.finRange O.length) fun x y=> !(ltOf cf) y x;have hdl:((List.finRange O.length).mergeSort fun x y=> !(ltOf cf) y x).length=O.length:=by rw [hp.length_eq,List.length_finRange]
 generalize hD:((List.finRange O.length).mergeSort fun x y=> !(ltOf cf) y x)=D at hp hdl;have hmO:(List.finRange O.length).map (fun i=>aj O i.1)=O:=by
  apply Js;intro j;by_cases hj:j<O.length
  ·rw [Iy,Ir (by simpa using hj),Ir hj];simp [hO ⟨j,hj⟩]
  ·rw [IC (by simp;omega),IC (by omega)]
 refine ⟨_,_,rfl,?_,rfl,D.map fun i=>aj O i.1,D.map enc,?_,?_,rfl⟩
 ·have h6:=hmw n os D hdl;rw [← hD] at h6 ⊢;exact h6
 ·have h6:=hp.map fun i=>aj O i.1;rwa [hmO] at h6
 ·refine ⟨by simp,fun i hi=> ?_⟩;rw [II] at hi;obtain ⟨u,hu,hr⟩:=hv.2 D[i].1 D[i].2;refine ⟨u,?_,fun w2 hm2=> ?_⟩
  ·rw [Iy,Ir hi];show some ((vs[D[i].1]?).getD _)=_;rw [hu];rfl
  ·have:aj (D.map fun i=>aj O i.1) i=aj O D[i].1:=by
    unfold aj;rw [Iy,Ir hi]
    rfl
   rw [this];exact hr w2 hm2
theorem zD (O:List (List Nat)) (vs:List Value) (A:Option Nat) (cap:Nat) (Z:List Blk) (w0:World) (hv:JIn Z vs O) (hne: ∀ p∈O,p≠ []) (hinj: ∀ i j,i<O.length→j<O.length→atN (aj O i) 0=atN (aj O j) 0→i=j) (hbd: ∀ p∈O,∀ v∈p,v<1000000) (hlen:O.length≤1000000):
 FnIn Tryz.prog 118 [sl A O.length cap,.func (.func 119) #[] #[]] w0 (.own A 68 1 O.length cap vs::Z) fun v H=>v= .tuple #[]∧ ∃ (P:List (List Nat)) (vs' :List Value),P.Perm O∧JIn Z vs' P∧H= .own A 68 1 O.length cap vs' ::Z:=by
 rcases Kx O.length with h0|h0
 ·intro w hm;rw [h0];refine Calls.mono (uA (A.map fun g=>⟨g,0,none⟩) cap _ w) ?_;rintro e w' ⟨v,H,rfl,hm',rfl⟩;rw [← h0];exact ⟨_,_,rfl,(hm.call hm').right,rfl,O,vs,.refl _,hv,rfl⟩
 ·cases A with
  |some g=>exact uz O vs g cap Z w0 hv hne hinj hbd h0 hlen
  |none=>
   intro w hm;obtain ⟨⟨_,_,_,h4⟩,_⟩:=hm.on _ Iu;omega
end Go.SL
