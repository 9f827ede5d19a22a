/-
  Lemmas and walks, put together: Sl8 Sl17 Cc Sl21 Sl25 Sl26 La L1 D9 G1a R3 Sl40.
-/
import Derived.Test.YtpoafcnhplbkmaaGreatDoorKt03
import Derived.Test.YtpoafcnhplbkmaaGreatDoorKt05
set_option linter.unusedSimpArgs false
set_option linter.unusedVariables false
set_option maxRecDepth 20000
namespace Go.SL
open Go Go.RowKit
def i9 (l:List Oper):Nat→Nat→Nat→Bool
 |0,j,k=>Nat.beq j k
 |f+1,j,k=>Nat.beq j k||match l[j]? with
  |none=>false
  |some x=>(kZ x).any fun i=>i9 l f i k
theorem iZ {l:List Oper} {D:iH} (hc: ∀ i x,l[i]? =some x→D i=true→ ∀ j∈kZ x,D j=true): ∀ (f j k:Nat),i9 l f j k=true→D j=true→D k=true
 |0,j,k,h,hj=>by
  have:=I9 h;subst this;exact hj
 |f+1,j,k,h,hj=>by
  simp only [i9,Ka] at h;rcases h with h|h
  ·have:=I9 h;subst this;exact hj
  ·cases hx:l[j]? with
   |none=>rw [hx] at h;cases h
   |some x=>
    rw [hx] at h;obtain ⟨i,hi,hr⟩:=KO.1 h;exact iZ hc f i k hr (hc j x hx hj i hi)
section
variable {P:Program} {n:Fr} {w0:World} {Q:aO} {K:au→Prop} {s:au} {H H1:List Blk} {l rest:List Oper} {k j f:Nat} {ty:TypeId} {p:String} {af:Array Edge}
theorem Turn.late {o:Oper} {D:iH} (ht:Turn l k o D) (h:i9 l f j k=true):D j=false:=by
 cases hD:D j
 ·rfl
 ·have:=iZ ht.closed f j k h hD;rw [ht.not] at this;cases this
theorem iN {id:Nat} (j:Nat) (H1:List Blk) (hm:P.follows .mixedOrders=true) (hB:Region.lexB .any l.toArray=true) (hj:Nat.blt j l.length=true)
 (h:WG P n w0 l (fun D=>if D j then H1 else H) (fun s' =>Q .normal s' H1) l 0 s):W P n w0 (.region id l.toArray true) Q s H:=by
 refine nH (fun D=>if D j then H1 else H) hm hB (by simp only [Jt,if_false];exact .refl _) fun a hs hl=> ?_;have mono: ∀ (r:List Oper) (k:Nat) (a:Act) (K K' :Act→Prop),(∀ a,K a→K' a)→wpG P .any l.toArray (Cls w0 l fun D=>if D j then H1 else H) K r k a→wpG P .any l.toArray (Cls w0 l fun D=>if D j then H1 else H) K' r k a:=by
  intro r
  induction r with
  |nil=>intro k a K K' hk h;exact hk _ h
  |cons o r ih=>
   rintro k a K K' hk ⟨v,h1,h2⟩;exact ⟨v,h1,ih _ _ K K' hk h2⟩
 refine mono _ _ _ _ _ ?_ (h a hs hl);rintro a' ⟨s',h2,h3⟩;refine ⟨s',h2,fun D hD=> ?_⟩;rw [if_pos (hD j (Jf ▸ hj))];exact h3
theorem iL {op:Op} {d:Nat} {v:Value} (hn:Nat.blt d n.sz=true) (hr:i9 l f j k=true) (hne:Nat.beq j k=false) (hv:VOp P w0 s H op ty v) (h:WG P n w0 l (fun D=>if D j then H1 else H) K rest (k+1) ((d,v)::s)):
 WG P n w0 l (fun D=>if D j then H1 else H) K (⟨some d,op,ty,p,af,none⟩::rest) k s:=by
 refine wI hn (fun D ht=> ?_) (fun D=> ?_) h
 ·rw [ht.late hr];exact hv
 ·have:put D k j=D j:=by
   unfold put;rw [if_neg];intro e;subst e;rw [Nat.beq_refl] at hne;cases hne
  simp only [this]
theorem tU {t T g off m sz n' c:Nat} {x a:Operand} {v:Value} {vs xs:List Value} {R:List Blk} [Size P t m] (ha:ev s a=some (.pointer (some ⟨g,off,none⟩))) (hx:ev s x=some v)
 (hsel:Sel (.own (some g) T sz n' c xs) H R) (hv:v.cells=vs.toArray) (hl:vs.length=m) (h1:vs.all Value.oneCell' =true) (hfit:off+m≤xs.length)
 (hnew:MSub H1 (.own (some g) T sz n' c (xs.take off++vs++xs.drop (off+m))::R)) (h:WG P n w0 l (fun D=>if D k then H1 else H) K rest (k+1) s):
 WG P n w0 l (fun D=>if D k then H1 else H) K (⟨none,.store t a x,ty,p,af,none⟩::rest) k s:=by
 refine rN (fun D ht a' w hs hm=> ?_) h;have e1:D k=false:=ht.not;have e2:put D k k=true:=by simp [put]
 simp only [e1,Jt,if_false] at hm;simp only [e2,if_true];have hm' :=hm.sel hsel;obtain ⟨h2,h3,h4,junk,h5,hb⟩:=(hm'.on _ Iu).1;have h1' : ∀ u∈vs,u.oneCell' =true:=by simpa using h1
 have hr:=d9 (P:=P) (t:=t) (off:=off) hv hl h1' hb (by simp;omega);simp only at hr;have he:(xs++junk).take off++vs++(xs++junk).drop (off+m)=(xs.take off++vs++xs.drop (off+m))++junk:=by
  rw [Ke (by omega),KN hfit];simp
 rw [he] at hr;have hlen:(xs.take off++vs++xs.drop (off+m)).length=xs.length:=by simp;omega
 refine ⟨_,?_,hnew.use (hm'.upd (dZ _ _ _) (b' := .own (some g) T sz n' c (xs.take off++vs++xs.drop (off+m)))
  ⟨hlen.trans h2,h3,h4,junk,by rw [Iv,hlen,← Iv];exact h5,setRow_heap _ _ _ _ _ _ hb⟩ fun k hk=> .inl hk)⟩
 simp [execOp,hs.eval a _ ha,hs.eval x _ hx,Instr.storeAt,Instr.sureAddr,hr]
theorem mN {t T g off sz n' c:Nat} {x a:Operand} {v:Value} {xs:List Value} {R:List Blk} [Size P t 1] (ha:ev s a=some (.pointer (some ⟨g,off,none⟩))) (hx:ev s x=some v)
 (hsel:Sel (.own (some g) T sz n' c xs) H R) (hv:v.oneCell' =true) (hfit:off<xs.length)
 (hnew:MSub H1 (.own (some g) T sz n' c (xs.set off v)::R)) (h:WG P n w0 l (fun D=>if D k then H1 else H) K rest (k+1) s):
 WG P n w0 l (fun D=>if D k then H1 else H) K (⟨none,.store t a x,ty,p,af,none⟩::rest) k s:=by
 refine tU (m:=1) ha hx hsel (vs:= [v]) (by cases v<;>first|rfl|cases hv) rfl (by simpa using hv) (by omega) ?_ h;rw [js _ _ _ hfit];exact hnew
theorem nY {d t e n' c m c' sz by_:Nat} {a2:Addr} {A:Option Nat} {x y:Operand} {xs news:List Value} {R:List Blk} {ops:Array Oper} [ht:Und P t (.slice e)] [he:Elem P e sz by_] (hn:Nat.blt d n.sz=true)
 (hx:ev s x=some (sl A n' c)) (hy:ev s y=some (.slice (some a2) m c')) (hsel:Sel (.own A e sz n' c xs) H R)
 (hnews: ∀ w,Mem w0 w H→ ∀ j u,news[j]? =some u→w.cell? (a2.add j)=some u) (hl:news.length=m*sz) (h1: ∀ u∈news,u.oneCell' =true) (hby:(n' +m)*by_≤140737488355328) (h63:n' +m≤maxLen)
 (k: ∀ A' cap',(0<n' +m→ ∃ g,A' =some g)→WL P n w0 ops rest Q ((d,sl A' (n' +m) cap')::s) (.own A' e sz (n' +m) cap' (xs++news)::R)):
 WL P n w0 ops (⟨some d,.call { callee:= .builtin .append,args:= #[x,y],argTypes:= #[t,t] },ty,p,af,none⟩::rest) Q s H:=by
 intro a w hs hm;have hm' :=hm.sel hsel;obtain ⟨i,z,i1,i2,i3,i4,i5,i6⟩:=he.out;have hb:=(hm'.on _ Iu);have hown:w.ownsRow w0.heap.size e sz (sl A n' c) n' xs:=by
  obtain ⟨⟨b1,b2,b3,b4⟩,b5⟩:=hb;refine ⟨b1,?_⟩
  cases A with
  |none=>obtain ⟨rfl,rfl⟩:=b4;exact .inl ⟨rfl,rfl⟩
  |some g=>
   obtain ⟨junk,j1,j2⟩:=b4;refine .inr ⟨g,c,_,rfl,b5 g rfl,j2,b2,b3,by simpa using j1,?_⟩;simp only [Kt];rw [← b1,Kg]
 obtain ⟨v',w',hr,h2,h3,h4,h5⟩:=run_append_own_at (P:=P) w w0.heap.size t ty e i z sz by_ ht.out i1 i4 i2 i3 i5 i6 (sl A n' c) n' xs hown a2 m c' news hl
  (hnews w hm) h1 h63 hby hm.below.size
 have hsh: ∃ A' cap',v' =sl A' (n' +m) cap' ∧(Blk.own A' e sz (n' +m) cap' (xs++news)).on w' ∧(0<n' +m→ ∃ g,A' =some g):=by
  obtain ⟨q1,q2⟩:=h2;rcases q2 with ⟨rfl,q3⟩|⟨g,cap,cur,rfl,_,q4,q5,q6,q7,q8⟩
  ·refine ⟨none,0,by rw [q3];rfl,⟨q1,by omega,Iw _,q3,rfl⟩,fun h=>by omega⟩
  ·refine ⟨some g,cap,rfl,⟨q1,q5,q6,cur.toList.drop ((n' +m)*sz),?_,?_⟩,fun _=>⟨g,rfl⟩⟩
   ·rw [← q8,Jr];simpa using q7
   ·rw [← q8,Jr];simpa using q4
 obtain ⟨A',cap',rfl,hon,hsome⟩:=hsh;refine wpList_plain rfl fun K hK=> ?_;unfold Oper.wp execOp;simp only [resolve,invoke,builtin,Sem.run_bind,Sem.run_pure,Result.andThen_ok,JU,Ja,Jz,hs.eval x _ hx,hs.eval y _ hy,hr,Oper.upon];have hkey: ∀ (B:Option Nat) (q r:Nat),(sl B q r).ownBlock=B:=fun B q r=>by cases B<;>rfl
 rw [hkey] at h3;refine hK _ _ (k A' cap' hsome _ _ (hs.put (Jf ▸ hn) _) (hm'.upd h3 hon fun j hj=> ?_));rw [hkey,hkey] at h5;simp only [Blk.key] at hj ⊢;rcases h5 with h5|h5
 ·left;rw [← h5];exact hj
 ·right;rw [h5] at hj;injection hj with hj;omega
theorem nz (w:World) (t ty e:TypeId) (i:TypeInfo) (ht:P.underlying t=some (.slice e)) (hi:P.info? e=some i) (B:Option Addr) (m c c' :Nat) (h:m≤c):
 (Builtin.append_ #[t,t] ty #[.slice B m c,.slice none 0 c']).run P w= .ok (.slice B m c) w:=by
 cases B<;>simp [Builtin.append_,run_underlying ht,sizeOf,typeInfo,hi,Builtin.lenOf,Builtin.firstCells,h,storeCells]
theorem eG {d t e n' c m sz by_:Nat} {A:Option Nat} {x y:Operand} {yv:Value} {xs news:List Value} {R:List Blk} {ops:Array Oper} [ht:Und P t (.slice e)] [he:Elem P e sz by_] (hn:Nat.blt d n.sz=true)
 (hx:ev s x=some (sl A n' c)) (hy:ev s y=some yv) (hsel:Sel (.own A e sz n' c xs) H R)
 (hnews: ∀ w,Mem w0 w H→Reads w yv m news) (hl:news.length=m*sz) (h1: ∀ u∈news,u.oneCell' =true) (hby:(n' +m)*by_≤140737488355328) (h63:n' +m≤maxLen)
 (k: ∀ A' cap',(0<m→ ∃ g,A' =some g)→WL P n w0 ops rest Q ((d,sl A' (n' +m) cap')::s) (.own A' e sz (n' +m) cap' (xs++news)::R)):
 WL P n w0 ops (⟨some d,.call { callee:= .builtin .append,args:= #[x,y],argTypes:= #[t,t] },ty,p,af,none⟩::rest) Q s H:=by
 intro a w hs hm;have hm' :=hm.sel hsel;have hb:=(hm'.on _ Iu).1;obtain ⟨B,c',rfl,h2,h3,h4⟩:=hnews w hm;by_cases h0:m=0
 ·subst h0;have hnil:news= []:=JV (by simpa using hl);subst hnil
  cases B with
  |some a2=>exact nY hn hx hy hsel (fun w hm j u hu=>by simp at hu) hl h1 hby h63 (fun A' cap' hA=>k A' cap' (fun h=>by omega)) a w hs hm
  |none=>
   obtain ⟨i,z,i1,i2,i3,i4,i5,i6⟩:=he.out;have hr:=nz (P:=P) w t ty e i ht.out i1 (A.map fun g=>⟨g,0,none⟩) n' c c' hb.2.1;refine wpList_plain rfl fun K hK=> ?_;unfold Oper.wp execOp;simp only [resolve,invoke,builtin,Sem.run_bind,Sem.run_pure,Result.andThen_ok,JU,Ja,Jz,hs.eval x _ hx,hs.eval y _ hy,sl,hr,Oper.upon];refine hK _ _ (k A c (fun h=>by omega) _ _ (hs.put (Jf ▸ hn) _) ?_);simpa using hm'
 ·obtain ⟨g,o,rfl,hro⟩:=h4 (by omega)
  exact gS hn hx hy hsel (fun w' hm2=>by
   obtain ⟨B,c'',e1,e2,e3,e4⟩:=hnews w' hm2;obtain ⟨g',o',e5,hro'⟩:=e4 (by omega);injection e1 with e1 e1' e1'';subst e1;injection e5 with e5;injection e5 with e5 e6;subst e5;subst e6;exact hro'.cells) hl h1 hby h63 (fun A' cap' hA=>k A' cap' (fun h=>hA (by omega))) a w hs hm
end
theorem BJ {P:Program} {w0:World} {s:au} {H:List Blk} {ty:TypeId} {x y:Operand} {a b m:Nat} {ts:Array TypeId} (hx:ev s x=some (.int .i64 (a:Nat))) (hy:ev s y=some (.int .i64 (b:Nat))) (hm:min a b=m):
 VOp P w0 s H (.call { callee:= .builtin .min,args:= #[x,y],argTypes:=ts }) ty (.int .i64 (m:Nat)):=by
 have h:(if ((b:Nat):Int)<((a:Nat):Int) then ((b:Nat):Int) else ((a:Nat):Int))=((m:Nat):Int):=by
  split<;>omega
 rw [← h];exact yp hx hy
theorem zp {P:Program} {w0:World} {s:au} {H:List Blk} {ty t hi:Nat} {a:ByteArray} {x q:Operand} {k:IntKind} [ht:Und P t .string] (hx:ev s x=some (.string a)) (hq:ev s q=some (.int k (hi:Nat))) (h2:hi≤a.size):
 VOp P w0 s H (.slice t x none (some q) none) ty (.string (a.extract 0 hi)):=fun ρ w _ _ _ _ hρ _=>by
 have e2:((hi:Nat):Int)≤((a.size:Nat):Int):=by omega
 simp [execOp,hρ x _ hx,hρ q _ hq,Instr.sliceAt,run_underlying ht.out,Instr.slice,Instr.sliceBounds,Instr.sliceBound,asIntOf,h2]
section
variable {P:Program} {n:Fr} {w0:World} {Q:aO} {s:au} {H:List Blk} {rest:List Oper} {ty:TypeId} {p:String} {af:Array Edge}
theorem nX {d t e m sz:Nat} {ps:List (Nat × Operand)} {vs xs zs:List Value} {ops:Array Oper} [ht:Und P t (.array m e)] [he:Size P e sz] [hz:ZeroC P t zs] (hn:Nat.blt d n.sz=true) (hps:evd s ps 0=some vs)
 (hs0:Nat.blt 0 sz=true) (hl:Nat.beq (vs.length*sz) zs.length=true) (h1:uD sz vs=true) (hx:o4 (nD vs)=some xs) (k:WL P n w0 ops rest Q ((d,.agg xs.toArray)::s) H):
 WL P n w0 ops (⟨some d,.build t ps.toArray,ty,p,af,none⟩::rest) Q s H:=by
 refine nG rfl d rfl hn (fun a w hs hm=> ?_) k;obtain ⟨it,z,i1,i2,i3⟩:=hz.out;obtain ⟨ie,j1,j2⟩:=he.out;have hall:=l7 h1;have hlen:=I9 hl;have hfill:=Great.fill_whole (s:=sz) (by simpa using hs0) vs z.cells hall (by rw [i3];simp [hlen]);rw [← nO hs hps] at hfill;have hb:P.built t (ps.map fun (x:Nat × Operand)=>(x.1,a.eval x.2))=some (nD vs).toArray:=by
  unfold Program.built;simp only [i1,ht.out,i2,j1,j2];exact hfill
 have hr:=run_build (P:=P) w t (ps.map fun (x:Nat × Operand)=>(x.1,a.eval x.2)).toArray (nD vs).toArray (by simpa using hb);rw [fB hx];simp only [execOp,JU];simp only [Sem.run_bind,hr,Result.andThen_ok,Sem.run_pure]
theorem aF {d t e n' c g sz by_:Nat} {A:Option Nat} {x y:Operand} {xs news:List Value} {R:List Blk} {ops:Array Oper} [ht:Und P t (.slice e)] [he:Elem P e sz by_] (hn:Nat.blt d n.sz=true)
 (hx:ev s x=some (sl A n' c)) (hy:ev s y=some (.slice (some ⟨g,0,none⟩) 1 1)) (hsel:Sel (.own A e sz n' c xs) H R)
 (hi:In (.own (some g) e sz 1 1 news) H) (hl:news.length=sz) (h1: ∀ u∈news,u.oneCell' =true) (hby:(n' +1)*by_≤140737488355328) (h63:n' +1≤maxLen)
 (k: ∀ g' cap',WL P n w0 ops rest Q ((d,sl (some g') (n' +1) cap')::s) (.own (some g') e sz (n' +1) cap' (xs++news)::R)):
 WL P n w0 ops (⟨some d,.call { callee:= .builtin .append,args:= #[x,y],argTypes:= #[t,t] },ty,p,af,none⟩::rest) Q s H:=
 eG (m:=1) hn hx hy hsel (fun w hm=>Reads.of_own (A:=some g) hm hi) (by omega) h1 hby h63 fun A' cap' hA=>by
  obtain ⟨g',rfl⟩:=hA (by omega);exact k g' cap'
end
end Go.SL
namespace Go.SL
open Go
def jE (X:Nx) (D:List Nat) (i:Nat):Bool:= !decide (i∈D) && (aj X i).all fun k=>decide (k∈D)
def jk (X:Nx) (D:List Nat):Option Nat:=(List.range X.length).find? (jE X D)
def gX (X:Nx):Nat→List Nat→List Nat
 |0,D=>D
 |n+1,D=>match jk X D with
  |none=>D
  |some i=>gX X n (D++ [i])
def cV (X:Nx):List Nat:=gX X X.length []
theorem cL {X:Nx} {D:List Nat} {i:Nat}:jE X D i=true↔i∉D∧ ∀ k∈aj X i,k∈D:=by
 simp [jE]
theorem kL {X:Nx} {D:List Nat} {i:Nat}:jk X D=some i↔i<X.length∧jE X D i=true∧ ∀ j,j<i→jE X D j=false:=by
 unfold jk;rw [List.find?_range_eq_some];constructor
 ·rintro ⟨h1,h2,h3⟩;exact ⟨IJ.1 h2,h1,fun j hj=>by simpa using h3 j hj⟩
 ·rintro ⟨h1,h2,h3⟩;exact ⟨h2,IJ.2 h1,fun j hj=>by simpa using h3 j hj⟩
theorem o7 {X:Nx} {D:List Nat}:jk X D=none↔ ∀ i,i<X.length→jE X D i=false:=by
 unfold jk;rw [KX];simp only [IJ,Bool.not_eq_true]
theorem BW {X:Nx} {D:List Nat} (h:jk X D=none): ∀ m,gX X m D=D
 |0=>rfl
 |m+1=>by rw [gX,h]
theorem zy {X:Nx} {D:List Nat} {i:Nat} (h:jk X D=some i) (hl:D.length<X.length):gX X (X.length - D.length) D=gX X (X.length - (D++ [i]).length) (D++ [i]):=by
 rw [Iv,IV,show X.length - D.length=X.length - (D.length+1)+1 by omega,gX,h]
def bJ (X:Nx) (i:Nat):List Nat:=(List.range X.length).flatMap fun j=>((aj X j).filter fun k=>decide (k=i)).map fun _=>j
theorem m5 {X:Nx} {i j:Nat} (hj:j<X.length):(bJ X i).count j=(aj X j).count i:=by
 unfold bJ;rw [List.count_flatMap];have h1: ∀ m:Nat,((((aj X m).filter fun k=>decide (k=i)).map fun _=>m)).count j=if m=j then (aj X j).count i else 0:=fun m=>by
  by_cases e:m=j
  ·subst e;rw [if_pos rfl,List.count_eq_length.2 (fun x hx=>by obtain ⟨y,_,rfl⟩:=IM.1 hx;rfl),II,← List.countP_eq_length_filter,List.count];exact List.countP_congr fun x _=>by simp
  ·rw [if_neg e,List.count_eq_zero];intro hm;obtain ⟨y,_,h2⟩:=IM.1 hm;exact e h2
 have h2:(List.count j∘fun m=>((aj X m).filter fun k=>decide (k=i)).map fun _=>m)=fun m=>if m=j then (aj X j).count i else 0:=funext h1;rw [h2];have h3: ∀ (l:List Nat),l.Nodup→j∈l→(l.map fun m=>if m=j then (aj X j).count i else 0).sum=(aj X j).count i:=by
  intro l
  induction l with
  |nil=>intro _ h;cases h
  |cons a l ih=>
   intro hn hm;rw [JG] at hn;rw [Ja,List.sum_cons];by_cases e:a=j
   ·subst e;rw [if_pos rfl];have h0: ∀ l:List Nat,a∉l→(l.map fun m=>if m=a then (aj X a).count i else 0).sum=0:=by
     intro l
     induction l with
     |nil=>intro _;rfl
     |cons b l ih=>
      intro hb;rw [IP,not_or] at hb;rw [Ja,List.sum_cons,if_neg (fun e=>hb.1 e.symm),ih hb.2]
    rw [h0 l hn.1];rfl
   ·rw [if_neg e,IG];rcases IP.1 hm with h4|h4
    ·exact absurd h4.symm e
    ·exact ih hn.2 h4
 exact h3 _ KJ (IJ.2 hj)
theorem mz {X:Nx} {i j:Nat}:j∈bJ X i↔j<X.length∧i∈aj X j:=by
 unfold bJ;rw [KK];constructor
 ·rintro ⟨m,hm,h⟩;obtain ⟨k,hk,rfl⟩:=IM.1 h;rw [JC,decide_eq_true_eq] at hk;exact ⟨IJ.1 hm,hk.2 ▸ hk.1⟩
 ·rintro ⟨h1,h2⟩;exact ⟨j,IJ.2 h1,IM.2 ⟨i,JC.2 ⟨h2,by simp⟩,rfl⟩⟩
structure HpI (X:Nx) (D h lf:List Nat):Prop where
 dn:D.Nodup
 dl: ∀ i∈D,i<X.length
 dc: ∀ i∈D,∀ k∈aj X i,k∈D
 ll:lf.length=X.length
 lv: ∀ i,i<X.length→(lf[i]?).getD 0=(aj X i).countP fun k=> !decide (k∈D)
 hn:h.Nodup
 hm: ∀ i,i∈h↔(i<X.length∧jE X D i=true)
theorem bK: ∀ (l m:List Nat),l.Nodup→(∀ x∈l,x∈m)→l.length≤m.length
 | [],_,_,_=>Iw _
 |a::l,m,hn,hs=>by
  rw [JG] at hn;have ha:=hs a (Iu ..);have h1:=bK l (m.erase a) hn.2 fun x hx=>(List.mem_erase_of_ne (fun (e:x=a)=>hn.1 (e ▸ hx))).2 (hs x (IB _ hx));rw [List.length_erase_of_mem ha] at h1;have:=List.length_pos_of_mem ha;rw [IU];omega
theorem HpI.len {X:Nx} {D h lf:List Nat} (H:HpI X D h lf):D.length≤X.length:=by
 have h1:=bK D (List.range X.length) H.dn (fun x hx=>IJ.2 (H.dl x hx));rwa [Jc] at h1
theorem HpI.len_lt {X:Nx} {D h lf:List Nat} (H:HpI X D h lf) {i:Nat} (hi:i∈h):D.length<X.length:=by
 obtain ⟨h1,h2⟩:=(H.hm i).1 hi;have h3:=(cL.1 h2).1;have h4:(i::D).Nodup:=JG.2 ⟨h3,H.dn⟩
 have h5:=bK (i::D) (List.range X.length) h4 (fun x hx=>IJ.2 (by
  rcases IP.1 hx with rfl|hx
  ·exact h1
  ·exact H.dl x hx))
 rw [Jc,IU] at h5;omega
theorem HpI.next {X:Nx} {D h lf:List Nat} (H:HpI X D h lf) {i:Nat} (hi:i∈h) (hmin: ∀ j∈h,i≤j):jk X D=some i:=by
 obtain ⟨h1,h2⟩:=(H.hm i).1 hi;refine kL.2 ⟨h1,h2,fun j hj=> ?_⟩
 cases hf:jE X D j with
 |false=>rfl
 |true=>
  have:=hmin j ((H.hm j).2 ⟨by omega,hf⟩);omega
theorem HpI.stop {X:Nx} {D lf:List Nat} (H:HpI X D [] lf):jk X D=none:=o7.2 fun i hi=>by
 cases hf:jE X D i with
 |false=>rfl
 |true=>cases (H.hm i).2 ⟨hi,hf⟩
structure HpJ (X:Nx) (D:List Nat) (i:Nat) (h lf P:List Nat):Prop where
 ll:lf.length=X.length
 lv: ∀ m,m<X.length→(lf[m]?).getD 0+P.count m=(aj X m).countP fun k=> !decide (k∈D)
 hn:h.Nodup
 hm: ∀ m,m∈h↔(m<X.length∧m∉D∧m≠i∧(lf[m]?).getD 0=0)
theorem gI {l:List Nat} {D:List Nat}:(l.countP fun k=> !decide (k∈D))=0↔ ∀ k∈l,k∈D:=by
 rw [List.countP_eq_zero];simp
theorem HpI.begin {X:Nx} {D h lf:List Nat} (H:HpI X D h lf) {i:Nat} {h' :List Nat} (hp:h.Perm (i::h')):HpJ X D i h' lf []:=by
 have hn:=hp.nodup_iff.1 H.hn;rw [JG] at hn;refine ⟨H.ll,fun m hm=> ?_,hn.2,fun m=> ?_⟩
 ·rw [List.count_nil,KG];exact H.lv m hm
 ·have h1:=H.hm m;rw [hp.mem_iff,IP,cL] at h1;constructor
  ·intro h2;obtain ⟨h3,h4,h5⟩:=h1.1 (.inr h2);refine ⟨h3,h4,fun e=>hn.1 (e ▸ h2),?_⟩;rw [H.lv m h3];exact gI.2 h5
  ·rintro ⟨h2,h3,h4,h5⟩;rw [H.lv m h2] at h5;exact (h1.2 ⟨h2,h3,gI.1 h5⟩).resolve_left h4
theorem HpI.no_self {X:Nx} {D h lf:List Nat} (H:HpI X D h lf) {i:Nat} (hi:i∈h) {k:Nat} (hk:i∈aj X k):k∉D∧k≠i:=by
 have h2:=cL.1 ((H.hm i).1 hi).2;refine ⟨fun hd=>h2.1 (H.dc k hd i hk),fun e=> ?_⟩;subst e;exact h2.1 (h2.2 _ hk)
theorem HpJ.step {X:Nx} {D h0 lf0:List Nat} (H:HpI X D h0 lf0) {i:Nat} (hi:i∈h0) {h lf P R:List Nat} {k:Nat} (J:HpJ X D i h lf P) (hF:bJ X i=P++k::R):
 k<X.length∧1≤(lf[k]?).getD 0∧((lf[k]?).getD 0 - 1≠0→HpJ X D i h (lf.set k ((lf[k]?).getD 0 - 1)) (P++ [k]))∧((lf[k]?).getD 0 - 1=0→ ∀ h' :List Nat,h'.Perm (k::h)→HpJ X D i h' (lf.set k ((lf[k]?).getD 0 - 1)) (P++ [k])):=by
 have hkm:k∈bJ X i:=by rw [hF];simp
 obtain ⟨hkl,hks⟩:=mz.1 hkm;have hid:=(cL.1 ((H.hm i).1 hi).2).1;obtain ⟨hkd,hki⟩:=H.no_self hi hks;have hc:P.count k+1≤(aj X k).countP fun m=> !decide (m∈D):=by
  have h1:=m5 (X:=X) (i:=i) hkl;rw [hF,List.count_append,List.count_cons_self] at h1;have h2:(aj X k).count i≤(aj X k).countP fun m=> !decide (m∈D):=by
   rw [List.count];exact List.countP_mono_left fun x _ hx=>by
    have:x=i:=by simpa using hx
    subst this;simp [hid]
  omega
 have hlk:=J.lv k hkl;have h1:1≤(lf[k]?).getD 0:=by omega
 have hset: ∀ m,((lf.set k ((lf[k]?).getD 0 - 1))[m]?).getD 0=if k=m then (lf[k]?).getD 0 - 1 else (lf[m]?).getD 0:=fun m=>by
  rw [fa];by_cases e:k=m
  ·rw [if_pos ⟨e,by rw [J.ll];exact hkl⟩,if_pos e]
  ·rw [if_neg (fun hh=>e hh.1),if_neg e]
 have hlv: ∀ m,m<X.length→((lf.set k ((lf[k]?).getD 0 - 1))[m]?).getD 0+(P++ [k]).count m=(aj X m).countP fun k=> !decide (k∈D):=fun m hm=>by
  rw [hset,List.count_append];by_cases e:k=m
  ·subst e;rw [if_pos rfl,List.count_singleton_self];omega
  ·rw [if_neg e,List.count_eq_zero.2 (fun hh=>e (Iz.1 hh).symm),KG];exact J.lv m hm
 refine ⟨hkl,h1,fun hne=>⟨by rw [Jo];exact J.ll,hlv,J.hn,fun m=> ?_⟩,fun he h' hp=>⟨by rw [Jo];exact J.ll,hlv,?_,fun m=> ?_⟩⟩
 ·rw [J.hm,hset];by_cases e:k=m
  ·subst e;rw [if_pos rfl];exact ⟨fun hh=>absurd hh.2.2.2 (by omega),fun hh=>absurd hh.2.2.2 hne⟩
  ·rw [if_neg e]
 ·rw [hp.nodup_iff,JG];exact ⟨fun hm=>by have:=((J.hm k).1 hm).2.2.2;omega,J.hn⟩
 ·rw [hp.mem_iff,IP,J.hm,hset];by_cases e:k=m
  ·subst e;rw [if_pos rfl];exact ⟨fun _=>⟨hkl,hkd,hki,he⟩,fun _=> .inl rfl⟩
  ·rw [if_neg e];exact ⟨fun hh=>hh.resolve_left fun e' =>e e'.symm,.inr⟩
theorem HpJ.fin {X:Nx} {D h0 lf0:List Nat} (H:HpI X D h0 lf0) {i:Nat} (hi:i∈h0) {h lf:List Nat} (J:HpJ X D i h lf (bJ X i)):HpI X (D++ [i]) h lf:=by
 have hf:=(H.hm i).1 hi;have hf2:=cL.1 hf.2;have hlv: ∀ m,m<X.length→(lf[m]?).getD 0=(aj X m).countP fun k=> !decide (k∈D++ [i]):=fun m hm=>by
  have h1:=J.lv m hm;rw [m5 hm] at h1;have h2: ∀ l:List Nat,(l.countP fun k=> !decide (k∈D))=(l.countP fun k=> !decide (k∈D++ [i]))+l.count i:=by
   intro l
   induction l with
   |nil=>rfl
   |cons a l ih=>
    rw [K7,K7,List.count_cons,ih];by_cases ea:a=i
    ·subst ea;simp [hf2.1];omega
    ·by_cases ed:a∈D
     ·simp [ed,ea]
     ·simp [ed,ea];omega
  have:=h2 (aj X m);omega
 refine ⟨?_,?_,?_,J.ll,hlv,J.hn,fun m=> ?_⟩
 ·exact J8.2 ⟨H.dn,by simp,fun a ha b hb e=>hf2.1 (by rw [← Iz.1 hb,← e];exact ha)⟩
 ·intro m hm;rcases IL.1 hm with hm|hm
  ·exact H.dl m hm
  ·rw [Iz.1 hm];exact hf.1
 ·intro m hm k hk;rcases IL.1 hm with hm|hm
  ·exact Jy _ (H.dc m hm k hk)
  ·rw [Iz.1 hm] at hk;exact Jy _ (hf2.2 k hk)
 ·rw [J.hm,cL];constructor
  ·rintro ⟨h1,h2,h3,h4⟩;rw [hlv m h1] at h4;exact ⟨h1,fun hh=>(IL.1 hh).elim h2 fun e=>h3 (Iz.1 e),gI.1 h4⟩
  ·rintro ⟨h1,h2,h3⟩;refine ⟨h1,fun hh=>h2 (Jy _ hh),fun e=>h2 (JL _ (Iz.2 e)),?_⟩;rw [hlv m h1];exact gI.2 h3
theorem nj {α:Type} {p q:α→Bool}: ∀ {l:List α},(∀ x∈l,p x=true→q x=true)→(∃ a∈l,q a=true∧p a=false)→l.countP p<l.countP q
 | [],_,h=>by obtain ⟨a,h,_⟩:=h;cases h
 |b::l,h,⟨a,ha,h1,h2⟩=>by
  have hm:=List.countP_mono_left fun x hx=>h x (IB _ hx);rw [K7,K7];rcases IP.1 ha with rfl|ha
  ·simp only [h1,h2,if_true,Jt,if_false];omega
  ·have ih:=nj (fun x hx=>h x (IB _ hx)) ⟨a,ha,h1,h2⟩;have hb:=h b (Iu ..);split<;>split<;>simp_all<;>omega
open Classical in
theorem z1 {X:Nx} (hX: ∀ i,∀ k∈aj X i,k<X.length) (hac: ∀ v,v<X.length→ ¬ onC X v) {D:List Nat}: ∀ (m v:Nat),((List.range X.length).countP fun u=>decide (Rch X v u))≤m→v<X.length→v∉D→ ∃ i,jk X D=some i:=by
 intro m
 induction m with
 |zero=>
  intro v hm hv _;have:0<(List.range X.length).countP fun u=>decide (Rch X v u):=List.countP_pos_iff.2 ⟨v,IJ.2 hv,by simp;exact .refl v⟩;omega
 |succ m ih=>
  intro v hm hv hd;by_cases hf:jE X D v=true
  ·cases hn:jk X D with
   |some i=>exact ⟨i,rfl⟩
   |none=>rw [o7.1 hn v hv] at hf;cases hf
  ·have: ∃ k∈aj X v,k∉D:=by
    by_cases h2: ∀ k∈aj X v,k∈D
    ·exact absurd (cL.2 ⟨hd,h2⟩) hf
    ·simp only [Classical.not_forall] at h2;obtain ⟨k,hk,hkd⟩:=h2;exact ⟨k,hk,hkd⟩
   obtain ⟨k,hk,hkd⟩:=this;have hlt:((List.range X.length).countP fun u=>decide (Rch X k u))<(List.range X.length).countP fun u=>decide (Rch X v u):=
    nj (fun x _ hx=>by simp only [decide_eq_true_eq] at hx ⊢;exact .step hk hx) ⟨v,IJ.2 hv,by simp;exact .refl v,by simp;exact fun r=>hac v hv ⟨k,hk,r⟩⟩
   exact ih k (by omega) (hX v k hk) hkd
end Go.SL
namespace Go.SL
open Go Go.RowKit
def bat (a:ByteArray) (i:Nat):Int:=(aq a).getD i 0
def sub (a:ByteArray) (lo hi:Nat):ByteArray:=a.extract lo hi
theorem fX (a:ByteArray) (lo hi:Nat):aq (sub a lo hi)=((aq a).drop lo).take (hi - lo):=sU a lo hi
theorem ck (a:ByteArray) {lo hi:Nat} (h:hi≤a.size):(sub a lo hi).size=hi - lo:=by simp [sub];omega
theorem jW (a:ByteArray) (lo:Nat):aq (sub a lo a.size)=(aq a).drop lo:=by
 rw [fX,JF];simp [av]
theorem sL (a:ByteArray) (hi:Nat):aq (sub a 0 hi)=(aq a).take hi:=by
 rw [fX,Ki,JJ]
theorem j6 {a:ByteArray} {i:Nat} (h:i<a.size):(aq a)[i]? =some (bat a i):=by
 have hl:i<(aq a).length:=by rw [av];exact h
 rw [bat,J2,Ir hl]
 rfl
theorem GP (a:ByteArray) (i:Nat):0≤bat a i∧bat a i<256:=by
 rw [bat,J2]
 cases h:(aq a)[i]? with
 |none=>simp
 |some c=>exact jV a c (List.mem_of_getElem? h)
theorem bO {a:ByteArray} {i:Nat} (h:i<a.size):(aq a).drop i=bat a i::(aq a).drop (i+1):=by
 have hl:i<(aq a).length:=by rw [av];exact h
 rw [IR hl];have:=j6 h;rw [Ir hl] at this;rw [Option.some.inj this]
theorem xE:aq aA= []:=rfl
theorem CR {a:ByteArray}:aq a= []↔a=aA:=⟨fun h=>vv (h.trans xE.symm),fun h=>by rw [h];rfl⟩
theorem m4 (a b:ByteArray):aq (a++b)=aq a++aq b:=by simp [aq]
section
variable {P:Program} {n:Fr} {w0:World} {Q:aO} {s:au} {H:List Blk} {l rest:List Oper} {ty:TypeId} {p:String} {af:Array Edge}
theorem ug {x ix:Operand} {t j:Nat} {a:ByteArray} {k:IntKind} [ht:Und P t .string] (hx:ev s x=some (.string a)) (hi:ev s ix=some (.int k (j:Nat))) (hj:j<a.size):VOp P w0 s H (.index t x ix) ty (.int .u8 (bat a j)):=by
 have h:=uf (P:=P) (w0:=w0) (H:=H) (ty:=ty) (t:=t) hx hi hj;have e:((a[j]'hj).toNat:Int)=bat a j:=by
  have h1:=j6 hj;have h2:=lH a j hj;rw [Ir (by rw [av];exact hj),h2] at h1;exact Option.some.inj h1
 rw [← e];exact h
theorem FW {x ix:Operand} {t:Nat} {a:ByteArray} {k:IntKind} [ht:Und P t .string] (hx:ev s x=some (.string a)) (hi:ev s ix=some (.int k 0)) (hj:0<a.size):VOp P w0 s H (.index t x ix) ty (.int .u8 (bat a 0)):=ug (j:=0) hx hi hj
theorem wM {t lo hi:Nat} {a:ByteArray} {x q r:Operand} {k k' :IntKind} [ht:Und P t .string] (hx:ev s x=some (.string a)) (hr:ev s r=some (.int k' (lo:Nat))) (hq:ev s q=some (.int k (hi:Nat))) (h:lo≤hi∧hi≤a.size):
 VOp P w0 s H (.slice t x (some r) (some q) none) ty (.string (sub a lo hi)):=wR hx hr hq h.1 h.2
theorem BC {t lo:Nat} {a:ByteArray} {x r:Operand} {k' :IntKind} [ht:Und P t .string] (hx:ev s x=some (.string a)) (hr:ev s r=some (.int k' (lo:Nat))) (h1:lo≤a.size):
 VOp P w0 s H (.slice t x (some r) none none) ty (.string (sub a lo a.size)):=oC hx hr h1
theorem DM {t:Nat} {a:ByteArray} {x r:Operand} {k' :IntKind} [ht:Und P t .string] (hx:ev s x=some (.string a)) (hr:ev s r=some (.int k' 1)) (h1:1≤a.size):
 VOp P w0 s H (.slice t x (some r) none none) ty (.string (sub a 1 a.size)):=oC (lo:=1) hx hr h1
theorem BD {t hi:Nat} {a:ByteArray} {x q:Operand} {k:IntKind} [ht:Und P t .string] (hx:ev s x=some (.string a)) (hq:ev s q=some (.int k (hi:Nat))) (h2:hi≤a.size):
 VOp P w0 s H (.slice t x none (some q) none) ty (.string (sub a 0 hi)):=zp hx hq h2
theorem qG {x y:Operand} {a b c:ByteArray} {t t' :TypeId} (hx:ev s x=some (.string a)) (hy:ev s y=some (.string b)) (e:a++b=c) (h:a.size+b.size≤1000000000):VOp P w0 s H (.binOp .add t x y t') ty (.string c):=e ▸ F2 hx hy (by simp only [maxLen];omega)
theorem BI {x y:Operand} {k:IntKind} {a b:Int} {t t' :TypeId} (hx:ev s x=some (.int k a)) (hy:ev s y=some (.int k b)):VOp P w0 s H (.binOp .mul t x y t') ty (.int k (k.wrap (a*b))):=fun ρ w _ _ _ _ hρ _=>by
 simp [execOp,hρ x _ hx,hρ y _ hy,eqGuard,binOp,Op.intArith]
theorem dU {x:Operand} {k k' :IntKind} {a c:Int} {t t' :TypeId} {d:TypeDesc} [hs:Und P t d] [hd:Und P t' (.int k')] (hx:ev s x=some (.int k a)) (hw:k'.wrap a=c):VOp P w0 s H (.convert t t' x) ty (.int k' c):=hw ▸ BO hx
theorem df {x:Operand} {A:Addr} (hx:ev s x=some (.pointer (some A))):VOp P w0 s H (.nilCheck x) ty (.pointer (some A)):=fun ρ w _ _ _ _ hρ _=>by
 simp [execOp,hρ x _ hx]
theorem xb {t e:TypeId} (h:P.underlying t=some (.pointer e)):P.underlying t=some (.pointer (P.pointee t)):=by
 rw [h];simp [Program.pointee,h]
theorem DN {x:Operand} {A:Option Addr} {t e t' :TypeId} [ht:Und P t (.pointer e)] (hx:ev s x=some (.pointer A)):VOp P w0 s H (.binOp .eql t x (.const (.pointer none)) t') ty (.bool A.isNone):=fun ρ w _ _ _ _ hρ _=>by
 have hc:=hρ (.const (.pointer none)) _ rfl;simp [execOp,hρ x _ hx,hc,eqGuard,run_eql_pointer_nil w t A (xb ht.out)]
theorem FO {ι:Type} {id:Nat} {ops:Array Oper} {d:Bool} {y z:Code} (sI:ι→au) (HI:ι→List Blk) (ok:ι→Prop) (h:W P n w0 (.seq (.region id ops d) y) (aW sI HI ok Q) s H) (k: ∀ i,ok i→W P n w0 z Q (sI i) (HI i)):
 W P n w0 (.seq (.region id ops d) y) (thn (W P n w0 z Q) Q) s H:=
 og _ _ _ h k
theorem od {ι:Type} {id:Nat} {ops:Array Oper} {d:Bool} {z:Code} (sI:ι→au) (HI:ι→List Blk) (ok:ι→Prop) (h:W P n w0 (.region id ops d) (aW sI HI ok Q) s H) (k: ∀ i,ok i→W P n w0 z Q (sI i) (HI i)):
 W P n w0 (.region id ops d) (thn (W P n w0 z Q) Q) s H:=
 og _ _ _ h k
theorem DK {ι:Type} {sb:au} {id:Nat} {ops:Array Oper} {d:Bool} {y z:Code} (ts:List Nat) (hk:xC s ts=some sb) (sI:ι→au) (HI:ι→List Blk) (ok:ι→Prop) (h:W P n w0 (.seq (.region id ops d) y) (aW (fun i=>sI i++sb) HI ok Q) s H) (k: ∀ i,ok i→W P n w0 z Q (sI i++sb) (HI i)):
 W P n w0 (.seq (.region id ops d) y) (thn (W P n w0 z Q) Q) s H:=
 og _ _ _ h k
end
section
variable {P:Program} {n:Fr} {w0:World} {Q:aO} {s:au} {H:List Blk} {l rest:List Oper} {ty:TypeId} {p:String} {af:Array Edge} {Φ:Exit→Act→World→Prop}
def RW (P:Program) (n:Fr) (w0:World) (c:Code) (Φ:Exit→Act→World→Prop) (s:au) (H:List Blk):Prop:= ∀ a w,St n s a→Mem w0 w H→c.wp P Φ a w
theorem B0 {x y:Code} {Q0:aO} (hQ: ∀ e a w,e≠ .normal→post n w0 Q0 e a w→Φ e a w) (h:W P n w0 x (thn (RW P n w0 y Φ) Q0) s H):RW P n w0 (.seq x y) Φ s H:=by
 intro a w hs hm;refine wp_seq (wp_mono (h a w hs hm) ?_);rintro e a' w' ⟨s',H',h1,h2,h3⟩
 cases e with
 |normal=>exact h3 a' w' h1 h2
 |_=>exact hQ _ _ _ (fun h=>by cases h) ⟨s',H',h1,h2,h3⟩
theorem Ge {c:Code} {Q0:aO} (hQ: ∀ e a w,post n w0 Q0 e a w→Φ e a w) (h:W P n w0 c Q0 s H):RW P n w0 c Φ s H:=
 fun a w hs hm=>wp_mono (h a w hs hm) hQ
def dfr (f:FuncId) (caps:List Value):Deferred:=⟨.fn (.func f) caps.toArray,#[]⟩
theorem B6 {m d:Nat} {id:Nat} {z:Code} {f:FuncId} {cs:List Operand} {caps:List Value} {ds:List Deferred} {t1 t2:TypeId} {p1 p2:String} {af1 af2:Array Edge} (hc:evs s cs=some caps) (hn:Nat.blt d m=true)
 (h:RW P ⟨m,dfr f caps::ds⟩ w0 z Φ ((d,.func (.func f) #[] caps.toArray)::s) H):
 RW P ⟨m,ds⟩ w0 (.seq (.region id #[⟨some d,.makeFunc (.func f) #[] cs.toArray,t1,p1,af1,none⟩,⟨none,.defer { callee:= .value (.tmp d),args:= #[],argTypes:= #[] },t2,p2,af2,none⟩] false) z) Φ s H:=by
 intro a w hs hm;refine wp_seq (wp_region_lit (l:= [⟨some d,.makeFunc (.func f) #[] cs.toArray,t1,p1,af1,none⟩,⟨none,.defer { callee:= .value (.tmp d),args:= #[],argTypes:= #[] },t2,p2,af2,none⟩]) ?_);have hs2:St ⟨m,ds⟩ ((d,.func (.func f) #[] caps.toArray)::s) (a.put (some d) (.func (.func f) #[] caps.toArray)):=hs.put (by exact Jf ▸ hn) _;refine wpList_plain rfl fun K hK=> ?_;have hv:=ou (P:=P) (w0:=w0) (H:=H) (ty:=t1) (f:=f) hc a.eval w (some d) p1 af1 none hs.eval hm;simp only [Oper.wp,hv,Oper.upon];refine hK _ _ ?_;refine wpList_plain rfl fun K hK=> ?_;have he:(a.put (some d) (.func (.func f) #[] caps.toArray)).eval (.tmp d)= .func (.func f) #[] caps.toArray:=hs2.eval _ _ (by simp [ev,look]);simp only [Oper.wp,execOp,resolve,he,Deferred.ofValue,Oper.upon];simp only [Array.map_empty,Array.append_empty,Array.empty_append,Sem.run_pure,Sem.run_bind,Result.andThen_ok,bind_pure_comp,map_pure];refine hK _ _ ?_;exact h _ w ⟨hs2.size,by simp [Act.put,dfr,hs.defers],hs2.has⟩ hm
def EU (P:Program) (fn:Func) (w0:World) (R:Value→List Blk→Prop):Exit→Act→World→Prop:=bodyPostD P fn fun e w' => ∃ v H',e= .returned v∧Mem w0 w' H' ∧R v H'
theorem EF {m:Nat} {f:FuncId} {fn:Func} {c:Code} {args:List Value} {R:Value→List Blk→Prop} (hf:P.funcs[f]? =some fn) (hb:fn.body=some c) (hn:fn.ntmps=m) (hle:Nat.ble args.length m=true)
 (h:RW P ⟨m,[]⟩ w0 c (EU P fn w0 R) (mf args 0) H):FnIn P f args w0 H R:=by
 intro w hm;have hle' :args.length≤m:=by simpa using hle
 refine calls_of_wp_defers hf hb (h { tmps:=args.toArray++Array.replicate (fn.ntmps - args.toArray.size) undef,defers:= [] } w ⟨?_,rfl,?_⟩ hm)
 ·simp [hn];omega
 ·intro t v ht;rw [ij] at ht;simp only [Iw,if_true,JJ] at ht;have hlt:t<args.length:=(IQ.1 ht).1;rw [Ju (by simpa using hlt)];simpa using ht
theorem EG {m:Nat} {f:FuncId} {fn:Func} {c:Code} {args:List Value} {w:World} {R:Value→List Blk→Prop} (hf:P.funcs[f]? =some fn) (hb:fn.body=some c) (hn:fn.ntmps=m) (hle:Nat.ble args.length m=true)
 (h:RW P ⟨m,[]⟩ w c (EU P fn w R) (mf args 0) []):FnAt P f args w R:=EF hf hb hn hle h w (Mem.refl w)
theorem Di {m:Nat} {fn:Func} {R:Value→List Blk→Prop} {e:Exit} {a:Act} {w:World} (h:post ⟨m,[]⟩ w0 (aJ P fn ⟨m,[]⟩ w0 R) e a w):EU P fn w0 R e a w:=by
 obtain ⟨s,H,hs,hm,he,v,H',hsub,hr,hR⟩:=h;have hl:Leaves P fn a.tmps (fun e w' => ∃ v H',e= .returned v∧Mem w0 w' H' ∧R v H') a.defers .returning w:=by
  rw [hs.defers];exact ⟨v,hr a w hs hm,v,H',rfl,hsub.use hm,hR⟩
 rcases he with rfl|rfl<;>exact hl
def FnD (P:Program) (f:FuncId) (caps:List Value) (u:FrameMode) (w0:World) (H H' :List Blk):Prop:=
 ∀ w,Mem w0 w H→CallsD P f caps.toArray u w fun e u' w' =>(∃ v,e= .returned v)∧settle u' = .returning∧Mem w0 w' H'
def xu:Exit→Option FrameMode
 | .normal=>some .returning
 | .ret=>some .returning
 | .panic c=>some (.panicking c)
 |_=>none
def Ie (P:Program) (fn:Func) (n:Fr) (w0:World) (f:FuncId) (caps:List Value) (R:Value→List Blk→Prop):aO:=fun e s H=>
 ∃ u Hb H',xu e=some u∧MSub Hb H∧FnD P f caps u w0 Hb H' ∧aJ P fn n w0 R .ret s H'
theorem GN {m:Nat} {fn:Func} {f:FuncId} [hc:Callable P f] {caps:List Value} {R:Value→List Blk→Prop} {e:Exit} {a:Act} {w:World} (h:post ⟨m,[dfr f caps]⟩ w0 (Ie P fn ⟨m,[dfr f caps]⟩ w0 f caps R) e a w):EU P fn w0 R e a w:=by
 obtain ⟨s,H,hs,hm,u,Hb,H',he,hsub,hD,_,v,H2,h2,hr,hR⟩:=h;have hu:u≠ .run:=by rintro rfl;cases e<;>simp [xu] at he
 have hl:Leaves P fn a.tmps (fun e w' => ∃ v H',e= .returned v∧Mem w0 w' H' ∧R v H') a.defers u w:=by
  rw [hs.defers];refine leaves_cons hu (f:=f) (args:=caps.toArray) (by simp [invoke,hc.out]) ((hD w (hsub.use hm)).mono ?_);rintro e u' w' ⟨⟨v',rfl⟩,hset,hm'⟩;show Leaves P fn a.tmps _ [] (settle u') w';rw [hset];exact ⟨v,hr a w' hs hm',v,H2,rfl,h2.use hm',hR⟩
 cases e<;>simp only [xu,Option.some.injEq,reduceCtorEq] at he<;>subst he<;>exact hl
def H9 (H' :List Blk):aO:=fun e _ H=>(e= .ret∨e= .normal)∧MSub H' H
theorem HV {m d:Nat} {f:FuncId} {fn:Func} {id:Nat} {z:Code} {caps:List Value} {u:FrameMode} {v:Value} {H' :List Blk} (hf:P.funcs[f]? =some fn)
 (hb:fn.body=some (.seq (.region id #[⟨some d,.call { callee:= .builtin .recover,args:= #[],argTypes:= #[] },ty,p,af,none⟩] false) z)) (hres:fn.results= #[]) (hn:fn.ntmps=m) (hle:Nat.ble caps.length m=true) (hd:Nat.blt d m=true)
 (hu:(u= .returning∧v= .nilIface)∨u= .panicking (fk v))
 (h:W P ⟨m,[]⟩ w0 z (H9 H') ((d,v)::mf caps 0) H):FnD P f caps u w0 H H' :=by
 intro w hm;have hle' :caps.length≤m:=by simpa using hle
 refine callsD_of_wpS hf hb fun c₀ cs hc=> ?_;have hst:St ⟨m,[]⟩ (mf caps 0) { tmps:=caps.toArray++Array.replicate (fn.ntmps - caps.toArray.size) undef,defers:= [] }:=by
  refine ⟨?_,rfl,?_⟩
  ·simp [hn];omega
  ·intro t v ht;rw [ij] at ht;simp only [Iw,if_true,JJ] at ht;have hlt:t<caps.length:=(IQ.1 ht).1;rw [Ju (by simpa using hlt)];simpa using ht
 refine wpS_seq (wpS_region ?_);have hgo: ∀ cs',(∃ u',cs' ={ c₀ with mode:=u' }::cs∧settle u' = .returning)→Exit.thenS (z.wpS P (bodyPostS P fn c₀ cs fun e u' w' =>(∃ v,e= .returned v)∧settle u' = .returning∧Mem w0 w' H')) (bodyPostS P fn c₀ cs fun e u' w' =>(∃ v,e= .returned v)∧settle u' = .returning∧Mem w0 w' H') .normal ({ tmps:=caps.toArray++Array.replicate (fn.ntmps - caps.toArray.size) undef,defers:= []:Act }.put (some d) v) cs' w:=by
  rintro cs' ⟨u',rfl,hset⟩;refine wpS_of_wp (wp_mono (h _ w (hst.put (Jf ▸ hd) v) hm) ?_);rintro e a' w' ⟨s',H2,hs2,hm2,he,hsub⟩;have:a'.defers= []∧ ∃ u2,({ c₀ with mode:=u' }::cs:List Frame)={ c₀ with mode:=u2 }::cs∧ ∃ v,(results fn a'.tmps).run P w' = .ok v w' ∧((∃ v2,Ending.returned v= .returned v2)∧settle u2= .returning∧Mem w0 w' H'):=
   ⟨hs2.defers,u',rfl,.tuple #[],by simp [results,hres],⟨_,rfl⟩,hset,hsub.use hm2⟩
  rcases he with rfl|rfl<;>exact this
 have hrun: ∀ ρ:Operand→Value,(execOp ρ ⟨some d,.call { callee:= .builtin .recover,args:= #[],argTypes:= #[] },ty,p,af,none⟩).run P w= .ok .recover w:=fun ρ=>by
  simp [execOp,resolve,invoke,builtin]
 rcases hu with ⟨rfl,rfl⟩|rfl
 ·have:recoverD (c₀::cs)=none:=by simp [recoverD,hc]
  simp only [JK,IV,Ky,List.range_zero,ID,wpOpsS,I0,K4,Region.wanted,if_true,hrun,this];exact hgo _ ⟨.returning,by rw [← hc],rfl⟩
 ·have:recoverD (c₀::cs)=some (v,{ c₀ with mode:= .panicking [{ v,recovered:=true }] }::cs):=by simp [recoverD,hc,fk]
  simp only [JK,IV,Ky,List.range_zero,ID,wpOpsS,I0,K4,Region.wanted,if_true,hrun,this];exact hgo _ ⟨_,rfl,rfl⟩
theorem rV {x:Operand} {t T:TypeId} {v:Value} {d:TypeDesc} [hd:Und P T d] (hni:(match d with| .interface _=>false|_=>true)=true) (hx:ev s x=some (.iface T v)):VOp P w0 s H (.typeAssert x t T true) ty (.tuple #[v,.bool true]):=fun ρ w _ _ _ _ hρ _=>by
 cases d<;>simp_all [execOp,hρ x _ hx,Instr.typeAssert,run_underlying hd.out]
theorem Ed {t:TypeId} {ms:Array (String × TypeId)} (hd:P.underlying t=some (.interface ms)) (m:Nat) (w:World):(Op.equalIn (m+1) t .nilIface .nilIface).run P w= .ok true w:=by
 simp [Op.equalIn,run_underlying hd]
theorem Ec {t T:TypeId} {v:Value} {ms:Array (String × TypeId)} (hd:P.underlying t=some (.interface ms)) (m:Nat) (w:World):(Op.equalIn (m+1) t (.iface T v) .nilIface).run P w= .ok false w:=by
 simp [Op.equalIn,run_underlying hd]
theorem DQ {x:Operand} {t t' :TypeId} {ms:Array (String × TypeId)} [hd:Und P t (.interface ms)] (hx:ev s x=some .nilIface):VOp P w0 s H (.binOp .eql t x (.const .nilIface) t') ty (.bool true):=fun ρ w _ _ _ _ hρ _=>by
 have h2:=hρ (.const .nilIface) .nilIface rfl;have h3:(Op.equalIn Op.maxDepth t .nilIface .nilIface).run P w= .ok true w:=Ed hd.out 9999 w;simp [execOp,hρ x _ hx,h2,eqGuard,binOp,Op.equal,h3]
theorem DP {x:Operand} {t t' T:TypeId} {v:Value} {ms:Array (String × TypeId)} [hd:Und P t (.interface ms)] (hx:ev s x=some (.iface T v)):VOp P w0 s H (.binOp .eql t x (.const .nilIface) t') ty (.bool false):=fun ρ w _ _ _ _ hρ _=>by
 have h2:=hρ (.const .nilIface) .nilIface rfl;have h3:(Op.equalIn Op.maxDepth t (.iface T v) .nilIface).run P w= .ok false w:=Ec hd.out 9999 w;simp [execOp,hρ x _ hx,h2,eqGuard,binOp,Op.equal,h3]
theorem lp {fn:Func} {R:Value→List Blk→Prop} {e:Exit} {t u q T U Y T' U' Y' g h k:Nat} {v v' v'' :Value} (he:e= .ret∨e= .normal) (hr:fn.results= #[.cell t T,.cell u U,.cell q Y]) [One P T] [One P U] [One P Y] (ht:look s t=some (.pointer (some ⟨g,0,none⟩))) (hi:In (.box g T' [v]) H)
 (hu:look s u=some (.pointer (some ⟨h,0,none⟩))) (hi' :In (.box h U' [v']) H) (hq:look s q=some (.pointer (some ⟨k,0,none⟩))) (hi'' :In (.box k Y' [v'']) H) {H' :List Blk} (hs:MSub H' H) (hR:R (.tuple #[v,v',v'']) H'):aJ P fn n w0 R e s H:=
 ⟨he,_,H',hs,fun a w hst hm=>by
  have h1:=l9 (P:=P) (T:=T) hst hm ht hi;have h2:=l9 (P:=P) (T:=U) hst hm hu hi';have h3:=l9 (P:=P) (T:=Y) hst hm hq hi'';simp only [results,hr];simp only [KE,Jm,Jq,Sem.run_bind,Sem.run_map] at h1 h2 h3 ⊢;simp only [h1,h2,h3,Result.andThen_ok,Sem.run_pure]
  rfl,hR⟩
theorem FnP.own {f:FuncId} {args:List Value} {R D:Value→List Blk→Prop} {A:Option Nat} {T sz m cap:Nat} {xs:List Value} (hi:In (.own A T sz m cap xs) H) (h:m≤cap→FnP P f args w0 H R D):FnP P f args w0 H R D:=fun w hm=>h ((hm.on _ hi.mem).1.2.1) w hm
theorem qL {c:Code} (e sz:Nat) (k:RW P n w0 c Φ s (.own none e sz 0 0 []::H)):RW P n w0 c Φ s H:=fun a w hs hm=>
 k a w hs (hm.new (b:= .own none e sz 0 0 []) ⟨rfl,rfl,rfl,IK _,fun _ _ _=>rfl⟩ ⟨by simp,IK _,Iw _,rfl,rfl⟩ (fun k hk=>by cases hk))
theorem kJ {fn:Func} {R:Value→List Blk→Prop} {e:Exit} {t u q T T' g m:Nat} {xs:List Value} {v v' :Value} (he:e= .ret∨e= .normal) (hr:fn.results= #[.cell t T,.tmp u,.tmp q]) [Agg P T m] (ht:look s t=some (.pointer (some ⟨g,0,none⟩))) (hi:In (.box g T' xs) H) (hl:Nat.beq xs.length m=true) (hu:look s u=some v) (hq:look s q=some v') {H' :List Blk} (hs:MSub H' H) (hR:R (.tuple #[.agg xs.toArray,v,v']) H'):aJ P fn n w0 R e s H:=
 ⟨he,_,H',hs,fun a w hst hm=>by
  have h1:=jv (P:=P) (T:=T) hst hm ht hi hl;have h2:a.tmps.getD u undef=v:=by simp [I4,hst.has u _ hu]
  have h3:a.tmps.getD q undef=v' :=by simp [I4,hst.has q _ hq]
  simp only [results,hr];simp only [KE,Jm,Jq,Sem.run_bind,Sem.run_map] at h1 ⊢;simp only [h1,Result.andThen_ok,Sem.run_pure,h2,h3]
  rfl,hR⟩
structure BoxT where
 j:Nat
 g:Nat
 T:Nat
 v:Value
 u:Value
def BoxT.at (D:iH) (b:BoxT):Blk:= .box b.g b.T [if D b.j then b.u else b.v]
def BoxT.pre (b:BoxT):Blk:= .box b.g b.T [b.v]
def BoxT.post (b:BoxT):Blk:= .box b.g b.T [b.u]
theorem tW {id:Nat} (bs:List BoxT) (R:List Blk) (hm:P.follows .mixedOrders=true) (hB:Region.lexB .any l.toArray=true) (hj:(bs.all fun b=>Nat.blt b.j l.length)=true) (hsub:MSub (bs.map BoxT.pre++R) H)
 (h:WG P n w0 l (fun D=>bs.map (BoxT.at D)++R) (fun s' =>Q .normal s' (bs.map BoxT.post++R)) l 0 s):W P n w0 (.region id l.toArray true) Q s H:=by
 refine nH (fun D=>bs.map (BoxT.at D)++R) hm hB ?_ fun a hs hl=> ?_
 ·have:bs.map (BoxT.at fun _=>false)=bs.map BoxT.pre:=Jj fun b _=>by simp [BoxT.at,BoxT.pre]
  rw [this];exact hsub
 have mono: ∀ (r:List Oper) (k:Nat) (a:Act) (K K' :Act→Prop),(∀ a,K a→K' a)→wpG P .any l.toArray (Cls w0 l fun D=>bs.map (BoxT.at D)++R) K r k a→wpG P .any l.toArray (Cls w0 l fun D=>bs.map (BoxT.at D)++R) K' r k a:=by
  intro r
  induction r with
  |nil=>intro k a K K' hk h;exact hk _ h
  |cons o r ih=>
   rintro k a K K' hk ⟨v,h1,h2⟩;exact ⟨v,h1,ih _ _ K K' hk h2⟩
 refine mono _ _ _ _ _ ?_ (h a hs hl);rintro a' ⟨s',h2,h3⟩;refine ⟨s',h2,fun D hD=> ?_⟩;have:bs.map (BoxT.at D)=bs.map BoxT.post:=Jj fun b hb=>by
  have:=JR.1 hj b hb;simp [BoxT.at,BoxT.post,hD b.j (by simpa using this)]
 rw [this];exact h3
variable {K:au→Prop} {k:Nat}
theorem jL {t:TypeId} {x a:Operand} [Size P t 1] {bs:List BoxT} {R:List Blk} (pre suf:List BoxT) (b:BoxT) (hbs:bs=pre++b::suf) (hk:b.j=k) (hno:((pre++suf).all fun b=> !(b.j==k))=true)
 (ha:ev s a=some (.pointer (some ⟨b.g,0,none⟩))) (hx:ev s x=some b.u) (h1:b.u.oneCell' =true) (h:WG P n w0 l (fun D=>bs.map (BoxT.at D)++R) K rest (k+1) s):
 WG P n w0 l (fun D=>bs.map (BoxT.at D)++R) K (⟨none,.store t a x,ty,p,af,none⟩::rest) k s:=by
 subst hbs hk;have hsame: ∀ D (c:BoxT),c∈pre++suf→BoxT.at (put D b.j) c=BoxT.at D c:=fun D c hc=>by
  have:=JR.1 hno c hc;have hne:c.j≠b.j:=by simpa using this
  simp [BoxT.at,put,hne]
 refine wJ (T:=b.T) (fun D=> [if D b.j then b.u else b.v]) (fun D=>pre.map (BoxT.at D)++(suf.map (BoxT.at D)++R)) ha hx (fun D=> ?_) (vs:= [b.u]) (by cases hu:b.u<;>first|rfl|(rw [hu] at h1;cases h1)) rfl (by simpa using h1) (fun _=>IK _) (fun D ht=> ?_) h
 ·simp only [Jn,Ja,I1,IE];have: ∀ (L M:List Blk) (c:Blk),Sel c (L++c::M) (L++M):=fun L M c=>by
   induction L with
   |nil=>exact .hd
   |cons y L ih=>exact .tl ih
  exact this _ _ _
 ·refine ⟨[],?_⟩;simp only [Jn,Ja,I1,IE,I3,Kf,ID,IV,IG,List.drop_succ_cons,Ki];have e1:pre.map (BoxT.at (put D b.j))=pre.map (BoxT.at D):=Jj fun c hc=>hsame D c (Jy _ hc);have e2:suf.map (BoxT.at (put D b.j))=suf.map (BoxT.at D):=Jj fun c hc=>hsame D c (JL _ hc);have e3:BoxT.at (put D b.j) b= .box b.g b.T [b.u]:=by simp [BoxT.at,put]
  rw [e1,e2,e3];exact (Ks.symm)
theorem yh {t:TypeId} {d:Nat} {x:Operand} [One P t] {bs:List BoxT} {R:List Blk} (b:BoxT) (hb:b∈bs) {f j:Nat} (hj:b.j=j) (hr:i9 l f j k=true) (hno:(bs.all fun b=> !(b.j==k))=true) (hn:Nat.blt d n.sz=true)
 (ha:ev s x=some (.pointer (some ⟨b.g,0,none⟩))) (h:WG P n w0 l (fun D=>bs.map (BoxT.at D)++R) K rest (k+1) ((d,b.v)::s)):
 WG P n w0 l (fun D=>bs.map (BoxT.at D)++R) K (⟨some d,.load t x,ty,p,af,none⟩::rest) k s:=by
 refine wI hn (fun D ht=> ?_) (fun D=> ?_) h
 ·have e:=ht.late (hj ▸ hr);have hi:In (.box b.g b.T [b.v]) (bs.map (BoxT.at D)++R):=by
   have:BoxT.at D b= .box b.g b.T [b.v]:=by simp [BoxT.at,e]
   rw [← this];have hmem: ∀ (L:List BoxT),b∈L→In (BoxT.at D b) (L.map (BoxT.at D)++R):=fun L h=>by
    induction L with
    |nil=>cases h
    |cons c L ih=>
     rcases IP.1 h with rfl|h
     ·exact .hd
     ·exact .tl (ih h)
   exact hmem bs hb
  exact ow ha hi rfl
 ·have:bs.map (BoxT.at (put D k))=bs.map (BoxT.at D):=Jj fun c hc=>by
   have:=JR.1 hno c hc;have hne:c.j≠k:=by simpa using this
   simp [BoxT.at,put,hne]
  simp only [this]
theorem DH {op:Op} {d:Nat} {v:Value} {bs:List BoxT} {R:List Blk} (hno:(bs.all fun b=> !(b.j==k))=true) (hn:Nat.blt d n.sz=true) (hv:VOp P w0 s R op ty v) (h:WG P n w0 l (fun D=>bs.map (BoxT.at D)++R) K rest (k+1) ((d,v)::s)):
 WG P n w0 l (fun D=>bs.map (BoxT.at D)++R) K (⟨some d,op,ty,p,af,none⟩::rest) k s:=by
 refine wI hn (fun D ht=> ?_) (fun D=> ?_) h
 ·intro ρ w d p af g hρ hm;exact hv ρ w d p af g hρ (MSub.use ⟨bs.map (BoxT.at D),I2⟩ hm)
 ·have:bs.map (BoxT.at (put D k))=bs.map (BoxT.at D):=Jj fun c hc=>by
   have:=JR.1 hno c hc;have hne:c.j≠k:=by simpa using this
   simp [BoxT.at,put,hne]
  simp only [this]
end
section
variable {P:Program} {ops:Array Oper} {es ps:List Nat} {C:World→Prop}
def NormUp (P:Program) (K:Value→World→Prop):Result Next→Prop
 | .ok (.value v) w' =>K v w'
 | .ok .skip w' =>K undef w'
 | .ok (.enter f args) w' =>Calls P f args w' fun e w'' => ∃ v,e= .returned v∧K v w''
 | .ok (.row row args) w' =>Rows P row args w' fun v w'' =>K v w''
 |_=>False
theorem NormUp.mono {K K' :Value→World→Prop} {r:Result Next} (h:NormUp P K r) (hk: ∀ v w,K v w→K' v w):NormUp P K' r:=by
 cases r with
 |ok x w' =>
  cases x<;>simp only [NormUp] at h ⊢
  case value v=>exact hk _ _ h
  case skip=>exact hk _ _ h
  case enter f args=>exact h.mono fun e w'' ⟨v,he,h1⟩=>⟨v,he,hk _ _ h1⟩
  case row f args=>exact Rows.mono h fun v w'' h1=>hk _ _ h1
 |halt x w' =>exact h
theorem NormUp.ex {K:Value→World→Prop} {r:Result Next} (h:NormUp P K r): ∃ v w',K v w' :=by
 cases r with
 |ok x w' =>
  cases x<;>simp only [NormUp] at h
  case value v=>exact ⟨_,_,h⟩
  case skip=>exact ⟨_,_,h⟩
  case enter f args=>
   obtain ⟨e,w1,fr,⟨v,_,h1⟩,_⟩:=h [];exact ⟨_,_,h1⟩
  case row f args=>
   obtain ⟨v,w1,h1,_⟩:=h (Frame.enter P 0 #[] .normal) [];exact ⟨_,_,h1⟩
 |halt x w' =>exact h.elim
theorem NormUp.upon {K:Act→World→Prop} {Q:Exit→Act→World→Prop} {o:Oper} {a:Act} {r:Result Next} (h:NormUp P (fun v w' =>K (a.put o.dst v) w') r):o.upon P a K Q r:=by
 cases r with
 |ok x w' =>
  cases x<;>simp only [NormUp] at h<;>simp only [Oper.upon]
  case value v=>exact h
  case skip=>exact h
  case enter f args=>
   refine h.mono fun e w'' ⟨v,he,h1⟩=> ?_;subst he;exact h1
  case row f args=>exact h
 |halt x w' =>exact h.elim
inductive EOp (P:Program) (ops:Array Oper) (es ps:List Nat) (C:World→Prop) (K:Act→World→Prop) (i:Nat) (o:Oper) (a:Act) (w:World):Prop
 |pass (hw:Region.wanted o (yielded ops a.tmps)=false) (hk:K (a.put o.dst undef) w)
 |quiet (hw:Region.wanted o (yielded ops a.tmps)=true) (hi:i∉es) (v:Value) (hr:(execOp a.eval o).run P w= .ok (.value v) w) (hst:i∈ps∨ ∀ w1,C w1→(execOp a.eval o).run P w1= .ok (.value v) w1) (hk:K (a.put o.dst v) w)
 |eff (hw:Region.wanted o (yielded ops a.tmps)=true) (hi:i∈es) (hk:NormUp P (fun v w' =>K (a.put o.dst v) w') ((execOp a.eval o).run P w))
def AnyE (P:Program) (ops:Array Oper) (es ps:List Nat) (C:World→Prop) (Q:Act→World→Prop):Nat→Array Bool→Act→World→Prop
 |0,L,a,w=>C w∧Region.ready .any ops L= []∧Q a w
 |f+1,L,a,w=>C w∧(Region.ready .any ops L= []→Q a w)∧ ∀ i∈Region.ready .any ops L,∃ o,ops[i]? =some o∧EOp P ops es ps C (AnyE P ops es ps C Q f (L.setIfInBounds i true)) i o a w
theorem AnyE.inC {Q:Act→World→Prop} {f:Nat} {L:Array Bool} {a:Act} {w:World} (h:AnyE P ops es ps C Q f L a w):C w:=by
 cases f with
 |zero=>exact h.1
 |succ f=>exact h.1
theorem dG {Q:Act→World→Prop} {Q' :Exit→Act→World→Prop} (hQ: ∀ a w,Q a w→Q' .normal a w): ∀ (f:Nat) (L:Array Bool) (a:Act) (w:World),AnyE P ops es ps C Q f L a w→wpAny P .any ops Q' f L a w
 |0,L,a,w,h=>⟨h.2.1,hQ _ _ h.2.2⟩
 |f+1,L,a,w,h=>⟨fun h0=>hQ _ _ (h.2.1 h0),fun i hi=>by
   obtain ⟨o,ho,hg⟩:=h.2.2 i hi;unfold wpOp;simp only [ho]
   cases hg with
   |pass hw hk=>
    simp only [hw,Jt,if_false];exact dG hQ f _ _ _ hk
   |quiet hw _ v hr _ hk=>
    simp only [hw,if_true];refine .inl ?_;unfold Oper.wp;rw [hr];exact dG hQ f _ _ _ hk
   |eff hw _ hk=>
    simp only [hw,if_true];refine .inl ?_;unfold Oper.wp;exact NormUp.upon (hk.mono fun v w' h1=>dG hQ f _ _ _ h1)⟩
def ClosedL (ops:Array Oper) (L:Array Bool):Prop:= ∀ i o,ops[i]? =some o→L.getD i false=true→ ∀ e∈o.after,Region.binds .any e=true→L.getD e.on false=true
theorem ClosedL.set {L:Array Bool} (h:ClosedL ops L) {i:Nat} (hi:i∈Region.ready .any ops L):ClosedL ops (L.setIfInBounds i true):=by
 obtain ⟨_,oi,hoi,hall⟩:=mem_ready.1 hi;have up: ∀ j,L.getD j false=true→(L.setIfInBounds i true).getD j false=true:=fun j hj=>by
  by_cases e:i=j
  ·subst e;have:i<L.size:=by
    rcases Kv i L.size with h1|h1
    ·exact h1
    ·rw [I4,Kj h1] at hj;cases hj
   simp [this]
  ·rw [getD_set_ne false e];exact hj
 intro j o ho hj e he hb;by_cases hij:i=j
 ·subst hij;rw [hoi] at ho;injection ho with ho;subst ho;exact up _ (hall e he hb)
 ·rw [getD_set_ne false hij] at hj;exact up _ (h j o ho hj e he hb)
def nS (ops:Array Oper) (i j:Nat):Prop:= ∀ L,ClosedL ops L→i∈Region.ready .any ops L→j∈Region.ready .any ops L→False
theorem EOp.of_put {K K' :Act→World→Prop} {i:Nat} {oi oj:Oper} {a:Act} {w:World} {u:Value} (hap:oi.apart ops oj=true) (hsi: ∀ cs b,oi.op≠ .select cs b)
 (h:EOp P ops es ps C K i oi a w) (hk: ∀ v w',K (a.put oi.dst v) w' →K' ((a.put oj.dst u).put oi.dst v) w'):EOp P ops es ps C K' i oi (a.put oj.dst u) w:=by
 obtain ⟨h1,h2,h3⟩:=Oper.apart_spec hap;have he:=execOp_put oi hsi a oj.dst u h3;have hw:=wanted_put oi a oj.dst u h3
 cases h with
 |pass hw' hk' =>exact .pass (hw.trans hw') (hk _ _ hk')
 |quiet hw' hi v hr hst hk' =>exact .quiet (hw.trans hw') hi v (by rw [he];exact hr) (by rw [he];exact hst) (hk _ _ hk')
 |eff hw' hi hk' =>exact .eff (hw.trans hw') hi (by rw [he];exact hk'.mono fun v w' h=>hk _ _ h)
theorem p7 {Q:Act→World→Prop} {i:Nat} {oi:Oper} (hi:ops[i]? =some oi) (hsel: ∀ (j:Nat) (o:Oper) cs b,ops[j]? =some o→o.op≠ .select cs b)
 (hnb: ∀ x∈es,∀ y,y∈es∨y∈ps→x≠y→nS ops x y):
 ∀ (f:Nat) (L:Array Bool) (a:Act) (w:World),ClosedL ops L→C w→
  (∀ j oj,ops[j]? =some oj→j≠i→L.getD j true=false→(∀ e∈oj.after,Region.binds .any e=true→e.on≠i)→oi.apart ops oj=true)→
  i∈Region.ready .any ops L→EOp P ops es ps C (AnyE P ops es ps C Q f (L.setIfInBounds i true)) i oi a w→AnyE P ops es ps C Q (f+1) L a w
 |0,L,a,w,hcl,hC,_,hr,hy=>⟨hC,fun h=>(by rw [h] at hr;cases hr),fun j hj=>by
   by_cases hji:j=i
   ·subst hji;exact ⟨oi,hi,hy⟩
   ·exfalso;have hne:=ready_mono hj hji;have hE: ∃ a' w',AnyE P ops es ps C Q 0 (L.setIfInBounds i true) a' w' :=by
     cases hy with
     |pass _ hk=>exact ⟨_,_,hk⟩
     |quiet _ _ _ _ _ hk=>exact ⟨_,_,hk⟩
     |eff _ _ hk=>obtain ⟨v,w',h⟩:=hk.ex;exact ⟨_,_,h⟩
    obtain ⟨a',w',_,h0,_⟩:=hE;rw [h0] at hne;cases hne⟩
 |f+1,L,a,w,hcl,hC,hfree,hr,hy=>⟨hC,fun h=>(by rw [h] at hr;cases hr),fun j hj=>by
   by_cases hji:j=i
   ·subst hji;exact ⟨oi,hi,hy⟩
   ·have hj' :=ready_mono hj hji;obtain ⟨hjun,oj,hoj,hall⟩:=mem_ready.1 hj;have hnot: ∀ e∈oj.after,Region.binds .any e=true→e.on≠i:=fun e he hb heq=>by
     have h1:=hall e he hb;have h0:=(mem_ready.1 hr).1;rw [heq] at h1;rcases Kv i L.size with h' |h'
     ·simp [h'] at h0 h1;rw [h0] at h1;cases h1
     ·simp [Kj h'] at h1
    have hap:=hfree j oj hoj hji hjun hnot;obtain ⟨h1,h2,h3⟩:=Oper.apart_spec hap;have hsi:=fun cs b=>hsel i oi cs b hi;have hsj:=fun cs b=>hsel j oj cs b hoj;have hej: ∀ v,execOp (a.put oi.dst v).eval oj=execOp a.eval oj:=fun v=>execOp_put oj hsj a oi.dst v h1;have hwj: ∀ v,Region.wanted oj (yielded ops (a.put oi.dst v).tmps)=Region.wanted oj (yielded ops a.tmps):=fun v=>wanted_put oj a oi.dst v h1;have hcomm: ∀ v u,(a.put oi.dst v).put oj.dst u=(a.put oj.dst u).put oi.dst v:=fun v u=>Act.put_comm a v u h2;have hset:(L.setIfInBounds i true).setIfInBounds j true=(L.setIfInBounds j true).setIfInBounds i true:=K0 _ _ (Ne.symm hji)
    have hfree' : ∀ k ok,ops[k]? =some ok→k≠i→(L.setIfInBounds j true).getD k true=false→
     (∀ e∈ok.after,Region.binds .any e=true→e.on≠i)→oi.apart ops ok=true:=fun k ok hk hki hun hno=>by
     refine hfree k ok hk hki ?_ hno;by_cases hjk:j=k
     ·subst hjk;exact hjun
     ·rw [getD_set_ne true hjk] at hun;exact hun
    have ih:=p7 (Q:=Q) hi hsel hnb f (L.setIfInBounds j true);have hcl' :=hcl.set hj;have hr' :=ready_mono hr (Ne.symm hji)
    -- what comes of j behind an outcome of i
    have hJ: ∀ v w',AnyE P ops es ps C Q (f+1) (L.setIfInBounds i true) (a.put oi.dst v) w' →EOp P ops es ps C (AnyE P ops es ps C Q f ((L.setIfInBounds j true).setIfInBounds i true)) j oj (a.put oi.dst v) w' :=fun v w' h=>by
     obtain ⟨o,ho,hE⟩:=h.2.2 j hj';have e:o=oj:=Option.some.inj (ho.symm.trans hoj);subst e;rw [hset] at hE;exact hE
    refine ⟨oj,hoj,?_⟩
    have hstill:(∃ v,AnyE P ops es ps C Q (f+1) (L.setIfInBounds i true) (a.put oi.dst v) w∧ ∀ (u:Value) (w2:World) (K' :Act→World→Prop),C w2→(i∈ps→w2=w)→K' ((a.put oj.dst u).put oi.dst v) w2→EOp P ops es ps C K' i oi (a.put oj.dst u) w2)∨
     (Region.wanted oi (yielded ops a.tmps)=true∧i∈es∧NormUp P (fun v w' =>AnyE P ops es ps C Q (f+1) (L.setIfInBounds i true) (a.put oi.dst v) w') ((execOp a.eval oi).run P w)):=by
     cases hy with
     |pass hw hk=>exact .inl ⟨undef,hk,fun u w2 K' _ _ hk' => .pass ((wanted_put oi a oj.dst u h3).trans hw) hk'⟩
     |quiet hw hies v hrun hst hk=>
      refine .inl ⟨v,hk,fun u w2 K' hC2 hps hk' => ?_⟩;have he:=execOp_put oi hsi a oj.dst u h3;have hrun2:(execOp a.eval oi).run P w2= .ok (.value v) w2:=by
       rcases hst with h|h
       ·rw [hps h];exact hrun
       ·exact h w2 hC2
      exact .quiet ((wanted_put oi a oj.dst u h3).trans hw) hies v (by rw [he];exact hrun2) (by rw [he];exact hst) hk'
     |eff hw hies hk=>exact .inr ⟨hw,hies,hk⟩
    rcases hstill with ⟨v,hk,hS⟩|⟨hw,hies,hk⟩
    ·cases hJ v w hk with
     |pass hwj' hkj=>exact .pass ((hwj v).symm.trans hwj') (ih _ w hcl' hC hfree' hr' (hS undef w _ hC (fun _=>rfl) (by rw [← hcomm];exact hkj)))
     |quiet hwj' hjes u hrun hst hkj=>
      rw [hej] at hrun hst;exact .quiet ((hwj v).symm.trans hwj') hjes u hrun hst (ih _ w hcl' hC hfree' hr' (hS u w _ hC (fun _=>rfl) (by rw [← hcomm];exact hkj)))
     |eff hwj' hjes hkj=>
      rw [hej] at hkj;exact .eff ((hwj v).symm.trans hwj') hjes (hkj.mono fun u w2 hk2=>ih _ w2 hcl' hk2.inC hfree' hr' (hS u w2 _ hk2.inC (fun hps=>(hnb j hjes i (.inr hps) hji L hcl hj hr).elim) (by rw [← hcomm];exact hk2)))
    ·obtain ⟨v0,w1,h0⟩:=hk.ex
     cases hJ v0 w1 h0 with
     |pass hwj' hkj=>
      have hwa:=(hwj v0).symm.trans hwj';refine .pass hwa (ih _ w hcl' hC hfree' hr' (EOp.of_put hap hsi (.eff hw hies hk) fun v w' h=> ?_))
      cases hJ v w' h with
      |pass _ h' =>rw [← hcomm];exact h'
      |quiet hw2 _ _ _ _ _=>rw [hwj,hwa] at hw2;cases hw2
      |eff hw2 _ _=>rw [hwj,hwa] at hw2;cases hw2
     |quiet hwj' hjes u hrun hst hkj=>
      have hwa:=(hwj v0).symm.trans hwj';have hst2: ∀ w1,C w1→(execOp a.eval oj).run P w1= .ok (.value u) w1:=by
       rcases hst with h|h
       ·exact (hnb i hies j (.inr h) (Ne.symm hji) L hcl hr hj).elim
       ·rw [hej] at h;exact h
      refine .quiet hwa hjes u (hst2 w hC) (.inr hst2) (ih _ w hcl' hC hfree' hr' (EOp.of_put hap hsi (.eff hw hies hk) fun v w' h=> ?_))
      cases hJ v w' h with
      |pass hw2 _=>rw [hwj,hwa] at hw2;cases hw2
      |eff _ hjes2 _=>exact absurd hjes2 hjes
      |quiet _ _ u' hr2 hst' h' =>
       have hst3:(execOp a.eval oj).run P w= .ok (.value u') w:=by
        rcases hst' with h|h
        ·exact (hnb i hies j (.inr h) (Ne.symm hji) L hcl hr hj).elim
        ·have:=h w hC;rw [hej] at this;exact this
       rw [hst2 w hC] at hst3;injection hst3 with h4;injection h4 with h4;subst h4;rw [← hcomm];exact h'
     |eff hwj' hjes hkj=>exact (hnb i hies j (.inl hjes) (Ne.symm hji) L hcl hr hj).elim⟩
def wpE (P:Program) (ops:Array Oper) (es ps:List Nat) (C:World→Prop) (Q:Act→World→Prop):List Oper→Nat→Act→World→Prop
 | [],_,a,w=>C w∧Q a w
 |o::r,k,a,w=>C w∧EOp P ops es ps C (wpE P ops es ps C Q r (k+1)) k o a w
theorem EOp.mono {K K' :Act→World→Prop} {i:Nat} {o:Oper} {a:Act} {w:World} (h:EOp P ops es ps C K i o a w) (hk: ∀ a w,K a w→K' a w):EOp P ops es ps C K' i o a w:=by
 cases h with
 |pass h1 h2=>exact .pass h1 (hk _ _ h2)
 |quiet h1 h2 v h3 h4 h5=>exact .quiet h1 h2 v h3 h4 (hk _ _ h5)
 |eff h1 h2 h3=>exact .eff h1 h2 (h3.mono fun _ _ h=>hk _ _ h)
theorem wC {Q:Act→World→Prop} (hs:Region.noSelect ops=true) (hnb: ∀ x∈es,∀ y,y∈es∨y∈ps→x≠y→nS ops x y): ∀ (l:List Oper) (k:Nat) (L:Array Bool) (a:Act) (w:World),(∀ j,l[j]? =ops[k+j]?)→ClosedL ops L→
 Region.lexFrom .any ops l.length k L=true→wpE P ops es ps C Q l k a w→AnyE P ops es ps C Q l.length L a w
 | [],_,_,_,_,_,_,hB,h=>⟨h.1,by simpa [Region.lexFrom] using hB,h.2⟩
 |o::l,k,L,a,w,hl,hcl,hB,h=>by
  have h0:ops[k]? =some o:=by simpa using (hl 0).symm
  simp only [IU,Region.lexFrom,IX] at hB;obtain ⟨⟨hr,hf⟩,hB'⟩:=hB;have hr' :k∈Region.ready .any ops L:=by simpa using hr
  exact p7 h0 (Region.noSelect_spec hs) hnb l.length L a w hcl h.1 (Region.free_spec h0 hf) hr'
   (h.2.mono fun a' w' h' =>wC hs hnb l (k+1) _ _ _ (fun j=>by have:=hl (j+1);simpa [Kn,Kl 1 j] using this) (hcl.set hr') hB' h')
end
def dS (l:List Oper) (i j:Nat):Bool:=match l[j]? with
 |some o=>(kZ o).any fun q=>i9 l l.length q i
 |none=>false
def xP (l:List Oper) (es ps:List Nat):Bool:=es.all fun i=>(es++ps).all fun j=>Nat.beq i j||dS l i j||dS l j i
theorem nr {l:List Oper} {i j:Nat} {L:Array Bool} (h:dS l i j=true) (hcl:ClosedL l.toArray L) (hj:j∈Region.ready .any l.toArray L) (hi:i∈Region.ready .any l.toArray L):False:=by
 unfold dS at h;split at h
 ·rename_i o ho;obtain ⟨q,hq,hr⟩:=KO.1 h;obtain ⟨_,o',ho',hall⟩:=mem_ready.1 hj;rw [I0,ho] at ho';injection ho' with ho';subst ho';obtain ⟨e,he,hb,rfl⟩:=fJ.1 hq;have hd:L.getD e.on false=true:=hall e he hb
  have hi' :done L i=true:=iZ (D:=done L) (fun x y hx hy z hz=>by
   obtain ⟨e',he',hb',rfl⟩:=fJ.1 hz;exact hcl x y (by simpa using hx) hy e' he' hb') _ _ _ hr hd
  have h0:=(mem_ready.1 hi).1;unfold done at hi';rcases Kv i L.size with h' |h'
  ·simp [h'] at h0 hi';rw [h0] at hi';cases hi'
  ·simp [Kj h'] at hi'
 ·cases h
theorem xO {l:List Oper} {es ps:List Nat} (h:xP l es ps=true): ∀ x∈es,∀ y,y∈es∨y∈ps→x≠y→nS l.toArray x y:=by
 intro x hx y hy hne L hcl h1 h2;have h3:=JR.1 (JR.1 h x hx) y (IL.2 hy);simp only [Ka] at h3;rcases h3 with (h3|h3)|h3
 ·exact hne (I9 h3)
 ·exact nr h3 hcl h2 h1
 ·exact nr h3 hcl h1 h2
section
variable {P:Program} {n:Fr} {w0:World} {Q:aO} {s:au} {H S:List Blk} {l rest:List Oper} {ty:TypeId} {p:String} {af:Array Edge} {es ps:List Nat} {k:Nat} {gu:Option (Nat × Bool)}
def WC (P:Program) (n:Fr) (w0:World) (l:List Oper) (S:List Blk) (es ps:List Nat) (Q:aO) (rest:List Oper) (k:Nat) (s:au) (H:List Blk):Prop:=
 ∀ a w,St n s a→Mem w0 w H→Mem w0 w S→(∀ j,rest[j]? =l[k+j]?)→wpE P l.toArray es ps (fun w=>Mem w0 w S) (post n w0 Q .normal) rest k a w
theorem nI {id:Nat} (es ps:List Nat) (S:List Blk) (hm:P.follows .mixedOrders=true) (hB:Region.lexB .any l.toArray=true) (hch:xP l es ps=true) (hS:MSub S H)
 (h:WC P n w0 l S es ps Q l 0 s H):W P n w0 (.region id l.toArray true) Q s H:=by
 intro a w hs hmem;have hB' :=hB;simp only [Region.lexB,IX] at hB';refine wp_region_any hm (dG (es:=es) (ps:=ps) (C:=fun w=>Mem w0 w S) (Q:=post n w0 Q .normal) (fun _ _ h=>h) _ _ _ _ ?_);have hcl:ClosedL l.toArray (Array.replicate l.toArray.size false):=fun i o _ hi=>by
  rw [I4,K3] at hi;split at hi<;>cases hi
 have:=wC (P:=P) hB'.1 (xO hch) l.toArray.toList 0 (Array.replicate l.toArray.size false) a { w with drawn:=w.drawn+1 } (by simp) hcl (by simpa using hB'.2) (h a _ hs hmem.drew (hS.use hmem.drew) (by simp));simpa using this
theorem FJ (h:Q .normal s H):WC P n w0 l S es ps Q [] k s H:=fun a w hs hm hS _=>⟨hS,s,H,hs,hm,h⟩
theorem kX {op:Op} {d:Nat} {v:Value} (hn:Nat.blt d n.sz=true) (hg:gok l s gu=some true) (hk:es.contains k=false) (hv:VOp P w0 s S op ty v) (h:WC P n w0 l S es ps Q rest (k+1) ((d,v)::s) H):
 WC P n w0 l S es ps Q (⟨some d,op,ty,p,af,gu⟩::rest) k s H:=by
 intro a w hs hm hS hl;obtain ⟨h0,hl'⟩:=rF hl;refine ⟨hS,.quiet (fZ rfl hg hs) (by simpa using hk) v (hv a.eval w (some d) p af gu hs.eval hS) (.inr fun w1 h1=>hv a.eval w1 (some d) p af gu hs.eval h1) (h _ _ (hs.put (Jf ▸ hn) v) hm hS hl')⟩
theorem FK {op:Op} {dst:Option Tmp} {d:Nat} (hd:dst=some d) (hn:Nat.blt d n.sz=true) (hg:gok l s gu=some false) (h:WC P n w0 l S es ps Q rest (k+1) ((d,undef)::s) H):
 WC P n w0 l S es ps Q (⟨dst,op,ty,p,af,gu⟩::rest) k s H:=by
 subst hd;intro a w hs hm hS hl;obtain ⟨h0,hl'⟩:=rF hl;exact ⟨hS,.pass (fZ rfl hg hs) (h _ _ (hs.put (Jf ▸ hn) undef) hm hS hl')⟩
theorem zi {op:Op} {dst:Option Tmp} {j d:Nat} {cx b:Bool} (_hj:gd l j=some d) (hv:look s d=some (.bool b))
 (k1:b=true→WC P n w0 l S es ps Q (⟨dst,op,ty,p,af,some (j,cx)⟩::rest) k ((d,.bool true)::s) H)
 (k2:b=false→WC P n w0 l S es ps Q (⟨dst,op,ty,p,af,some (j,cx)⟩::rest) k ((d,.bool false)::s) H):
 WC P n w0 l S es ps Q (⟨dst,op,ty,p,af,some (j,cx)⟩::rest) k s H:=by
 intro a w hs hm hS hl
 cases b with
 |true=>exact k1 rfl a w (hs.shadow hv) hm hS hl
 |false=>exact k2 rfl a w (hs.shadow hv) hm hS hl
def ceP (S:List Blk) (K:au→List Blk→Prop):aO:=fun e s' H' =>e= .normal∧MSub S H' ∧K s' H'
theorem v6 {K:au→List Blk→Prop} (hS:MSub S H) (h:K s H):ceP S K .normal s H:=⟨rfl,hS,h⟩
theorem H8 {op:Op} {dst:Option Tmp} (hg:gok l s gu=some true) (hk:es.contains k=true) (h:WL P n w0 #[] [⟨dst,op,ty,p,af,none⟩] (ceP S (WC P n w0 l S es ps Q rest (k+1))) s H):
 WC P n w0 l S es ps Q (⟨dst,op,ty,p,af,gu⟩::rest) k s H:=by
 intro a w hs hm hS hl;obtain ⟨h0,hl'⟩:=rF hl;refine ⟨hS,.eff (fZ rfl hg hs) (by simpa using hk) ?_⟩;have h1:=h a w hs hm;unfold wpList at h1;simp only [Region.wanted,if_true] at h1;replace h1:=h1.elim id fun ⟨_,a0,w1,s',H'',_,_,he,_⟩=>by cases he
 have hexec:execOp a.eval ⟨dst,op,ty,p,af,gu⟩=execOp a.eval ⟨dst,op,ty,p,af,none⟩:=rfl;rw [hexec];have nxt: ∀ (a' :Act) (w' :World),wpList P #[] (post n w0 (ceP S (WC P n w0 l S es ps Q rest (k+1)))) [] a' w' →wpE P l.toArray es ps (fun w=>Mem w0 w S) (post n w0 Q .normal) rest (k+1) a' w' :=by
  rintro a' w' ⟨s',H',hs',hm',_,hSub,hK⟩;exact hK a' w' hs' hm' (hSub.use hm') hl'
 unfold Oper.wp at h1;generalize (execOp a.eval ⟨dst,op,ty,p,af,none⟩).run P w=r at h1 ⊢
 cases r with
 |ok x w' =>
  cases x<;>simp only [Oper.upon] at h1<;>simp only [NormUp]
  case value u=>exact nxt _ _ h1
  case skip=>exact nxt _ _ h1
  case defer dd=>
   obtain ⟨s',H'',hs',_⟩:=h1;have h2:=congrArg List.length (hs'.defers.trans hs.defers.symm);cases dst<;>simp [Act.put] at h2
  case enter f args=>
   refine h1.mono fun e w'' he=> ?_
   cases e with
   |returned v=>exact ⟨v,rfl,nxt _ _ he⟩
   |panicked c=>
    obtain ⟨s',H'',_,_,he',_⟩:=he;cases he'
   |outgrown=>
    obtain ⟨a0,w1,s',H'',_,_,he',_⟩:=he;cases he'
  case row f args=>exact Rows.mono h1 fun u w'' he=>nxt _ _ he
 |halt x w' =>
  cases x<;>simp only [Oper.upon] at h1
  all_goals
   obtain ⟨s',H'',_,_,he',_⟩:=h1;cases he'
end
end Go.SL
namespace Go.SL
open Go Go.Proofs
attribute [local irreducible] W WL WQ WG WA WX WLI WR WT WC VOp RW thn blk aW scp aJ aS bg FnAt FnIn FnP ceP
theorem Gi {L:List Rf} {k:Nat} (h:k<L.length):((L.flatMap az).drop (0+k*2)).take 2=az L[k]:=by
 rw [IG];exact dW bN L k h
structure Pu where
 col:Int
 row:Int
 input:ByteArray
def Dd (p:Pu):List Value:= [.int .i64 p.col,.int .i64 p.row,.string p.input]
theorem AK (p:Pu):(Dd p).length=3:=rfl
end Go.SL
namespace Go.SL
open Go Go.Proofs
theorem MSub.appL (R H1:List Blk):MSub R (R++H1):=⟨H1,.refl _⟩
theorem MSub.appR (R H1:List Blk):MSub R (H1++R):=⟨H1,I2⟩
attribute [local irreducible] W WL WQ WG WA WX WLI WR WT WC VOp RW thn blk aW scp aJ aS bg FnAt FnIn FnP ceP
end Go.SL
namespace Go.SL
open Go Go.Proofs
attribute [local irreducible] W WL WQ WG WA WX WLI WR WT WC VOp RW thn blk aW scp aJ aS bg FnAt FnP ceP
theorem FnIn.re {P:Program} {f:FuncId} {args:List Value} {w0:World} {H:List Blk} {R R' :Value→List Blk→Prop} (h:FnIn P f args w0 H R) (hr: ∀ v H,R v H→ ∃ H',MSub H' H∧R' v H'):FnIn P f args w0 H R' :=
 fun w hm=>Calls.mono (h w hm) fun _ _ ⟨v,H',h1,h2,h3⟩=>let ⟨H2,h4,h5⟩:=hr v H' h3;⟨v,H2,h1,h4.use h2,h5⟩
theorem MSub.of_perm {H H' :List Blk} (h:H'.Perm H):MSub H H' :=⟨[],by simpa using h⟩
end Go.SL
namespace Go.SL
open Go Go.Proofs Go.RowKit
section
variable {P:Program} {n:Fr} {w0:World} {Q:aO} {s:au} {H:List Blk} {ty:TypeId} {x y:Operand} {k:IntKind} {a b:Int} {t t' :TypeId}
theorem Hd (hx:ev s x=some (.int k a)) (hy:ev s y=some (.int k b)) (h:b≠0):VOp P w0 s H (.binOp .quo t x y t') ty (.int k (k.wrap (a.tdiv b))):=fun ρ w _ _ _ _ hρ _=>by
 simp [execOp,hρ x _ hx,hρ y _ hy,eqGuard,binOp,Op.intDiv,h]
theorem oo {c:Int} (hx:ev s x=some (.int k a)) (hy:ev s y=some (.int k b)) (h:b≠0) (hc:k.wrap (a.tdiv b)=c):VOp P w0 s H (.binOp .quo t x y t') ty (.int k c):=hc ▸ Hd hx hy h
end
attribute [local irreducible] W WL WQ WG WA WX WLI WR WT WC VOp RW thn blk aW scp aJ aS bg FnAt FnIn FnP ceP
end Go.SL
namespace Go.SL
open Go Go.RowKit
section
variable {P:Program} {n:Fr} {w0:World} {Q:aO} {s:au} {H:List Blk} {ty:TypeId} {p:String} {af:Array Edge} {rest:List Oper}
theorem db {d:Nat} {ops:Array Oper} {f:FuncId} {x:Operand} {name:String} {xs:List Operand} {T:TypeId} {rv rv' :Value} {vs:List Value} {ts:Array TypeId} {R:Value→List Blk→Prop} (hn:Nat.blt d n.sz=true) (hx:ev s x=some (.iface T rv)) (hxs:evs s xs=some vs)
 (hI: ∀ w,Mem w0 w H→(invoke (.fn (.method name) #[]) (Value.iface T rv::vs).toArray).run P w= .ok (.enter f (rv' ::vs).toArray) w)
 (hF:FnIn P f (rv' ::vs) w0 H R) (k: ∀ v H',R v H' →WL P n w0 ops rest Q ((d,v)::s) H'):
 WL P n w0 ops (⟨some d,.call { callee:= .invoke x name,args:=xs.toArray,argTypes:=ts },ty,p,af,none⟩::rest) Q s H:=by
 intro a w hs hm;refine wpList_plain rfl fun K hK=> ?_;have h1:a.eval x= .iface T rv:=hs.eval x _ hx;have h2:xs.map a.eval=vs:=ez hs hxs;have hr:(execOp a.eval ⟨some d,.call { callee:= .invoke x name,args:=xs.toArray,argTypes:=ts },ty,p,af,none⟩).run P w= .ok (.enter f (rv' ::vs).toArray) w:=by
  have h3:=hI w hm;simp only [execOp,resolve,Sem.run_bind,Sem.run_pure,Result.andThen_ok,h1,JU,h2,List.append_toArray,List.singleton_append];simpa using h3
 simp only [Oper.wp,hr,Oper.upon];refine (hF w hm).mono ?_;rintro e w' ⟨v,H',rfl,hm',hR⟩;exact hK _ _ (k v H' hR _ _ (hs.put (Jf ▸ hn) _) hm')
end
section
variable {P:Program} {w0:World} {s:au} {H:List Blk} {ty:TypeId}
theorem wO {t e hi m c sz:Nat} {A:Option Nat} {x q r:Operand} {k k' :IntKind} [ht:Und P t (.slice e)] [hz:Size P e sz] (hx:ev s x=some (sl A m c)) (hq:ev s q=some (.int k (hi:Nat))) (hr:ev s r=some (.int k' (hi:Nat))) (h2:hi≤c):
 VOp P w0 s H (.slice t x none (some q) (some r)) ty (sl A hi hi):=by
 unfold VOp;intro ρ w _ _ _ _ hρ _;obtain ⟨i,hi1,hi2⟩:=hz.out;have e2:((hi:Nat):Int)≤((c:Nat):Int):=by omega
 have e3:((0:Nat):Int)≤((hi:Nat):Int):=by omega
 have e4:(A.map fun g=>(⟨g,0,none⟩:Addr)).map (·.add 0)=A.map fun g=>⟨g,0,none⟩:=by cases A<;>simp [bA]
 unfold sl at hx ⊢;simp [execOp,hρ x _ hx,hρ q _ hq,hρ r _ hr,Instr.sliceAt,run_underlying ht.out,Instr.slice,Instr.sliceBounds,Instr.sliceBound,asIntOf,sizeOf,typeInfo,hi1,h2];intro _;cases A<;>simp [bA]
end
section
variable {P:Program} {n:Fr} {w0:World} {Q:aO} {s:au} {H:List Blk} {ty:TypeId} {p:String} {af:Array Edge} {rest:List Oper}
theorem kn {x:Operand} {t T:TypeId} {v:Value} {d:TypeDesc} [hd:Und P T d] (hni:(match d with| .interface _=>false|_=>true)=true) (hx:ev s x=some (.iface T v)):VOp P w0 s H (.typeAssert x t T false) ty v:=by
 unfold VOp;intro ρ w _ _ _ _ hρ _;cases d<;>simp_all [execOp,hρ x _ hx,Instr.typeAssert,run_underlying hd.out]
theorem wG {ops:Array Oper} {d:Nat} {op:Op} {g:Option (Nat × Bool)} {A:Option Nat} {t sz m cap:Nat} {xs:List Value} {R:List Blk} (hsel:Sel (.own A t sz m cap xs) H R) (k:Nat) (hk:k≤m)
 (h:WL P n w0 ops (⟨some d,op,ty,p,af,g⟩::rest) Q s (.own A t sz k cap (xs.take (k*sz))::R)):WL P n w0 ops (⟨some d,op,ty,p,af,g⟩::rest) Q s H:=fun a w hs hm=>h a w hs ((hm.sel hsel).shrink hk)
end
section
variable {P:Program} {n:Fr} {w0:World} {Q:aO} {s:au} {H:List Blk} {ty:TypeId} {p:String} {af:Array Edge} {rest:List Oper}
theorem aY {d:Nat} {ops:Array Oper} {f:FuncId} {x:Operand} {name:String} {xs:List Operand} {T:TypeId} {rv rv' v:Value} {vs:List Value} {ts:Array TypeId} (hn:Nat.blt d n.sz=true) (hx:ev s x=some (.iface T rv)) (hxs:evs s xs=some vs)
 (hI: ∀ w,Mem w0 w H→(invoke (.fn (.method name) #[]) (Value.iface T rv::vs).toArray).run P w= .ok (.enter f (rv' ::vs).toArray) w)
 (hF: ∀ w,Mem w0 w H→aC P f (rv' ::vs) w v) (k:WL P n w0 ops rest Q ((d,v)::s) H):
 WL P n w0 ops (⟨some d,.call { callee:= .invoke x name,args:=xs.toArray,argTypes:=ts },ty,p,af,none⟩::rest) Q s H:=
 db hn hx hxs hI (R:=fun u H' =>u=v∧H' =H) (fun w hm=>Calls.mono (hF w hm) fun _ _ ⟨u,_,h1,h2,h3⟩=>⟨u,H,h1,(hm.call h2).right,h3,rfl⟩) fun u H' ⟨h1,h2⟩=>by
  subst h1;subst h2;exact k
end
end Go.SL
