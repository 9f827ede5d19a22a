/-
  Lemmas and walks, put together: Sl8 Sl9 Sl10 Sl11 Sl12 Sl13.
-/
import Derived.Laws.Slices
import Derived.Test.YthefeclkaaocnaaGreatDoorKl03
set_option linter.unusedSimpArgs false
set_option linter.unusedVariables false
set_option maxRecDepth 20000
namespace Go.SL
open Go Go.RowKit
def iE (l:List Oper):Nat→Nat→Nat→Bool
 |0,j,k=>Nat.beq j k
 |f+1,j,k=>Nat.beq j k||match l[j]? with
  |none=>false
  |some x=>(kM x).any fun i=>iE l f i k
theorem iD {l:List Oper} {D:fE} (hc: ∀ i x,l[i]? =some x→D i=true→ ∀ j∈kM x,D j=true): ∀ (f j k:Nat),iE l f j k=true→D j=true→D k=true
 |0,j,k,h,hj=>by
  have:=Mf h
  subst this
  exact hj
 |f+1,j,k,h,hj=>by
  simp only [iE,Nt] at h
  rcases h with h|h
  ·
   have:=Mf h
   subst this
   exact hj
  ·
   cases hx:l[j]? with
   |none=>rw [hx] at h;cases h
   |some x=>
    rw [hx] at h
    obtain ⟨i,hi,hr⟩:=List.any_eq_true.1 h
    exact iD hc f i k hr (hc j x hx hj i hi)
section
variable {P:Program} {n:Fr} {w0:World} {Q:bI} {K:az→Prop} {s:az} {H H1:List Blk} {l rest:List Oper} {k j f:Nat} {ty:TypeId} {p:String} {af:Array Edge}
theorem Turn.late {o:Oper} {D:fE} (ht:Turn l k o D) (h:iE l f j k=true):D j=false:=by
 cases hD:D j
 ·
  rfl
 ·
  have:=iD ht.closed f j k h hD
  rw [ht.not] at this
  cases this
theorem lK {id:Nat} (j:Nat) (H1:List Blk) (hm:P.follows .mixedOrders=true) (hB:Region.lexB .any l.toArray=true) (hj:Nat.blt j l.length=true)
  (h:WG P n w0 l (fun D=>if D j then H1 else H) (fun s' =>Q .normal s' H1) l 0 s):W P n w0 (.region id l.toArray true) Q s H:=by
 refine qe (fun D=>if D j then H1 else H) hm hB (by simp only [MG,if_false];exact .refl _) fun a hs hl=> ?_
 have mono: ∀ (r:List Oper) (k:Nat) (a:Act) (K K' :Act→Prop),(∀ a,K a→K' a)→wpG P .any l.toArray (Cls w0 l fun D=>if D j then H1 else H) K r k a→wpG P .any l.toArray (Cls w0 l fun D=>if D j then H1 else H) K' r k a:=by
  intro r
  induction r with
  |nil=>intro k a K K' hk h;exact hk _ h
  |cons o r ih=>
   rintro k a K K' hk ⟨v,h1,h2⟩
   exact ⟨v,h1,ih _ _ K K' hk h2⟩
 refine mono _ _ _ _ _ ?_ (h a hs hl)
 rintro a' ⟨s',h2,h3⟩
 refine ⟨s',h2,fun D hD=> ?_⟩
 rw [if_pos (hD j (Mt ▸ hj))]
 exact h3
theorem w5 {op:Op} {d:Nat} {v:Value} (hn:Nat.blt d n.sz=true) (hr:iE l f j k=true) (hne:Nat.beq j k=false) (hv:VOp P w0 s H op ty v) (h:WG P n w0 l (fun D=>if D j then H1 else H) K rest (k+1) ((d,v)::s)):
  WG P n w0 l (fun D=>if D j then H1 else H) K (⟨some d,op,ty,p,af,none⟩::rest) k s:=by
 refine Df hn (fun D ht=> ?_) (fun D=> ?_) h
 ·
  rw [ht.late hr]
  exact hv
 ·
  have:put D k j=D j:=by
   unfold put
   rw [if_neg]
   intro e
   subst e
   rw [Nat.beq_refl] at hne
   cases hne
  simp only [this]
theorem qB {d t e n' c m c' sz by_:Nat} {a2:Addr} {A:Option Nat} {x y:Operand} {xs news:List Value} {R:List Blk} {ops:Array Oper} [ht:Und P t (.slice e)] [he:Elem P e sz by_] (hn:Nat.blt d n.sz=true)
  (hx:ev s x=some (sl A n' c)) (hy:ev s y=some (.slice (some a2) m c')) (hsel:Sel (.own A e sz n' c xs) H R)
  (hnews: ∀ w,Mem w0 w H→ ∀ j u,news[j]? =some u→w.cell? (a2.add j)=some u) (hl:news.length=m*sz) (h1: ∀ u∈news,u.oneCell' =true) (hby:(n' +m)*by_≤140737488355328) (h63:n' +m≤maxLen)
  (k: ∀ A' cap',(0<n' +m→ ∃ g,A' =some g)→WL P n w0 ops rest Q ((d,sl A' (n' +m) cap')::s) (.own A' e sz (n' +m) cap' (xs++news)::R)):
  WL P n w0 ops (⟨some d,.call { callee:= .builtin .append,args:= #[x,y],argTypes:= #[t,t] },ty,p,af,none⟩::rest) Q s H:=by
 intro a w hs hm
 have hm' :=hm.sel hsel
 obtain ⟨i,z,i1,i2,i3,i4,i5,i6⟩:=he.out
 have hb:=(hm'.on _ LI)
 have hown:w.ownsRow w0.heap.size e sz (sl A n' c) n' xs:=by
  obtain ⟨⟨b1,b2,b3,b4⟩,b5⟩:=hb
  refine ⟨b1,?_⟩
  cases A with
  |none=>obtain ⟨rfl,rfl⟩:=b4;exact .inl ⟨rfl,rfl⟩
  |some g=>
   obtain ⟨junk,j1,j2⟩:=b4
   refine .inr ⟨g,c,_,rfl,b5 g rfl,j2,b2,b3,by simpa using j1,?_⟩
   simp only [NF]
   rw [← b1,List.take_left]
 obtain ⟨v',w',hr,h2,h3,h4,h5⟩:=run_append_own_at (P:=P) w w0.heap.size t ty e i z sz by_ ht.out i1 i4 i2 i3 i5 i6 (sl A n' c) n' xs hown a2 m c' news hl
  (hnews w hm) h1 h63 hby hm.below.size
 have hsh: ∃ A' cap',v' =sl A' (n' +m) cap' ∧(Blk.own A' e sz (n' +m) cap' (xs++news)).on w' ∧(0<n' +m→ ∃ g,A' =some g):=by
  obtain ⟨q1,q2⟩:=h2
  rcases q2 with ⟨rfl,q3⟩|⟨g,cap,cur,rfl,_,q4,q5,q6,q7,q8⟩
  ·
   refine ⟨none,0,by rw [q3];rfl,⟨q1,by omega,LS _,q3,rfl⟩,fun h=>by omega⟩
  ·
   refine ⟨some g,cap,rfl,⟨q1,q5,q6,cur.toList.drop ((n' +m)*sz),?_,?_⟩,fun _=>⟨g,rfl⟩⟩
   ·
    rw [← q8,MA];simpa using q7
   ·
    rw [← q8,MA];simpa using q4
 obtain ⟨A',cap',rfl,hon,hsome⟩:=hsh
 refine wpList_plain rfl fun K hK=> ?_
 unfold Oper.wp execOp
 simp only [resolve,invoke,builtin,Sem.run_bind,Sem.run_pure,Result.andThen_ok,M9,Mh,MX,hs.eval x _ hx,hs.eval y _ hy,hr,Oper.upon]
 have hkey: ∀ (B:Option Nat) (q r:Nat),(sl B q r).ownBlock=B:=fun B q r=>by cases B<;>rfl
 rw [hkey] at h3
 refine hK _ _ (k A' cap' hsome _ _ (hs.put (Mt ▸ hn) _) (hm'.upd h3 hon fun j hj=> ?_))
 rw [hkey,hkey] at h5
 simp only [Blk.key] at hj ⊢
 rcases h5 with h5|h5
 ·
  left;rw [← h5];exact hj
 ·
  right;rw [h5] at hj;injection hj with hj;omega
theorem pV (w:World) (t ty e:TypeId) (i:TypeInfo) (ht:P.underlying t=some (.slice e)) (hi:P.info? e=some i) (B:Option Addr) (m c c' :Nat) (h:m≤c):
  (Builtin.append_ #[t,t] ty #[.slice B m c,.slice none 0 c']).run P w= .ok (.slice B m c) w:=by
 cases B<;>simp [Builtin.append_,run_underlying ht,sizeOf,typeInfo,hi,Builtin.lenOf,Builtin.firstCells,h,storeCells]
theorem cy {d t e n' c m sz by_:Nat} {A:Option Nat} {x y:Operand} {yv:Value} {xs news:List Value} {R:List Blk} {ops:Array Oper} [ht:Und P t (.slice e)] [he:Elem P e sz by_] (hn:Nat.blt d n.sz=true)
  (hx:ev s x=some (sl A n' c)) (hy:ev s y=some yv) (hsel:Sel (.own A e sz n' c xs) H R)
  (hnews: ∀ w,Mem w0 w H→Reads w yv m news) (hl:news.length=m*sz) (h1: ∀ u∈news,u.oneCell' =true) (hby:(n' +m)*by_≤140737488355328) (h63:n' +m≤maxLen)
  (k: ∀ A' cap',(0<m→ ∃ g,A' =some g)→WL P n w0 ops rest Q ((d,sl A' (n' +m) cap')::s) (.own A' e sz (n' +m) cap' (xs++news)::R)):
  WL P n w0 ops (⟨some d,.call { callee:= .builtin .append,args:= #[x,y],argTypes:= #[t,t] },ty,p,af,none⟩::rest) Q s H:=by
 intro a w hs hm
 have hm' :=hm.sel hsel
 have hb:=(hm'.on _ LI).1
 obtain ⟨B,c',rfl,h2,h3,h4⟩:=hnews w hm
 by_cases h0:m=0
 ·
  subst h0
  have hnil:news= []:=Me (by simpa using hl)
  subst hnil
  cases B with
  |some a2=>exact qB hn hx hy hsel (fun w hm j u hu=>by simp at hu) hl h1 hby h63 (fun A' cap' hA=>k A' cap' (fun h=>by omega)) a w hs hm
  |none=>
   obtain ⟨i,z,i1,i2,i3,i4,i5,i6⟩:=he.out
   have hr:=pV (P:=P) w t ty e i ht.out i1 (A.map fun g=>⟨g,0,none⟩) n' c c' hb.2.1
   refine wpList_plain rfl fun K hK=> ?_
   unfold Oper.wp execOp
   simp only [resolve,invoke,builtin,Sem.run_bind,Sem.run_pure,Result.andThen_ok,M9,Mh,MX,hs.eval x _ hx,hs.eval y _ hy,sl,hr,Oper.upon]
   refine hK _ _ (k A c (fun h=>by omega) _ _ (hs.put (Mt ▸ hn) _) ?_)
   simpa using hm'
 ·
  obtain ⟨g,o,rfl,hro⟩:=h4 (by omega)
  exact cI hn hx hy hsel (fun w' hm2=>by
   obtain ⟨B,c'',e1,e2,e3,e4⟩:=hnews w' hm2
   obtain ⟨g',o',e5,hro'⟩:=e4 (by omega)
   injection e1 with e1 e1' e1''
   subst e1
   injection e5 with e5
   injection e5 with e5 e6
   subst e5;subst e6
   exact hro'.cells) hl h1 hby h63 (fun A' cap' hA=>k A' cap' (fun h=>hA (by omega))) a w hs hm
end
theorem Dr {P:Program} {w0:World} {s:az} {H:List Blk} {ty t hi:Nat} {a:ByteArray} {x q:Operand} {k:IntKind} [ht:Und P t .string] (hx:ev s x=some (.string a)) (hq:ev s q=some (.int k (hi:Nat))) (h2:hi≤a.size):
  VOp P w0 s H (.slice t x none (some q) none) ty (.string (a.extract 0 hi)):=fun ρ w _ _ _ _ hρ _=>by
 have e2:((hi:Nat):Int)≤((a.size:Nat):Int):=by omega
 simp [execOp,hρ x _ hx,hρ q _ hq,Instr.sliceAt,run_underlying ht.out,Instr.slice,Instr.sliceBounds,Instr.sliceBound,asIntOf,h2]
section
variable {P:Program} {n:Fr} {w0:World} {Q:bI} {s:az} {H:List Blk} {rest:List Oper} {ty:TypeId} {p:String} {af:Array Edge}
theorem kO {x ix:Operand} {t e m j:Nat} {xs:List Value} {v:Value} {k:IntKind} [ht:Und P t (.array m e)] [he:One P e] [hz:Size P e 1] (hx:ev s x=some (.agg xs.toArray)) (hi:ev s ix=some (.int k (j:Nat))) (hj:j<m) (hv:xs[j]? =some v):
  VOp P w0 s H (.index t x ix) ty v:=fun ρ w _ _ _ _ hρ _=>by
 obtain ⟨i,h1,h2⟩:=hz.out
 obtain ⟨d,h3,h4⟩:=he.out
 have h0:(0:Int)≤(j:Int):=by omega
 have hj' :((j:Nat):Int)<((m:Nat):Int):=by omega
 simp only [execOp,hρ x _ hx,hρ ix _ hi,Instr.index,asIntOf,run_underlying ht.out,sizeOf,typeInfo,part,isAgg,run_underlying h3,Sem.run_bind,Sem.run_pure,Result.andThen_ok,h0,hj',and_self,if_true,h1,h2,MY,Ni,Mr,hv]
 cases d<;>simp_all
theorem w9 {x:Operand} {t e m g o sz:Nat} [ht:Und P t (.array m e)] [hz:Size P e sz] (hx:ev s x=some (.pointer (some ⟨g,o,none⟩))):
  VOp P w0 s H (.slice t x none none none) ty (.slice (some ⟨g,o,none⟩) m m):=fun ρ w _ _ _ _ hρ _=>by
 obtain ⟨i,h1,h2⟩:=hz.out
 have ha:(⟨g,o,none⟩:Addr).add 0=⟨g,o,none⟩:=by rw [cw];simp
 simp [execOp,hρ x _ hx,Instr.sliceAt,run_underlying ht.out,Instr.sliceBounds,Instr.sureAddr,sizeOf,typeInfo,h1,ha]
theorem wY {d t e m:Nat} {ps:List (Nat × Operand)} {vs xs zs:List Value} {ops:Array Oper} [ht:Und P t (.array m e)] [he:Size P e 1] [hz:ZeroC P t zs] (hn:Nat.blt d n.sz=true) (hps:evd s ps 0=some vs)
  (hl:Nat.beq vs.length zs.length=true) (h1:vs.all (fun v=>Nat.beq v.cells.size 1)=true) (hx:pY (mQ vs)=some xs) (k:WL P n w0 ops rest Q ((d,.agg xs.toArray)::s) H):
  WL P n w0 ops (⟨some d,.build t ps.toArray,ty,p,af,none⟩::rest) Q s H:=by
 refine qd rfl d rfl hn (fun a w hs hm=> ?_) k
 obtain ⟨it,z,i1,i2,i3⟩:=hz.out
 obtain ⟨ie,j1,j2⟩:=he.out
 have hall: ∀ v∈vs,v.cells.size=1:=by
  intro v hv
  exact Mf (MJ.1 h1 v hv)
 have hlen:=Mf hl
 have hfill:=Great.fill_whole (s:=1) (by omega) vs z.cells hall (by rw [i3];simp [hlen])
 rw [← qt hs hps] at hfill
 have hb:P.built t (ps.map fun (x:Nat × Operand)=>(x.1,a.eval x.2))=some (mQ vs).toArray:=by
  unfold Program.built
  simp only [i1,ht.out,i2,j1,j2]
  exact hfill
 have hr:=run_build (P:=P) w t (ps.map fun (x:Nat × Operand)=>(x.1,a.eval x.2)).toArray (mQ vs).toArray (by simpa using hb)
 rw [gM hx]
 simp only [execOp,M9]
 simp only [Sem.run_bind,hr,Result.andThen_ok,Sem.run_pure]
theorem ug {x:Operand} {t t' :TypeId} {k k' :IntKind} {a c:Int} {d:TypeDesc} [hs:Und P t d] [hd:Und P t' (.int k')] (hx:ev s x=some (.int k a)) (hw:k'.wrap a=c):VOp P w0 s H (.convert t t' x) ty (.int k' c):=by
 have h:=zZ (P:=P) (w0:=w0) (H:=H) (ty:=ty) (t:=t) (t' :=t') hx
 rwa [hw] at h
theorem dA {x y:Operand} {k:IntKind} {a b c:Int} {t t' :TypeId} (hx:ev s x=some (.int k a)) (hy:ev s y=some (.int k b)) (hw:k.wrap (a+b)=c):VOp P w0 s H (.binOp .add t x y t') ty (.int k c):=by
 have h:=qO (P:=P) (w0:=w0) (H:=H) (ty:=ty) (t:=t) (t' :=t') hx hy
 rwa [hw] at h
theorem df {x y:Operand} {k:IntKind} {a b c:Int} {t t' :TypeId} (hx:ev s x=some (.int k a)) (hy:ev s y=some (.int k b)) (hw:k.wrap (a - b)=c):VOp P w0 s H (.binOp .sub t x y t') ty (.int k c):=by
 have h:=JR (P:=P) (w0:=w0) (H:=H) (ty:=ty) (t:=t) (t' :=t') hx hy
 rwa [hw] at h
theorem kP {x y:Operand} {a b:ByteArray} {t t' :TypeId} (hx:ev s x=some (.string a)) (hy:ev s y=some (.string b)) (h:a=b):VOp P w0 s H (.binOp .eql t x y t') ty (.bool true):=by
 have h1:=vH (P:=P) (w0:=w0) (H:=H) (ty:=ty) (t:=t) (t' :=t') hx hy
 rwa [decide_eq_true h] at h1
theorem dz {x y:Operand} {a b:ByteArray} {t t' :TypeId} (hx:ev s x=some (.string a)) (hy:ev s y=some (.string b)) (h:a≠b):VOp P w0 s H (.binOp .eql t x y t') ty (.bool false):=by
 have h1:=vH (P:=P) (w0:=w0) (H:=H) (ty:=ty) (t:=t) (t' :=t') hx hy
 rwa [decide_eq_false h] at h1
theorem dQ {a:Int} (h1:0≤a) (h2:a≤255):IntKind.u8.wrap a=a:=by
 simp [IntKind.wrap,IntKind.bits,IntKind.signed]<;>omega
theorem Reads.of_box {w:World} {g t:Nat} {xs:List Value} (hm:Mem w0 w H) (hi:In (.box g t xs) H) (hl:Nat.ble xs.length maxLen=true):Reads w (.slice (some ⟨g,0,none⟩) xs.length xs.length) xs.length xs:=by
 have h1:=hm.cells_box hi
 refine ⟨_,xs.length,rfl,LK _,by simpa using hl,fun _=>⟨g,0,rfl,?_,h1⟩⟩
 have h2:=(hm.on _ hi.mem).1
 simp only [Blk.on] at h2
 exact (Mb.1 h2).1
end
section
variable {P:Program} {n:Fr} {w0:World} {Q:bI} {s:az} {H:List Blk} {l:List Oper} {f:Nat} {L:Array Bool}
theorem Cf {i:Nat} {o:Oper} (hi:l[i]? =some o) (h:WL P n w0 l.toArray [o] (thn (WA P n w0 l Q f (L.setIfInBounds i true)) Q) s H) (a:Act) (w:World) (hs:St n s a) (hm:Mem w0 w H):
  wpOp P l.toArray (post n w0 Q) i (wpAny P .any l.toArray (post n w0 Q) f (L.setIfInBounds i true)) a w:=by
 have h1:=h a w hs hm
 have hi' :l.toArray[i]? =some o:=by simpa using hi
 unfold wpOp
 simp only [hi']
 unfold wpList at h1
 have hnext: ∀ a w,wpList P l.toArray (post n w0 (thn (WA P n w0 l Q f (L.setIfInBounds i true)) Q)) [] a w→wpAny P .any l.toArray (post n w0 Q) f (L.setIfInBounds i true) a w:=by
  rintro a w ⟨s',H',h1,h2,h3⟩
  exact h3 a w h1 h2
 split
 ·
  rename_i hw
  rw [if_pos hw] at h1
  refine h1.imp (fun h2=>uh hnext (fun c a w h=>h) (fun a w h=>h) h2) fun ⟨h2,a0,w0,h3⟩=>⟨h2,a0,w0,h3⟩
 ·
  rename_i hw
  rw [if_neg hw] at h1
  exact hnext _ _ h1
theorem cF {i j:Nat} {oi oj:Oper} (hi:l[i]? =some oi) (hj:l[j]? =some oj) (hr:Region.ready .any l.toArray L= [i,j]) (h1:WL P n w0 l.toArray [oi] (thn (WA P n w0 l Q f (L.setIfInBounds i true)) Q) s H)
  (h2:WL P n w0 l.toArray [oj] (thn (WA P n w0 l Q f (L.setIfInBounds j true)) Q) s H):WA P n w0 l Q (f+1) L s H:=by
 intro a w hs hm
 refine ⟨fun h0=>(by rw [hr] at h0;cases h0),fun k hk=> ?_⟩
 rw [hr] at hk
 rcases L7.1 hk with e|hk
 ·
  subst e
  exact Cf hi h1 a w hs hm
 ·
  have e:k=j:=by simpa using hk
  subst e
  exact Cf hj h2 a w hs hm
end
def yH (s:az):List Nat→Option az
 | []=>some []
 |t::r=>match look s t,yH s r with
  |some v,some s' =>some ((t,v)::s')
  |_,_=>none
theorem yG {s:az}: ∀ {ts:List Nat} {s' :az},yH s ts=some s' →Sub s' s
 | [],s',h=>by simp only [yH,Option.some.injEq] at h;subst h;exact Sub.nil s
 |t::r,s',h=>by
  simp only [yH] at h
  split at h
  ·
   rename_i v s1 hv hs
   simp only [Option.some.injEq] at h
   subst h
   exact Sub.cons hv (yG hs)
  ·
   cases h
theorem yz (r b:az) (u:Nat):look (r++b) u=(match look r u with|some v=>some v|none=>look b u):=by
 induction r with
 |nil=>rfl
 |cons y r ih=>
  obtain ⟨p,q⟩:=y
  rw [LD,gD,gD,ih]
  split<;>rfl
theorem Sub.append {a b s:az} (ha:Sub a s) (hb:Sub b s):Sub (a++b) s:=by
 intro u z hu
 rw [yz] at hu
 split at hu
 ·
  rename_i v hv
  rw [← hu]
  exact ha u v hv
 ·
  exact hb u z hu
def bS {ι:Type} (sI:ι→az) (HI:ι→List Blk) (ok:ι→Prop) (Q:bI):bI
 | .normal,s,H=> ∃ i,ok i∧Sub (sI i) s∧MSub (HI i) H
 |e,s,H=>Q e s H
section
variable {P:Program} {n:Fr} {w0:World} {Q:bI} {s sb:az} {H:List Blk} {ι:Type} {sI:ι→az} {HI:ι→List Blk} {ok:ι→Prop} {id:Nat}
theorem cu (i:ι) (ho:ok i) (hs:Sub (sI i) s) (hH:MSub (HI i) H):bS sI HI ok Q .normal s H:=⟨i,ho,hs,hH⟩
theorem mC {x z:Code} (sI:ι→az) (HI:ι→List Blk) (ok:ι→Prop) (h:W P n w0 x (bS sI HI ok Q) s H) (k: ∀ i,ok i→W P n w0 z Q (sI i) (HI i)):
  W P n w0 x (thn (W P n w0 z Q) Q) s H:=by
 refine E4 (fun e s' H' hq=> ?_) h
 cases e with
 |normal=>
  obtain ⟨i,ho,h1,h2⟩:=hq
  exact Ky h1 (JL h2 (k i ho))
 |_=>exact hq
theorem JN {c:Operand} {x y z:Code} (ts:List Nat) (hk:yH s ts=some sb) (h:W P n w0 (.cond c x y) (bS (fun _:Unit=>sb) (fun _=>H) (fun _=>True) Q) s H) (k:W P n w0 z Q sb H):
  W P n w0 (.cond c x y) (thn (W P n w0 z Q) Q) s H:=
 mC _ _ _ h fun _ _=>k
theorem ax {c:Code} (ts:List Nat) (hk:yH s ts=some sb) (sI:ι→az) (HI:ι→List Blk) (ok:ι→Prop) (μ:ι→Nat) (i0:ι) (h0:ok i0) (hs0:Sub (sI i0) s) (hH0:MSub (HI i0) H)
  (round: ∀ i,ok i→W P n w0 c (thn (fun s' H' => ∃ i',ok i' ∧μ i' <μ i∧Sub (sI i') s' ∧Sub sb s' ∧MSub (HI i') H') Q) (sI i++sb) (HI i)):W P n w0 (.loop c) Q s H:=by
 refine eM (fun i=>sI i++sb) HI ok μ i0 h0 (hs0.append (yG hk)) hH0 fun i hi=>E4 (fun e s' H' hq=> ?_) (round i hi)
 cases e with
 |normal=>
  obtain ⟨i',h1,h2,h3,h4,h5⟩:=hq
  exact ⟨i',h1,h2,h3.append h4,h5⟩
 |_=>exact hq
theorem Ca {ops:Array Oper} {rest:List Oper} {A:Option Nat} {t sz m cap:Nat} {xs:List Value} (hi:In (.own A t sz m cap xs) H) (hm:0<m) (h: ∀ g,A=some g→WL P n w0 ops rest Q s H):WL P n w0 ops rest Q s H:=fun a w hs hmem=>by
 obtain ⟨_,_,_,h4⟩:=(hmem.on _ hi.mem).1
 cases A with
 |none=>obtain ⟨rfl,_⟩:=h4;omega
 |some g=>exact h g rfl a w hs hmem
end
theorem Ro.cellV {w:World} {g o:Nat} {xs:List Value} (h:Ro w g o xs) (i:Nat) {v:Value} (hi:xs[i]? =some v):Ro w g (o+i*1) [v]:=by
 obtain ⟨hlt,he⟩:=LV.1 hi
 have h1:=(h.drop (k:=i)).take (k:=1)
 rw [LJ hlt,he] at h1
 rw [Ni]
 exact h1
theorem qI {P:Program} {w0:World} {s:az} {H:List Blk} {ty t t' :TypeId} {x y:Operand} {k:IntKind} {a:Int} (hx:ev s x=some (.int k a)) (hy:ev s y=some (.int k a)):VOp P w0 s H (.binOp .neq t x y t') ty (.bool false):=by
 have h:=Jr (P:=P) (w0:=w0) (H:=H) (ty:=ty) (t:=t) (t' :=t') hx hy
 rwa [decide_eq_false (by simp)] at h
section
variable {α:Type} {enc:α→List Value} {w0:World}
def LB (enc:α→List Value) (w0:World) (F:List Blk) (vals:List Value) (Ts:List (List α)):Prop:=
 vals.length=Ts.length∧ ∀ (j:Nat) (x:Value) (T:List α),vals[j]? =some x→Ts[j]? =some T→ ∀ w,Mem w0 w F→Reads w x T.length (T.flatMap enc)
end
theorem iZ {α:Type} {enc:α→List Value} {m:Nat} {P:Program} {w0:World} {s:az} {H:List Blk} {ty:TypeId} {x:Operand} {t T g n' c sz i k:Nat} {L:List α} {a:α} {v:Value} [One P t] (henc: ∀ a,(enc a).length=m) (hx:ev s x=some (.pointer (some ⟨g,0+i*m+k,none⟩))) (hi:In (.own (some g) T sz n' c (L.flatMap enc)) H) (hk:k<m) (ha:L[i]? =some a) (hv:(enc a)[k]? =some v):
  VOp P w0 s H (.load t x) ty v:=by
 obtain ⟨hlt,rfl⟩:=LV.1 ha
 rw [LZ] at hx
 exact bU hx hi (by rw [uJ henc L i k hlt hk];exact hv)
theorem Er {P:Program} {f:FuncId} {args:Array Value} {w:World} {u v:Value} {A B:World→Prop} (hi:P.inits.idxOf? f=none) (h1:Calls P f args w fun e w' =>e= .returned u∧A w') (h2:Calls P f args w fun e w' =>e= .returned v∧B w'):u=v:=by
 obtain ⟨e1,w1,fr1,⟨rfl,_⟩,⟨n1,s1⟩,f1,l1⟩:=h1 []
 obtain ⟨e2,w2,fr2,⟨rfl,_⟩,⟨n2,s2⟩,f2,l2⟩:=h2 []
 have d1:=step_leave_done l1 (by rw [f1];exact hi)
 have d2:=step_leave_done l2 (by rw [f2];exact hi)
 have key: ∀ (a b:Nat) (m x y:Machine) (o:Outcome) (w:World),a≤b→runN P a m= .next x→runN P b m= .next y→step P x= .ended o w→x=y:=by
  intro a b m x y o w hab hx hy hd
  obtain ⟨c,rfl⟩:=Nat.exists_eq_add_of_le hab
  rw [runN_add,hx] at hy
  cases c with
  |zero=>simp only [runN,Stepped.next.injEq] at hy;exact hy
  |succ c=>simp [runN,hd] at hy
 have hm:lone fr1 [] w1=lone fr2 [] w2:=by
  rcases Nat.le_total n1 n2 with h|h
  ·
   exact key _ _ _ _ _ _ _ h s1 s2 d1
  ·
   exact (key _ _ _ _ _ _ _ h s2 s1 d2).symm
 rw [hm,d2] at d1
 simp only [Stepped.ended.injEq,Outcome.done.injEq] at d1
 exact d1.1.symm
abbrev Gh:=Option Nat × Nat
def upd (γ:Nat→Gh) (k:Nat) (g:Gh):Nat→Gh:=fun i=>if i=k then g else γ i
section
variable {P:Program} {ops:Array Oper} {md:Region.Mode}
def CZ (P:Program) (D:World→Prop) (v:Value):Result Next→Prop
 | .ok (.value u) w' =>u=v∧D w'
 | .ok .skip w' =>v=undef∧D w'
 | .ok (.enter f args) w' =>P.inits.idxOf? f=none∧Calls P f args w' fun e w'' =>e= .returned v∧D w''
 |_=>False
def sU (P:Program) (φ:Gh→Value) (D:Gh→World→Prop):Result Next→Prop
 | .ok (.value u) w' => ∃ g,u=φ g∧D g w'
 | .ok .skip w' => ∃ g,undef=φ g∧D g w'
 | .ok (.enter f args) w' =>Calls P f args w' fun e w'' => ∃ g,e= .returned (φ g)∧D g w''
 | .ok (.row row args) w' =>Rows P row args w' fun u w'' => ∃ g,u=φ g∧D g w''
 |_=>False
variable (V:Nat→Option (Gh→Value)) (C:(Nat→Gh)→Array Bool→World→Prop)
inductive GX (P:Program) (md:Region.Mode) (ops:Array Oper) (V:Nat→Option (Gh→Value)) (C:(Nat→Gh)→Array Bool→World→Prop) (γ:Nat→Gh) (i:Nat) (o:Oper) (v:Value) (a:Act):Prop
 |pass (hw:Region.wanted o (yielded ops a.tmps)=false) (hv:v=undef) (hC: ∀ L w,i∈Region.ready md ops L→C γ L w→C γ (L.setIfInBounds i true) w)
 |det (hw:Region.wanted o (yielded ops a.tmps)=true) (hV:V i=none) (hC: ∀ L w,i∈Region.ready md ops L→C γ L w→CZ P (C γ (L.setIfInBounds i true)) v ((execOp a.eval o).run P w))
 |non (hw:Region.wanted o (yielded ops a.tmps)=true) (φ:Gh→Value) (hV:V i=some φ) (hv:v=φ (γ i)) (hC: ∀ L w,i∈Region.ready md ops L→C γ L w→sU P φ (fun g=>C (upd γ i g) (L.setIfInBounds i true)) ((execOp a.eval o).run P w))
variable {V C}
theorem GX.of_same {γ:Nat→Gh} {i:Nat} {o:Oper} {v:Value} {a a' :Act} (hy:GX P md ops V C γ i o v a) (he:execOp a'.eval o=execOp a.eval o)
  (hw:Region.wanted o (yielded ops a'.tmps)=Region.wanted o (yielded ops a.tmps)):GX P md ops V C γ i o v a' :=by
 cases hy with
 |pass h1 h2 h3=>exact .pass (hw.trans h1) h2 h3
 |det h1 h2 h3=>exact .det (hw.trans h1) h2 (by rw [he];exact h3)
 |non h1 φ h2 h3 h4=>exact .non (hw.trans h1) φ h2 h3 (by rw [he];exact h4)
def xOp (P:Program) (md:Region.Mode) (ops:Array Oper) (V:Nat→Option (Gh→Value)) (C:(Nat→Gh)→Array Bool→World→Prop) (γ:Nat→Gh) (i:Nat) (K:Act→Prop) (a:Act):Prop:=
 ∃ o v,ops[i]? =some o∧GX P md ops V C γ i o v a∧K (a.put o.dst v)
def zG (P:Program) (md:Region.Mode) (ops:Array Oper) (V:Nat→Option (Gh→Value)) (C:(Nat→Gh)→Array Bool→World→Prop) (γ:Nat→Gh) (Q:Act→Prop):Nat→Array Bool→Act→Prop
 |0,L,a=>Region.ready md ops L= []∧Q a
 |f+1,L,a=>(Region.ready md ops L= []→Q a)∧ ∀ i∈Region.ready md ops L,xOp P md ops V C γ i (zG P md ops V C γ Q f (L.setIfInBounds i true)) a
theorem EJ {γ:Nat→Gh} {i:Nat} {a:Act} {K K' :Act→Prop} (h: ∀ a,K a→K' a) (hh:xOp P md ops V C γ i K a):xOp P md ops V C γ i K' a:=
 let ⟨o,v,h1,h2,h3⟩:=hh
 ⟨o,v,h1,h2,h _ h3⟩
theorem Hr {γ:Nat→Gh} {i j:Nat} {oi oj:Oper} {v:Value} (hj:ops[j]? =some oj) (hap:oi.apart ops oj=true)
  (hsi: ∀ cs b,oi.op≠ .select cs b) (hsj: ∀ cs b,oj.op≠ .select cs b) {K:Act→Prop} {a:Act}
  (hy:GX P md ops V C γ i oi v a) (h:xOp P md ops V C γ j K (a.put oi.dst v)):
  xOp P md ops V C γ j (fun a' =>GX P md ops V C γ i oi v a' ∧K (a'.put oi.dst v)) a:=by
 obtain ⟨h1,h2,h3⟩:=Oper.apart_spec hap
 obtain ⟨o,u,ho,hg,hk⟩:=h
 have e:o=oj:=Option.some.inj (ho.symm.trans hj)
 subst e
 refine ⟨o,u,ho,hg.of_same (execOp_put o hsj a oi.dst v h1).symm (wanted_put o a oi.dst v h1).symm,hy.of_same (execOp_put oi hsi a o.dst u h3) (wanted_put oi a o.dst u h3),?_⟩
 rw [← Act.put_comm a v u h2]
 exact hk
theorem sY {γ:Nat→Gh} {Q:Act→Prop} {i:Nat} {oi:Oper} {v:Value} (hi:ops[i]? =some oi) (hsel: ∀ (j:Nat) (o:Oper) cs b,ops[j]? =some o→o.op≠ .select cs b):
  ∀ (f:Nat) (L:Array Bool) (a:Act),
   (∀ j oj,ops[j]? =some oj→j≠i→L.getD j true=false→(∀ e∈oj.after,Region.binds md e=true→e.on≠i)→oi.apart ops oj=true)→
   i∈Region.ready md ops L→GX P md ops V C γ i oi v a→zG P md ops V C γ Q f (L.setIfInBounds i true) (a.put oi.dst v)→zG P md ops V C γ Q (f+1) L a
 |0,L,a,_,hr,hy,H=>⟨fun h=>(by rw [h] at hr;cases hr),fun j hj=>by
   by_cases hji:j=i
   ·
    subst hji;exact ⟨oi,v,hi,hy,H⟩
   ·
    have:=ready_mono hj hji
    rw [H.1] at this
    cases this⟩
 |f+1,L,a,hfree,hr,hy,H=>⟨fun h=>(by rw [h] at hr;cases hr),fun j hj=>by
   by_cases hji:j=i
   ·
    subst hji;exact ⟨oi,v,hi,hy,H⟩
   ·
    have h1:=H.2 j (ready_mono hj hji)
    obtain ⟨hjun,oj,hoj,hall⟩:=mem_ready.1 hj
    have hnot: ∀ e∈oj.after,Region.binds md e=true→e.on≠i:=fun e he hb heq=>by
     have h1:=hall e he hb
     have h0:=(mem_ready.1 hr).1
     rw [heq] at h1
     rcases MV i L.size with h' |h'
     ·
      simp [h'] at h0 h1;rw [h0] at h1;cases h1
     ·
      simp [Nm h'] at h1
    have h2:=Hr hoj (hfree j oj hoj hji hjun hnot) (fun cs b=>hsel i oi cs b hi) (fun cs b=>hsel j oj cs b hoj) hy h1
    have hfree' : ∀ k ok,ops[k]? =some ok→k≠i→(L.setIfInBounds j true).getD k true=false→
      (∀ e∈ok.after,Region.binds md e=true→e.on≠i)→oi.apart ops ok=true:=fun k ok hk hki hun hno=>by
     refine hfree k ok hk hki ?_ hno
     by_cases hjk:j=k
     ·
      subst hjk;exact hjun
     ·
      rw [getD_set_ne true hjk] at hun;exact hun
    refine EJ (fun a' h3=>sY hi hsel f (L.setIfInBounds j true) a' hfree' (ready_mono hr (Ne.symm hji)) h3.1 ?_) h2
    rw [NH _ _ hji]
    exact h3.2⟩
def wpX (P:Program) (md:Region.Mode) (ops:Array Oper) (V:Nat→Option (Gh→Value)) (C:(Nat→Gh)→Array Bool→World→Prop) (γ:Nat→Gh) (Q:Act→Prop):List Oper→Nat→Act→Prop
 | [],_,a=>Q a
 |o::r,k,a=> ∃ v,GX P md ops V C γ k o v a∧wpX P md ops V C γ Q r (k+1) (a.put o.dst v)
theorem zF {γ:Nat→Gh} {Q:Act→Prop} (hs:Region.noSelect ops=true): ∀ (l:List Oper) (k:Nat) (L:Array Bool) (a:Act),(∀ j,l[j]? =ops[k+j]?)→
  Region.lexFrom md ops l.length k L=true→wpX P md ops V C γ Q l k a→zG P md ops V C γ Q l.length L a
 | [],_,_,_,_,hB,h=>⟨by simpa [Region.lexFrom] using hB,h⟩
 |o::l,k,L,a,hl,hB,h=>by
  have h0:ops[k]? =some o:=by simpa using (hl 0).symm
  simp only [L9,Region.lexFrom,LM] at hB
  obtain ⟨⟨hr,hf⟩,hB'⟩:=hB
  obtain ⟨v,hy,hK⟩:=h
  exact sY h0 (Region.noSelect_spec hs) l.length L a (Region.free_spec h0 hf) (by simpa using hr) hy
   (zF hs l (k+1) _ _ (fun j=>by have:=hl (j+1);simpa [M4,Ng 1 j] using this) hB' hK)
def mq (L:Array Bool) (γ γ' :Nat→Gh):Prop:= ∀ i,L.getD i false=true→γ i=γ' i
theorem cD {Q:(Nat→Gh)→Act→Prop} {Q' :Exit→Act→World→Prop} (hloc: ∀ L γ γ' w,mq L γ γ' →C γ L w→C γ' L w) (hsz: ∀ γ L w,C γ L w→L.size=ops.size) (hQ: ∀ γ L a w,Region.ready md ops L= []→C γ L w→Q γ a→Q' .normal a w):
  ∀ (f:Nat) (L:Array Bool) (a:Act) (w:World) (γ:Nat→Gh),C γ L w→(∀ γ',mq L γ γ' →zG P md ops V C γ' (Q γ') f L a)→wpAny P md ops Q' f L a w
 |0,L,a,w,γ,hC,h=>⟨(h γ fun _ _=>rfl).1,hQ γ L a w (h γ fun _ _=>rfl).1 hC (h γ fun _ _=>rfl).2⟩
 |f+1,L,a,w,γ,hC,h=>⟨fun h0=>hQ γ L a w h0 hC ((h γ fun _ _=>rfl).1 h0),fun i hi=>by
   obtain ⟨o,v,ho,hg,hk⟩:=(h γ fun _ _=>rfl).2 i hi
   obtain ⟨hun,_⟩:=mem_ready.1 hi
   have hlt:i<L.size:=by
    rw [hsz γ L w hC]
    exact (Mb.1 ho).1
   have hi0:L.getD i false=false:=by
    simp [hlt] at hun ⊢;exact hun
   have hsub: ∀ γ' γ'',mq (L.setIfInBounds i true) γ' γ'' →mq L γ' γ'' :=fun γ' γ'' hag j hj=>by
    refine hag j ?_
    by_cases e:i=j
    ·
     subst e;rw [hi0] at hj;cases hj
    ·
     rw [getD_set_ne false e];exact hj
   have hat: ∀ γ' γ'',mq (L.setIfInBounds i true) γ' γ'' →γ' i=γ'' i:=fun γ' γ'' hag=>hag i (by simp [hlt])
   have hupd: ∀ g,mq L γ (upd γ i g):=fun g j hj=>by
    have:j≠i:=fun e=>by subst e;rw [hi0] at hj;cases hj
    simp [upd,this]
   -- what another prophecy says of this operation
   have other: ∀ γ'',mq L γ γ'' → ∃ v'',GX P md ops V C γ'' i o v'' a∧zG P md ops V C γ'' (Q γ'') f (L.setIfInBounds i true) (a.put o.dst v''):=fun γ'' hag=>by
    obtain ⟨o'',v'',ho'',hg'',hk''⟩:=(h γ'' hag).2 i hi
    have e:o'' =o:=Option.some.inj (ho''.symm.trans ho)
    subst e
    exact ⟨v'',hg'',hk''⟩
   unfold wpOp
   simp only [ho]
   cases hg with
   |pass hw hv hc=>
    subst hv
    simp only [hw,MG,if_false]
    refine cD hloc hsz hQ f _ _ _ γ (hc L w hi hC) fun γ'' hag=> ?_
    obtain ⟨v'',hg'',hk''⟩:=other γ'' (hsub _ _ hag)
    cases hg'' with
    |pass _ hv'' _=>subst hv'';exact hk''
    |det hw'' _ _=>rw [hw] at hw'';cases hw''
    |non hw'' _ _ _ _=>rw [hw] at hw'';cases hw''
   |det hw hV hc=>
    simp only [hw,if_true]
    refine .inl ?_
    have h1:=hc L w hi hC
    have h2: ∀ γ'',mq L γ γ'' → ∃ v'',CZ P (C γ'' (L.setIfInBounds i true)) v'' ((execOp a.eval o).run P w)∧zG P md ops V C γ'' (Q γ'') f (L.setIfInBounds i true) (a.put o.dst v''):=fun γ'' hag=>by
     obtain ⟨v'',hg'',hk''⟩:=other γ'' hag
     cases hg'' with
     |pass hw'' _ _=>rw [hw] at hw'';cases hw''
     |det _ _ hc'' =>exact ⟨v'',hc'' L w hi (hloc L γ γ'' w hag hC),hk''⟩
     |non _ _ hV'' _ _=>rw [hV] at hV'';cases hV''
    unfold Oper.wp
    generalize (execOp a.eval o).run P w=r at h1 h2 ⊢
    cases r with
    |ok x w' =>
     cases x<;>simp only [CZ] at h1 h2<;>simp only [Oper.upon]
     case value u=>
      obtain ⟨rfl,h3⟩:=h1
      refine cD hloc hsz hQ f _ _ _ γ h3 fun γ'' hag=> ?_
      obtain ⟨v'',⟨rfl,_⟩,hk''⟩:=h2 γ'' (hsub _ _ hag)
      exact hk''
     case skip=>
      obtain ⟨rfl,h3⟩:=h1
      refine cD hloc hsz hQ f _ _ _ γ h3 fun γ'' hag=> ?_
      obtain ⟨v'',⟨rfl,_⟩,hk''⟩:=h2 γ'' (hsub _ _ hag)
      exact hk''
     case enter g args=>
      obtain ⟨hin,h3⟩:=h1
      refine h3.mono fun e w'' ⟨he,h4⟩=> ?_
      subst he
      refine cD hloc hsz hQ f _ _ _ γ h4 fun γ'' hag=> ?_
      obtain ⟨v'',⟨_,h5⟩,hk''⟩:=h2 γ'' (hsub _ _ hag)
      rw [Er hin h3 h5]
      exact hk''
    |halt x w' =>simp only [CZ] at h1
   |non hw φ hV hv hc=>
    simp only [hw,if_true]
    refine .inl ?_
    have h1:=hc L w hi hC
    have h2: ∀ g γ'',mq (L.setIfInBounds i true) (upd γ i g) γ'' →zG P md ops V C γ'' (Q γ'') f (L.setIfInBounds i true) (a.put o.dst (φ g)):=fun g γ'' hag=>by
     have hag' :mq L γ γ'' :=fun j hj=>(hupd g j hj).trans (hsub _ _ hag j hj)
     have hgi:γ'' i=g:=by rw [← hat _ _ hag];simp [upd]
     obtain ⟨v'',hg'',hk''⟩:=other γ'' hag'
     cases hg'' with
     |pass hw'' _ _=>rw [hw] at hw'';cases hw''
     |det _ hV'' _=>rw [hV] at hV'';cases hV''
     |non _ φ'' hV'' hv'' _=>
      rw [hV] at hV''
      injection hV'' with hV''
      subst hV''
      rw [hv'',hgi] at hk''
      exact hk''
    unfold Oper.wp
    generalize (execOp a.eval o).run P w=r at h1 ⊢
    cases r with
    |ok x w' =>
     cases x<;>simp only [sU] at h1<;>simp only [Oper.upon]
     case value u=>
      obtain ⟨g,rfl,h3⟩:=h1
      exact cD hloc hsz hQ f _ _ _ (upd γ i g) h3 fun γ'' hag=>h2 g γ'' hag
     case skip=>
      obtain ⟨g,hg,h3⟩:=h1
      rw [hg]
      exact cD hloc hsz hQ f _ _ _ (upd γ i g) h3 fun γ'' hag=>h2 g γ'' hag
     case enter k args=>
      refine h1.mono fun e w'' ⟨g,he,h4⟩=> ?_
      subst he
      exact cD hloc hsz hQ f _ _ _ (upd γ i g) h4 fun γ'' hag=>h2 g γ'' hag
     case row k args=>
      refine Rows.mono h1 fun u w'' ⟨g,he,h4⟩=> ?_
      subst he
      exact cD hloc hsz hQ f _ _ _ (upd γ i g) h4 fun γ'' hag=>h2 g γ'' hag
    |halt x w' =>simp only [sU] at h1⟩
end
section
variable {P:Program} {n:Fr} {w0:World} {Q:bI} {s:az} {H:List Blk} {l rest:List Oper} {ty:TypeId} {p:String} {af:Array Edge}
def Kx (w0:World) (l:List Oper) (HL:fE→(Nat→Gh)→List Blk) (γ:Nat→Gh) (L:Array Bool) (w:World):Prop:=Cls w0 l (fun D=>HL D γ) L w
def WX (P:Program) (n:Fr) (w0:World) (l:List Oper) (V:Nat→Option (Gh→Value)) (HL:fE→(Nat→Gh)→List Blk) (γ:Nat→Gh) (K:az→Prop) (rest:List Oper) (k:Nat) (s:az):Prop:=
 ∀ a,St n s a→(∀ j,rest[j]? =l[k+j]?)→wpX P .any l.toArray V (Kx w0 l HL) γ (fun a' => ∃ s',St n s' a' ∧K s') rest k a
def Hl (HL:fE→(Nat→Gh)→List Blk):Prop:= ∀ (D:fE) (γ γ' :Nat→Gh),(∀ i,D i=true→γ i=γ' i)→HL D γ=HL D γ'
theorem HH {id:Nat} (V:Nat→Option (Gh→Value)) (HL:fE→(Nat→Gh)→List Blk) (hm:P.follows .mixedOrders=true) (hB:Region.lexB .any l.toArray=true) (hloc:Hl HL) (h0: ∀ γ,MSub (HL (fun _=>false) γ) H)
  (h: ∀ γ,WX P n w0 l V HL γ (fun s' => ∀ D:fE,(∀ i,i<l.length→D i=true)→Q .normal s' (HL D γ)) l 0 s):W P n w0 (.region id l.toArray true) Q s H:=by
 intro a w hs hmem
 have hrep:done (Array.replicate l.toArray.size false)=fun _=>false:=by
  funext i
  unfold done
  rw [L8,NI]
  split<;>rfl
 let γ0:Nat→Gh:=fun _=>(none,0)
 have hB' :=hB
 simp only [Region.lexB,LM] at hB'
 refine wp_region_any hm ?_
 refine cD (V:=V) (C:=Kx w0 l HL) (Q:=fun γ a' => ∃ s',St n s' a' ∧ ∀ D:fE,(∀ i,i<l.length→D i=true)→Q .normal s' (HL D γ)) ?_ ?_ ?_ _ _ _ _ γ0 ?_ ?_
 ·
  rintro L γ γ' w' hag ⟨h1,h2,h3⟩
  refine ⟨h1,h2,?_⟩
  show Mem w0 w' (HL (done L) γ')
  rw [hloc (done L) γ' γ fun i hi=>(hag i hi).symm]
  exact h3
 ·
  rintro γ L w' ⟨h1,_⟩
  simpa using h1
 ·
  rintro γ L a' w' hr ⟨hsz,hcl,hmem'⟩ ⟨s',h2,h3⟩
  refine ⟨s',HL (done L) γ,h2,hmem',h3 _ fun i hi=> ?_⟩
  -- nothing is ready:all is done
  have all: ∀ i,i<l.length→done L i=true:=by
   intro i
   induction i using Nat.strongRecOn with
   |_ i ih=>
    intro hi
    cases hd:done L i with
    |true=>rfl
    |false=>
     exfalso
     have hlx: ∀ (f k:Nat) (L0:Array Bool),Region.lexFrom .any l.toArray f k L0=true→ ∀ j o,k≤j→j<k+f→l[j]? =some o→ ∀ x∈kM o,L0.getD x false=true∨(k≤x∧x<j):=by
      intro f
      induction f with
      |zero=>intro k L0 _ j o h1 h2;omega
      |succ f ihf=>
       intro k L0 hlex j o h1 h2 ho x hx
       simp only [Region.lexFrom,LM] at hlex
       obtain ⟨⟨hrk,_⟩,hrest⟩:=hlex
       by_cases hjk:j=k
       ·
        subst hjk
        obtain ⟨_,o',ho',hall⟩:=mem_ready.1 (by simpa using hrk:j∈Region.ready .any l.toArray L0)
        rw [Mr,ho] at ho'
        injection ho' with ho'
        subst ho'
        obtain ⟨e,he,hb,rfl⟩:=eD.1 hx
        exact .inl (hall e he hb)
       ·
        rcases ihf (k+1) _ hrest j o (by omega) (by omega) ho x hx with h|⟨h3,h4⟩
        ·
         by_cases hxk:k=x
         ·
          subst hxk;right;omega
         ·
          rw [getD_set_ne false hxk] at h;exact .inl h
        ·
         right;omega
     obtain ⟨o,ho⟩: ∃ o,l[i]? =some o:=⟨_,LF hi⟩
     have hmem:i∈Region.ready .any l.toArray L:=by
      refine mem_ready.2 ⟨?_,o,by simpa using ho,fun e he hb=> ?_⟩
      ·
       have:i<L.size:=by omega
       unfold done at hd
       simp [this] at hd ⊢;exact hd
      ·
       have hx:=hlx l.toArray.size 0 _ hB'.2 i o (LS _) (by simpa using hi) ho e.on (eD.2 ⟨e,he,hb,rfl⟩)
       rcases hx with h|⟨_,h⟩
       ·
        have:(done (Array.replicate l.toArray.size false)) e.on=true:=h
        rw [hrep] at this;cases this
       ·
        exact ih e.on h (by omega)
     rw [hr] at hmem
     cases hmem
  exact all i hi
 ·
  refine ⟨by simp,fun i o _ hi=>(by rw [hrep] at hi;cases hi),?_⟩
  rw [hrep]
  exact (h0 γ0).use hmem.drew
 ·
  intro γ' _
  have h1:=h γ' a hs (by simp)
  have:=zF (md:= .any) hB'.1 l.toArray.toList 0 (Array.replicate l.toArray.size false) a (by simp) (by simpa using hB'.2) (by simpa using h1)
  simpa using this
variable {V:Nat→Option (Gh→Value)} {HL:fE→(Nat→Gh)→List Blk} {γ:Nat→Gh} {K:az→Prop} {k:Nat}
theorem JC (h:K s):WX P n w0 l V HL γ K [] k s:=fun _ hs _=>⟨s,hs,h⟩
theorem jZ {o:Oper} (hl: ∀ j,(o::rest)[j]? =l[k+j]?):l[k]? =some o∧ ∀ j,rest[j]? =l[k+1+j]? :=
 ⟨by simpa using (hl 0).symm,fun j=>by have:=hl (j+1);simpa [M4,Ng 1 j] using this⟩
def FX:Blk:= .own none 0 0 0 0 []
def gat (D:fE) (γ:Nat→Gh):Nat→Gh:=fun i=>bif D i then γ i else (none,0)
theorem Bg (HX:fE→(Nat→Gh)→List Blk):Hl fun D γ=>HX D (gat D γ):=fun D γ γ' h=>by
 have:gat D γ=gat D γ' :=by
  funext i
  unfold gat
  cases hi:D i with
  |false=>rfl
  |true=>exact h i hi
 show HX D (gat D γ)=HX D (gat D γ')
 rw [this]
def gok (l:List Oper) (s:az):Option (Nat × Bool)→Option Bool
 |none=>some true
 |some (j,db)=>match gd l j with
  |none=>none
  |some d=>match look s d with
   |none=>none
   |some v=>some (jD v==some db)
theorem dJ {o:Oper} {g:Option (Nat × Bool)} {b:Bool} {a:Act} (hg:o.guard=g) (h:gok l s g=some b) (hs:St n s a):Region.wanted o (yielded l.toArray a.tmps)=b:=by
 unfold Region.wanted
 rw [hg]
 cases g with
 |none=>simp only [gok,Option.some.injEq] at h;exact h
 |some x=>
  obtain ⟨j,db⟩:=x
  simp only [gok] at h
  split at h
  ·
   cases h
  ·
   rename_i d hd
   split at h
   ·
    cases h
   ·
    rename_i v hv
    simp only [Option.some.injEq] at h
    simp only [iM hs hd hv]
    exact h
theorem E5 {id:Nat} (V:Nat→Option (Gh→Value)) (HX:fE→(Nat→Gh)→List Blk) (hm:P.follows .mixedOrders=true) (hB:Region.lexB .any l.toArray=true) (h0: ∀ γ,MSub (HX (fun _=>false) (gat (fun _=>false) γ)) H)
  (h: ∀ γ,WX P n w0 l V (fun D γ=>HX D (gat D γ)) γ (fun s' => ∀ D:fE,(∀ i,i<l.length→D i=true)→Q .normal s' (HX D (gat D γ))) l 0 s):W P n w0 (.region id l.toArray true) Q s H:=
 HH V _ hm hB (Bg HX) h0 h
theorem Turn.early {o:Oper} {D:fE} (ht:Turn l k o D) {i f:Nat} (h:(kM o).any (fun j=>iE l f j i)=true):D i=true:=by
 obtain ⟨j,hj,hr⟩:=List.any_eq_true.1 h
 exact iD ht.closed f j i hr (ht.before j hj)
variable {gu:Option (Nat × Bool)}
theorem wQ {op:Op} {d:Nat} {v:Value} (hn:Nat.blt d n.sz=true) (hg:gok l s gu=some true) (hV:V k=none) (hv: ∀ D,Turn l k ⟨some d,op,ty,p,af,gu⟩ D→VOp P w0 s (HL D γ) op ty v) (hk: ∀ D,HL (put D k) γ=HL D γ) (h:WX P n w0 l V HL γ K rest (k+1) ((d,v)::s)):
  WX P n w0 l V HL γ K (⟨some d,op,ty,p,af,gu⟩::rest) k s:=by
 intro a hs hl
 obtain ⟨h0,hl'⟩:=jZ hl
 refine ⟨v,.det (dJ rfl hg hs) hV fun L w hr hc=> ?_,h _ (hs.put (Mt ▸ hn) v) hl'⟩
 obtain ⟨ht,hd,hnext⟩:=lO h0 hr hc
 have h1:=hv _ ht a.eval w (some d) p af gu hs.eval hc.2.2
 rw [h1]
 exact ⟨rfl,hnext w (by rw [hk];exact hc.2.2)⟩
theorem yt {op:Op} {d:Nat} {φ:Gh→Value} {a:Act} {w:World} {H' :List Blk} {B:Gh→List Blk} (hdn:d<n.sz) (hs:St n s a) (hm:Mem w0 w H')
  (h:WL P n w0 #[] [⟨some d,op,ty,p,af,none⟩] (fun e s' H' =>e= .normal∧ ∃ g,look s' d=some (φ g)∧MSub (B g) H') s H'):sU P φ (fun g w' =>Mem w0 w' (B g)) ((execOp a.eval ⟨some d,op,ty,p,af,gu⟩).run P w):=by
 have h1:=h a w hs hm
 unfold wpList at h1
 simp only [Region.wanted,if_true] at h1
 refine h1.elim (fun h1=> ?_) (fun ⟨_,a0,w1,s',H'',_,_,he,_⟩=>by cases he)
 have hsz:d<a.tmps.size:=by rw [hs.size];exact hdn
 have nxt: ∀ (v:Value) (w' :World) (a' :Act),a'.tmps[d]? =some v→wpList P #[] (post n w0 fun e s' H' =>e= .normal∧ ∃ g,look s' d=some (φ g)∧MSub (B g) H') [] a' w' → ∃ g,v=φ g∧Mem w0 w' (B g):=by
  rintro v w' a' ha' ⟨s',H'',hs',hm',_,g,hg,hsub⟩
  have:=hs'.has d _ hg
  rw [ha'] at this
  exact ⟨g,Option.some.inj this,hsub.use hm'⟩
 have hput: ∀ (a' :Act) (v:Value),a'.tmps.size=a.tmps.size→(a'.put (some d) v).tmps[d]? =some v:=fun a' v h=>by simp [Act.put,h,hsz]
 have hexec:execOp a.eval ⟨some d,op,ty,p,af,gu⟩=execOp a.eval ⟨some d,op,ty,p,af,none⟩:=rfl
 rw [hexec]
 unfold Oper.wp at h1
 generalize (execOp a.eval ⟨some d,op,ty,p,af,none⟩).run P w=r at h1 ⊢
 cases r with
 |ok x w' =>
  cases x<;>simp only [Oper.upon] at h1<;>simp only [sU]
  case value u=>exact nxt u w' _ (hput a u rfl) h1
  case skip=>exact nxt undef w' _ (hput a undef rfl) h1
  case defer dd=>
   obtain ⟨s',H'',hs',_⟩:=h1
   have h2:=congrArg List.length (hs'.defers.trans hs.defers.symm)
   simp [Act.put] at h2
  case enter k args=>
   refine h1.mono fun e w'' he=> ?_
   cases e with
   |returned v=>
    obtain ⟨g,hv,hg⟩:=nxt v w'' _ (hput a v rfl) he
    exact ⟨g,by rw [hv],hg⟩
   |panicked c=>
    obtain ⟨s',H'',_,_,he',_⟩:=he
    cases he'
   |outgrown=>
    obtain ⟨a0,w1,s',H'',_,_,he',_⟩:=he
    cases he'
  case row k args=>exact Rows.mono h1 fun u w'' he=>nxt u w'' _ (hput a u rfl) he
 |halt x w' =>
  cases x<;>simp only [Oper.upon] at h1
  all_goals
   obtain ⟨s',H'',_,_,he',_⟩:=h1
   cases he'
theorem qx {op:Op} {d:Nat} {φ:Gh→Value} (hn:Nat.blt d n.sz=true) (hg:gok l s gu=some true) (hV:V k=some φ)
  (h: ∀ D,Turn l k ⟨some d,op,ty,p,af,gu⟩ D→WL P n w0 #[] [⟨some d,op,ty,p,af,none⟩] (fun e s' H' =>e= .normal∧ ∃ g,look s' d=some (φ g)∧MSub (HL (put D k) (upd γ k g)) H') s (HL D γ))
  (h' :WX P n w0 l V HL γ K rest (k+1) ((d,φ (γ k))::s)):WX P n w0 l V HL γ K (⟨some d,op,ty,p,af,gu⟩::rest) k s:=by
 intro a hs hl
 obtain ⟨h0,hl'⟩:=jZ hl
 refine ⟨φ (γ k),.non (dJ rfl hg hs) φ hV rfl fun L w hr hc=> ?_,h' _ (hs.put (Mt ▸ hn) _) hl'⟩
 obtain ⟨ht,hd,hnext⟩:=lO h0 hr hc
 have h1:=yt (gu:=gu) (Mt ▸ hn) hs hc.2.2 (h _ ht)
 have hm2: ∀ g w',Mem w0 w' (HL (put (done L) k) (upd γ k g))→Kx w0 l HL (upd γ k g) (L.setIfInBounds k true) w' :=fun g w' hm' =>by
  obtain ⟨hsz,hcl,_⟩:=hc
  have hlt:k<L.size:=by rw [hsz];exact (LV.1 h0).1
  have hcl' : ∀ i x,l[i]? =some x→done (L.setIfInBounds k true) i=true→ ∀ e∈x.after,Region.binds .any e=true→done (L.setIfInBounds k true) e.on=true:=by
   intro i x hx hi e he hb
   rw [hd] at hi ⊢
   by_cases hik:i=k
   ·
    subst hik
    rw [h0] at hx
    injection hx with hx
    have h2:=ht.before e.on (eD.2 ⟨e,by rw [hx];exact he,hb,rfl⟩)
    unfold put
    split
    ·
     rfl
    ·
     exact h2
   ·
    have hi' :done L i=true:=by unfold put at hi;rwa [if_neg hik] at hi
    have:=hcl i x hx hi' e he hb
    unfold put
    split
    ·
     rfl
    ·
     exact this
  exact ⟨by simpa using hsz,hcl',by rw [hd];exact hm'⟩
 generalize (execOp a.eval ⟨some d,op,ty,p,af,gu⟩).run P w=r at h1 ⊢
 cases r with
 |ok x w' =>
  cases x<;>simp only [sU] at h1 ⊢
  case value u=>obtain ⟨g,hv,hg⟩:=h1;exact ⟨g,hv,hm2 g w' hg⟩
  case skip=>obtain ⟨g,hv,hg⟩:=h1;exact ⟨g,hv,hm2 g w' hg⟩
  case enter k args=>exact h1.mono fun e w'' ⟨g,hv,hg⟩=>⟨g,hv,hm2 g w'' hg⟩
  case row k args=>exact Rows.mono h1 fun u w'' ⟨g,hv,hg⟩=>⟨g,hv,hm2 g w'' hg⟩
 |halt x w' =>simp only [sU] at h1
theorem Hs {op:Op} (hg:gok l s gu=some true) (hV:V k=none) (hv: ∀ D,Turn l k ⟨none,op,ty,p,af,gu⟩ D→ ∀ a w,St n s a→Mem w0 w (HL D γ)→ ∃ w',(execOp a.eval ⟨none,op,ty,p,af,gu⟩).run P w= .ok .skip w' ∧Mem w0 w' (HL (put D k) γ)) (h:WX P n w0 l V HL γ K rest (k+1) s):
  WX P n w0 l V HL γ K (⟨none,op,ty,p,af,gu⟩::rest) k s:=by
 intro a hs hl
 obtain ⟨h0,hl'⟩:=jZ hl
 refine ⟨undef,.det (dJ rfl hg hs) hV fun L w hr hc=> ?_,h _ (hs.put_none _) hl'⟩
 obtain ⟨ht,hd,hnext⟩:=lO h0 hr hc
 obtain ⟨w',hr',hm'⟩:=hv _ ht a w hs hc.2.2
 rw [hr']
 exact ⟨rfl,hnext w' hm'⟩
theorem qw {t T g off m:Nat} {x a:Operand} {v:Value} {vs:List Value} [Size P t m] (hg:gok l s gu=some true) (hV:V k=none) (ha:ev s a=some (.pointer (some ⟨g,off,none⟩))) (hx:ev s x=some v) (hv:v.cells=vs.toArray) (hl:vs.length=m) (h1:vs.all Value.oneCell' =true)
  (hnew: ∀ D,Turn l k ⟨none,.store t a x,ty,p,af,gu⟩ D→ ∃ xs R,Sel (.box g T xs) (HL D γ) R∧off+m≤xs.length∧MSub (HL (put D k) γ) (.box g T (xs.take off++vs++xs.drop (off+m))::R)) (h:WX P n w0 l V HL γ K rest (k+1) s):
  WX P n w0 l V HL γ K (⟨none,.store t a x,ty,p,af,gu⟩::rest) k s:=by
 refine Hs hg hV (fun D ht a' w hs hm=> ?_) h
 obtain ⟨xs,R,hsel,hfit,hsub⟩:=hnew D ht
 have hm' :=hm.sel hsel
 have hb:=(hm'.on _ LI).1
 simp only [Blk.on] at hb
 have h1' : ∀ u∈vs,u.oneCell' =true:=by simpa using h1
 have hr:=fP (P:=P) (t:=t) (off:=off) hv hl h1' hb (by simpa using hfit)
 simp only at hr
 refine ⟨_,?_,hsub.use (hm'.upd (eF _ _ _) (b' := .box g T (xs.take off++vs++xs.drop (off+m))) (setRow_heap _ _ _ _ _ _ hb) fun k hk=> .inl hk)⟩
 simp [execOp,hs.eval a _ ha,hs.eval x _ hx,Instr.storeAt,Instr.sureAddr,hr]
end
end Go.SL
