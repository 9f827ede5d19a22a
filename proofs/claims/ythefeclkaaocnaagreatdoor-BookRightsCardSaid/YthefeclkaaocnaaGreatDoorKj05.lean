/-
  Lemmas and walks, put together: Sl8 Sl9 Sl10 Sl11 Sl12 Sl13 Sl14 Sl15 Sl16.
-/
import Derived.Laws.Slices
import Derived.RangeFuncRecord
import Derived.RangeFuncSeq
import Derived.RangeFuncOwn
import Derived.LoopN
import Derived.Test.YthefeclkaaocnaaGreatDoorKj03
set_option linter.unusedSimpArgs false
set_option linter.unusedVariables false
set_option maxRecDepth 20000
namespace Go.SL
open Go Go.RowKit
def kg (l:List Oper):Nat→Nat→Nat→Bool
 |0,j,k=>Nat.beq j k
 |f+1,j,k=>Nat.beq j k||match l[j]? with
  |none=>false
  |some x=>(pF x).any fun i=>kg l f i k
theorem lY {l:List Oper} {D:kZ} (hc: ∀ i x,l[i]? =some x→D i=true→ ∀ j∈pF x,D j=true): ∀ (f j k:Nat),kg l f j k=true→D j=true→D k=true
 |0,j,k,h,hj=>by
  have:=Ou h
  subst this
  exact hj
 |f+1,j,k,h,hj=>by
  simp only [kg,Pn] at h
  rcases h with h|h
  ·
   have:=Ou h
   subst this
   exact hj
  ·
   cases hx:l[j]? with
   |none=>rw [hx] at h;cases h
   |some x=>
    rw [hx] at h
    obtain ⟨i,hi,hr⟩:=List.any_eq_true.1 h
    exact lY hc f i k hr (hc j x hx hj i hi)
section
variable {P:Program} {n:Fr} {w0:World} {Q:bO} {K:az→Prop} {s:az} {H H1:List Blk} {l rest:List Oper} {k j f:Nat} {ty:TypeId} {p:String} {af:Array Edge}
theorem Turn.late {o:Oper} {D:kZ} (ht:Turn l k o D) (h:kg l f j k=true):D j=false:=by
 cases hD:D j
 ·
  rfl
 ·
  have:=lY ht.closed f j k h hD
  rw [ht.not] at this
  cases this
theorem nU {id:Nat} (j:Nat) (H1:List Blk) (hm:P.follows .mixedOrders=true) (hB:Region.lexB .any l.toArray=true) (hj:Nat.blt j l.length=true)
  (h:WG P n w0 l (fun D=>if D j then H1 else H) (fun s' =>Q .normal s' H1) l 0 s):W P n w0 (.region id l.toArray true) Q s H:=by
 refine sr (fun D=>if D j then H1 else H) hm hB (by simp only [OT,if_false];exact .refl _) fun a hs hl=> ?_
 have mono: ∀ (r:List Oper) (k:Nat) (a:Act) (K K' :Act→Prop),(∀ a,K a→K' a)→wpG P .any l.toArray (Cls w0 l fun D=>if D j then H1 else H) K r k a→wpG P .any l.toArray (Cls w0 l fun D=>if D j then H1 else H) K' r k a:=by
  intro r
  induction r with
  |nil=>intro k a K K' hk h;exact hk _ h
  |cons o r ih=>
   rintro k a K K' hk ⟨v,h1,h2⟩
   exact ⟨v,h1,ih _ _ K K' hk h2⟩
 refine mono _ _ _ _ _ ?_ (h a hs hl)
 rintro a' ⟨s',h2,h3⟩
 refine ⟨s',h2,fun D hD=> ?_⟩
 rw [if_pos (hD j (OH ▸ hj))]
 exact h3
theorem yZ {op:Op} {d:Nat} {v:Value} (hn:Nat.blt d n.sz=true) (hr:kg l f j k=true) (hne:Nat.beq j k=false) (hv:VOp P w0 s H op ty v) (h:WG P n w0 l (fun D=>if D j then H1 else H) K rest (k+1) ((d,v)::s)):
  WG P n w0 l (fun D=>if D j then H1 else H) K (⟨some d,op,ty,p,af,none⟩::rest) k s:=by
 refine E8 hn (fun D ht=> ?_) (fun D=> ?_) h
 ·
  rw [ht.late hr]
  exact hv
 ·
  have:put D k j=D j:=by
   unfold put
   rw [if_neg]
   intro e
   subst e
   rw [Nat.beq_refl] at hne
   cases hne
  simp only [this]
theorem tj {d t e n' c m c' sz by_:Nat} {a2:Addr} {A:Option Nat} {x y:Operand} {xs news:List Value} {R:List Blk} {ops:Array Oper} [ht:Und P t (.slice e)] [he:Elem P e sz by_] (hn:Nat.blt d n.sz=true)
  (hx:ev s x=some (sl A n' c)) (hy:ev s y=some (.slice (some a2) m c')) (hsel:Sel (.own A e sz n' c xs) H R)
  (hnews: ∀ w,Mem w0 w H→ ∀ j u,news[j]? =some u→w.cell? (a2.add j)=some u) (hl:news.length=m*sz) (h1: ∀ u∈news,u.oneCell' =true) (hby:(n' +m)*by_≤140737488355328) (h63:n' +m≤maxLen)
  (k: ∀ A' cap',(0<n' +m→ ∃ g,A' =some g)→WL P n w0 ops rest Q ((d,sl A' (n' +m) cap')::s) (.own A' e sz (n' +m) cap' (xs++news)::R)):
  WL P n w0 ops (⟨some d,.call { callee:= .builtin .append,args:= #[x,y],argTypes:= #[t,t] },ty,p,af,none⟩::rest) Q s H:=by
 intro a w hs hm
 have hm' :=hm.sel hsel
 obtain ⟨i,z,i1,i2,i3,i4,i5,i6⟩:=he.out
 have hb:=(hm'.on _ NI)
 have hown:w.ownsRow w0.heap.size e sz (sl A n' c) n' xs:=by
  obtain ⟨⟨b1,b2,b3,b4⟩,b5⟩:=hb
  refine ⟨b1,?_⟩
  cases A with
  |none=>obtain ⟨rfl,rfl⟩:=b4;exact .inl ⟨rfl,rfl⟩
  |some g=>
   obtain ⟨junk,j1,j2⟩:=b4
   refine .inr ⟨g,c,_,rfl,b5 g rfl,j2,b2,b3,by simpa using j1,?_⟩
   simp only [P7]
   rw [← b1,List.take_left]
 obtain ⟨v',w',hr,h2,h3,h4,h5⟩:=run_append_own_at (P:=P) w w0.heap.size t ty e i z sz by_ ht.out i1 i4 i2 i3 i5 i6 (sl A n' c) n' xs hown a2 m c' news hl
  (hnews w hm) h1 h63 hby hm.below.size
 have hsh: ∃ A' cap',v' =sl A' (n' +m) cap' ∧(Blk.own A' e sz (n' +m) cap' (xs++news)).on w' ∧(0<n' +m→ ∃ g,A' =some g):=by
  obtain ⟨q1,q2⟩:=h2
  rcases q2 with ⟨rfl,q3⟩|⟨g,cap,cur,rfl,_,q4,q5,q6,q7,q8⟩
  ·
   refine ⟨none,0,by rw [q3];rfl,⟨q1,by omega,NY _,q3,rfl⟩,fun h=>by omega⟩
  ·
   refine ⟨some g,cap,rfl,⟨q1,q5,q6,cur.toList.drop ((n' +m)*sz),?_,?_⟩,fun _=>⟨g,rfl⟩⟩
   ·
    rw [← q8,OE];simpa using q7
   ·
    rw [← q8,OE];simpa using q4
 obtain ⟨A',cap',rfl,hon,hsome⟩:=hsh
 refine wpList_plain rfl fun K hK=> ?_
 unfold Oper.wp execOp
 simp only [resolve,invoke,builtin,Sem.run_bind,Sem.run_pure,Result.andThen_ok,Pp,Ow,Pe,hs.eval x _ hx,hs.eval y _ hy,hr,Oper.upon]
 have hkey: ∀ (B:Option Nat) (q r:Nat),(sl B q r).ownBlock=B:=fun B q r=>by cases B<;>rfl
 rw [hkey] at h3
 refine hK _ _ (k A' cap' hsome _ _ (hs.put (OH ▸ hn) _) (hm'.upd h3 hon fun j hj=> ?_))
 rw [hkey,hkey] at h5
 simp only [Blk.key] at hj ⊢
 rcases h5 with h5|h5
 ·
  left;rw [← h5];exact hj
 ·
  right;rw [h5] at hj;injection hj with hj;omega
theorem rU (w:World) (t ty e:TypeId) (i:TypeInfo) (ht:P.underlying t=some (.slice e)) (hi:P.info? e=some i) (B:Option Addr) (m c c' :Nat) (h:m≤c):
  (Builtin.append_ #[t,t] ty #[.slice B m c,.slice none 0 c']).run P w= .ok (.slice B m c) w:=by
 cases B<;>simp [Builtin.append_,run_underlying ht,sizeOf,typeInfo,hi,Builtin.lenOf,Builtin.firstCells,h,storeCells]
theorem eW {d t e n' c m sz by_:Nat} {A:Option Nat} {x y:Operand} {yv:Value} {xs news:List Value} {R:List Blk} {ops:Array Oper} [ht:Und P t (.slice e)] [he:Elem P e sz by_] (hn:Nat.blt d n.sz=true)
  (hx:ev s x=some (sl A n' c)) (hy:ev s y=some yv) (hsel:Sel (.own A e sz n' c xs) H R)
  (hnews: ∀ w,Mem w0 w H→Reads w yv m news) (hl:news.length=m*sz) (h1: ∀ u∈news,u.oneCell' =true) (hby:(n' +m)*by_≤140737488355328) (h63:n' +m≤maxLen)
  (k: ∀ A' cap',(0<m→ ∃ g,A' =some g)→WL P n w0 ops rest Q ((d,sl A' (n' +m) cap')::s) (.own A' e sz (n' +m) cap' (xs++news)::R)):
  WL P n w0 ops (⟨some d,.call { callee:= .builtin .append,args:= #[x,y],argTypes:= #[t,t] },ty,p,af,none⟩::rest) Q s H:=by
 intro a w hs hm
 have hm' :=hm.sel hsel
 have hb:=(hm'.on _ NI).1
 obtain ⟨B,c',rfl,h2,h3,h4⟩:=hnews w hm
 by_cases h0:m=0
 ·
  subst h0
  have hnil:news= []:=Oo (by simpa using hl)
  subst hnil
  cases B with
  |some a2=>exact tj hn hx hy hsel (fun w hm j u hu=>by simp at hu) hl h1 hby h63 (fun A' cap' hA=>k A' cap' (fun h=>by omega)) a w hs hm
  |none=>
   obtain ⟨i,z,i1,i2,i3,i4,i5,i6⟩:=he.out
   have hr:=rU (P:=P) w t ty e i ht.out i1 (A.map fun g=>⟨g,0,none⟩) n' c c' hb.2.1
   refine wpList_plain rfl fun K hK=> ?_
   unfold Oper.wp execOp
   simp only [resolve,invoke,builtin,Sem.run_bind,Sem.run_pure,Result.andThen_ok,Pp,Ow,Pe,hs.eval x _ hx,hs.eval y _ hy,sl,hr,Oper.upon]
   refine hK _ _ (k A c (fun h=>by omega) _ _ (hs.put (OH ▸ hn) _) ?_)
   simpa using hm'
 ·
  obtain ⟨g,o,rfl,hro⟩:=h4 (by omega)
  exact cR hn hx hy hsel (fun w' hm2=>by
   obtain ⟨B,c'',e1,e2,e3,e4⟩:=hnews w' hm2
   obtain ⟨g',o',e5,hro'⟩:=e4 (by omega)
   injection e1 with e1 e1' e1''
   subst e1
   injection e5 with e5
   injection e5 with e5 e6
   subst e5;subst e6
   exact hro'.cells) hl h1 hby h63 (fun A' cap' hA=>k A' cap' (fun h=>hA (by omega))) a w hs hm
end
theorem Fl {P:Program} {w0:World} {s:az} {H:List Blk} {ty t hi:Nat} {a:ByteArray} {x q:Operand} {k:IntKind} [ht:Und P t .string] (hx:ev s x=some (.string a)) (hq:ev s q=some (.int k (hi:Nat))) (h2:hi≤a.size):
  VOp P w0 s H (.slice t x none (some q) none) ty (.string (a.extract 0 hi)):=fun ρ w _ _ _ _ hρ _=>by
 have e2:((hi:Nat):Int)≤((a.size:Nat):Int):=by omega
 simp [execOp,hρ x _ hx,hρ q _ hq,Instr.sliceAt,run_underlying ht.out,Instr.slice,Instr.sliceBounds,Instr.sliceBound,asIntOf,h2]
section
variable {P:Program} {n:Fr} {w0:World} {Q:bO} {s:az} {H:List Blk} {rest:List Oper} {ty:TypeId} {p:String} {af:Array Edge}
theorem mK {x ix:Operand} {t e m j:Nat} {xs:List Value} {v:Value} {k:IntKind} [ht:Und P t (.array m e)] [he:One P e] [hz:Size P e 1] (hx:ev s x=some (.agg xs.toArray)) (hi:ev s ix=some (.int k (j:Nat))) (hj:j<m) (hv:xs[j]? =some v):
  VOp P w0 s H (.index t x ix) ty v:=fun ρ w _ _ _ _ hρ _=>by
 obtain ⟨i,h1,h2⟩:=hz.out
 obtain ⟨d,h3,h4⟩:=he.out
 have h0:(0:Int)≤(j:Int):=by omega
 have hj' :((j:Nat):Int)<((m:Nat):Int):=by omega
 simp only [execOp,hρ x _ hx,hρ ix _ hi,Instr.index,asIntOf,run_underlying ht.out,sizeOf,typeInfo,part,isAgg,run_underlying h3,Sem.run_bind,Sem.run_pure,Result.andThen_ok,h0,hj',and_self,if_true,h1,h2,OZ,Pw,OG,hv]
 cases d<;>simp_all
theorem y7 {x:Operand} {t e m g o sz:Nat} [ht:Und P t (.array m e)] [hz:Size P e sz] (hx:ev s x=some (.pointer (some ⟨g,o,none⟩))):
  VOp P w0 s H (.slice t x none none none) ty (.slice (some ⟨g,o,none⟩) m m):=fun ρ w _ _ _ _ hρ _=>by
 obtain ⟨i,h1,h2⟩:=hz.out
 have ha:(⟨g,o,none⟩:Addr).add 0=⟨g,o,none⟩:=by rw [cH];simp
 simp [execOp,hρ x _ hx,Instr.sliceAt,run_underlying ht.out,Instr.sliceBounds,Instr.sureAddr,sizeOf,typeInfo,h1,ha]
theorem yX {d t e m:Nat} {ps:List (Nat × Operand)} {vs xs zs:List Value} {ops:Array Oper} [ht:Und P t (.array m e)] [he:Size P e 1] [hz:ZeroC P t zs] (hn:Nat.blt d n.sz=true) (hps:evd s ps 0=some vs)
  (hl:Nat.beq vs.length zs.length=true) (h1:vs.all (fun v=>Nat.beq v.cells.size 1)=true) (hx:rX (pq vs)=some xs) (k:WL P n w0 ops rest Q ((d,.agg xs.toArray)::s) H):
  WL P n w0 ops (⟨some d,.build t ps.toArray,ty,p,af,none⟩::rest) Q s H:=by
 refine sq rfl d rfl hn (fun a w hs hm=> ?_) k
 obtain ⟨it,z,i1,i2,i3⟩:=hz.out
 obtain ⟨ie,j1,j2⟩:=he.out
 have hall: ∀ v∈vs,v.cells.size=1:=by
  intro v hv
  exact Ou (OY.1 h1 v hv)
 have hlen:=Ou hl
 have hfill:=Great.fill_whole (s:=1) (by omega) vs z.cells hall (by rw [i3];simp [hlen])
 rw [← sU hs hps] at hfill
 have hb:P.built t (ps.map fun (x:Nat × Operand)=>(x.1,a.eval x.2))=some (pq vs).toArray:=by
  unfold Program.built
  simp only [i1,ht.out,i2,j1,j2]
  exact hfill
 have hr:=run_build (P:=P) w t (ps.map fun (x:Nat × Operand)=>(x.1,a.eval x.2)).toArray (pq vs).toArray (by simpa using hb)
 rw [iP hx]
 simp only [execOp,Pp]
 simp only [Sem.run_bind,hr,Result.andThen_ok,Sem.run_pure]
theorem wo {x:Operand} {t t' :TypeId} {k k' :IntKind} {a c:Int} {d:TypeDesc} [hs:Und P t d] [hd:Und P t' (.int k')] (hx:ev s x=some (.int k a)) (hw:k'.wrap a=c):VOp P w0 s H (.convert t t' x) ty (.int k' c):=by
 have h:=Cb (P:=P) (w0:=w0) (H:=H) (ty:=ty) (t:=t) (t' :=t') hx
 rwa [hw] at h
theorem dR {x y:Operand} {k:IntKind} {a b c:Int} {t t' :TypeId} (hx:ev s x=some (.int k a)) (hy:ev s y=some (.int k b)) (hw:k.wrap (a+b)=c):VOp P w0 s H (.binOp .add t x y t') ty (.int k c):=by
 have h:=tJ (P:=P) (w0:=w0) (H:=H) (ty:=ty) (t:=t) (t' :=t') hx hy
 rwa [hw] at h
theorem dG {x y:Operand} {k:IntKind} {a b c:Int} {t t' :TypeId} (hx:ev s x=some (.int k a)) (hy:ev s y=some (.int k b)) (hw:k.wrap (a - b)=c):VOp P w0 s H (.binOp .sub t x y t') ty (.int k c):=by
 have h:=LQ (P:=P) (w0:=w0) (H:=H) (ty:=ty) (t:=t) (t' :=t') hx hy
 rwa [hw] at h
theorem mL {x y:Operand} {a b:ByteArray} {t t' :TypeId} (hx:ev s x=some (.string a)) (hy:ev s y=some (.string b)) (h:a=b):VOp P w0 s H (.binOp .eql t x y t') ty (.bool true):=by
 have h1:=xF (P:=P) (w0:=w0) (H:=H) (ty:=ty) (t:=t) (t' :=t') hx hy
 rwa [decide_eq_true h] at h1
theorem dQ {x y:Operand} {a b:ByteArray} {t t' :TypeId} (hx:ev s x=some (.string a)) (hy:ev s y=some (.string b)) (h:a≠b):VOp P w0 s H (.binOp .eql t x y t') ty (.bool false):=by
 have h1:=xF (P:=P) (w0:=w0) (H:=H) (ty:=ty) (t:=t) (t' :=t') hx hy
 rwa [decide_eq_false h] at h1
theorem eM {a:Int} (h1:0≤a) (h2:a≤255):IntKind.u8.wrap a=a:=by
 simp [IntKind.wrap,IntKind.bits,IntKind.signed]<;>omega
theorem Reads.of_box {w:World} {g t:Nat} {xs:List Value} (hm:Mem w0 w H) (hi:In (.box g t xs) H) (hl:Nat.ble xs.length maxLen=true):Reads w (.slice (some ⟨g,0,none⟩) xs.length xs.length) xs.length xs:=by
 have h1:=hm.cells_box hi
 refine ⟨_,xs.length,rfl,NJ _,by simpa using hl,fun _=>⟨g,0,rfl,?_,h1⟩⟩
 have h2:=(hm.on _ hi.mem).1
 simp only [Blk.on] at h2
 exact (Oz.1 h2).1
end
section
variable {P:Program} {n:Fr} {w0:World} {Q:bO} {s:az} {H:List Blk} {l:List Oper} {f:Nat} {L:Array Bool}
theorem DZ {i:Nat} {o:Oper} (hi:l[i]? =some o) (h:WL P n w0 l.toArray [o] (thn (WA P n w0 l Q f (L.setIfInBounds i true)) Q) s H) (a:Act) (w:World) (hs:St n s a) (hm:Mem w0 w H):
  wpOp P l.toArray (post n w0 Q) i (wpAny P .any l.toArray (post n w0 Q) f (L.setIfInBounds i true)) a w:=by
 have h1:=h a w hs hm
 have hi' :l.toArray[i]? =some o:=by simpa using hi
 unfold wpOp
 simp only [hi']
 unfold wpList at h1
 have hnext: ∀ a w,wpList P l.toArray (post n w0 (thn (WA P n w0 l Q f (L.setIfInBounds i true)) Q)) [] a w→wpAny P .any l.toArray (post n w0 Q) f (L.setIfInBounds i true) a w:=by
  rintro a w ⟨s',H',h1,h2,h3⟩
  exact h3 a w h1 h2
 split
 ·
  rename_i hw
  rw [if_pos hw] at h1
  refine h1.imp (fun h2=>wq hnext (fun c a w h=>h) (fun a w h=>h) h2) fun ⟨h2,a0,w0,h3⟩=>⟨h2,a0,w0,h3⟩
 ·
  rename_i hw
  rw [if_neg hw] at h1
  exact hnext _ _ h1
theorem cP {i j:Nat} {oi oj:Oper} (hi:l[i]? =some oi) (hj:l[j]? =some oj) (hr:Region.ready .any l.toArray L= [i,j]) (h1:WL P n w0 l.toArray [oi] (thn (WA P n w0 l Q f (L.setIfInBounds i true)) Q) s H)
  (h2:WL P n w0 l.toArray [oj] (thn (WA P n w0 l Q f (L.setIfInBounds j true)) Q) s H):WA P n w0 l Q (f+1) L s H:=by
 intro a w hs hm
 refine ⟨fun h0=>(by rw [hr] at h0;cases h0),fun k hk=> ?_⟩
 rw [hr] at hk
 rcases NS.1 hk with e|hk
 ·
  subst e
  exact DZ hi h1 a w hs hm
 ·
  have e:k=j:=by simpa using hk
  subst e
  exact DZ hj h2 a w hs hm
end
def vL (s:az):List Nat→Option az
 | []=>some []
 |t::r=>match look s t,vL s r with
  |some v,some s' =>some ((t,v)::s')
  |_,_=>none
theorem Ak {s:az}: ∀ {ts:List Nat} {s' :az},vL s ts=some s' →Sub s' s
 | [],s',h=>by simp only [vL,Option.some.injEq] at h;subst h;exact Sub.nil s
 |t::r,s',h=>by
  simp only [vL] at h
  split at h
  ·
   rename_i v s1 hv hs
   simp only [Option.some.injEq] at h
   subst h
   exact Sub.cons hv (Ak hs)
  ·
   cases h
theorem Aa (r b:az) (u:Nat):look (r++b) u=(match look r u with|some v=>some v|none=>look b u):=by
 induction r with
 |nil=>rfl
 |cons y r ih=>
  obtain ⟨p,q⟩:=y
  rw [NF,iA,iA,ih]
  split<;>rfl
theorem Sub.append {a b s:az} (ha:Sub a s) (hb:Sub b s):Sub (a++b) s:=by
 intro u z hu
 rw [Aa] at hu
 split at hu
 ·
  rename_i v hv
  rw [← hu]
  exact ha u v hv
 ·
  exact hb u z hu
def bG {ι:Type} (sI:ι→az) (HI:ι→List Blk) (ok:ι→Prop) (Q:bO):bO
 | .normal,s,H=> ∃ i,ok i∧Sub (sI i) s∧MSub (HI i) H
 |e,s,H=>Q e s H
section
variable {P:Program} {n:Fr} {w0:World} {Q:bO} {s sb:az} {H:List Blk} {ι:Type} {sI:ι→az} {HI:ι→List Blk} {ok:ι→Prop} {id:Nat}
theorem bf (i:ι) (ho:ok i) (hs:Sub (sI i) s) (hH:MSub (HI i) H):bG sI HI ok Q .normal s H:=⟨i,ho,hs,hH⟩
theorem lN {x z:Code} (sI:ι→az) (HI:ι→List Blk) (ok:ι→Prop) (h:W P n w0 x (bG sI HI ok Q) s H) (k: ∀ i,ok i→W P n w0 z Q (sI i) (HI i)):
  W P n w0 x (thn (W P n w0 z Q) Q) s H:=by
 refine G5 (fun e s' H' hq=> ?_) h
 cases e with
 |normal=>
  obtain ⟨i,ho,h1,h2⟩:=hq
  exact MI h1 (LN h2 (k i ho))
 |_=>exact hq
theorem LP {c:Operand} {x y z:Code} (ts:List Nat) (hk:vL s ts=some sb) (h:W P n w0 (.cond c x y) (bG (fun _:Unit=>sb) (fun _=>H) (fun _=>True) Q) s H) (k:W P n w0 z Q sb H):
  W P n w0 (.cond c x y) (thn (W P n w0 z Q) Q) s H:=
 lN _ _ _ h fun _ _=>k
theorem ay {c:Code} (ts:List Nat) (hk:vL s ts=some sb) (sI:ι→az) (HI:ι→List Blk) (ok:ι→Prop) (μ:ι→Nat) (i0:ι) (h0:ok i0) (hs0:Sub (sI i0) s) (hH0:MSub (HI i0) H)
  (round: ∀ i,ok i→W P n w0 c (thn (fun s' H' => ∃ i',ok i' ∧μ i' <μ i∧Sub (sI i') s' ∧Sub sb s' ∧MSub (HI i') H') Q) (sI i++sb) (HI i)):W P n w0 (.loop c) Q s H:=by
 refine fC (fun i=>sI i++sb) HI ok μ i0 h0 (hs0.append (Ak hk)) hH0 fun i hi=>G5 (fun e s' H' hq=> ?_) (round i hi)
 cases e with
 |normal=>
  obtain ⟨i',h1,h2,h3,h4,h5⟩:=hq
  exact ⟨i',h1,h2,h3.append h4,h5⟩
 |_=>exact hq
theorem DU {ops:Array Oper} {rest:List Oper} {A:Option Nat} {t sz m cap:Nat} {xs:List Value} (hi:In (.own A t sz m cap xs) H) (hm:0<m) (h: ∀ g,A=some g→WL P n w0 ops rest Q s H):WL P n w0 ops rest Q s H:=fun a w hs hmem=>by
 obtain ⟨_,_,_,h4⟩:=(hmem.on _ hi.mem).1
 cases A with
 |none=>obtain ⟨rfl,_⟩:=h4;omega
 |some g=>exact h g rfl a w hs hmem
theorem Reads.of_own_take {w:World} {A:Option Nat} {t sz m cap k:Nat} {xs:List Value} (hm:Mem w0 w H) (hi:In (.own A t sz m cap xs) H) (hk:k≤m):Reads w (sl A k cap) k (xs.take (k*sz)):=by
 obtain ⟨h1,h2,h3,h4⟩:=(hm.on _ hi.mem).1
 refine ⟨_,cap,rfl,by omega,h3,fun hpos=> ?_⟩
 cases A with
 |none=>obtain ⟨rfl,_⟩:=h4;omega
 |some g=>exact ⟨g,0,rfl,(Ro.of_own hm hi).take⟩
end
theorem Ro.cellV {w:World} {g o:Nat} {xs:List Value} (h:Ro w g o xs) (i:Nat) {v:Value} (hi:xs[i]? =some v):Ro w g (o+i*1) [v]:=by
 obtain ⟨hlt,he⟩:=NV.1 hi
 have h1:=(h.drop (k:=i)).take (k:=1)
 rw [NL hlt,he] at h1
 rw [Pw]
 exact h1
section
variable {α:Type} {enc:α→List Value} {w0:World}
def Nv (enc:α→List Value) (w0:World) (F:List Blk) (vals:List Value) (Ts:List (List α)):Prop:=
 vals.length=Ts.length∧ ∀ (j:Nat) (x:Value) (T:List α),vals[j]? =some x→Ts[j]? =some T→ ∀ w,Mem w0 w F→Reads w x T.length (T.flatMap enc)
end
theorem j0 {α:Type} {enc:α→List Value} {m:Nat} {P:Program} {w0:World} {s:az} {H:List Blk} {ty:TypeId} {x:Operand} {t T g n' c sz i k:Nat} {L:List α} {a:α} {v:Value} [One P t] (henc: ∀ a,(enc a).length=m) (hx:ev s x=some (.pointer (some ⟨g,0+i*m+k,none⟩))) (hi:In (.own (some g) T sz n' c (L.flatMap enc)) H) (hk:k<m) (ha:L[i]? =some a) (hv:(enc a)[k]? =some v):
  VOp P w0 s H (.load t x) ty v:=by
 obtain ⟨hlt,rfl⟩:=NV.1 ha
 rw [N7] at hx
 exact bF hx hi (by rw [jG henc L i k hlt hk];exact hv)
theorem Ea {P:Program} {n:Fr} {w0:World} {Q:bO} {s sb:az} {H:List Blk} {id:Nat} {ops:Array Oper} {d:Bool} {y z:Code} (ts:List Nat) (hk:vL s ts=some sb) (h:W P n w0 (.seq (.region id ops d) y) (bG (fun _:Unit=>sb) (fun _=>H) (fun _=>True) Q) s H) (k:W P n w0 z Q sb H):
  W P n w0 (.seq (.region id ops d) y) (thn (W P n w0 z Q) Q) s H:=
 lN _ _ _ h fun _ _=>k
abbrev Gh:=Option Nat × Nat
def upd (γ:Nat→Gh) (k:Nat) (g:Gh):Nat→Gh:=fun i=>if i=k then g else γ i
section
variable {P:Program} {ops:Array Oper} {md:Region.Mode}
def Nw (P:Program) (D:World→Prop) (v:Value):Result Next→Prop
 | .ok (.value u) w' =>u=v∧D w'
 | .ok .skip w' =>v=undef∧D w'
 | .ok (.enter f args) w' =>P.inits.idxOf? f=none∧Calls P f args w' fun e w'' =>e= .returned v∧D w''
 |_=>False
def Nu (P:Program) (φ:Gh→Value) (D:Gh→World→Prop):Result Next→Prop
 | .ok (.value u) w' => ∃ g,u=φ g∧D g w'
 | .ok .skip w' => ∃ g,undef=φ g∧D g w'
 | .ok (.enter f args) w' =>Calls P f args w' fun e w'' => ∃ g,e= .returned (φ g)∧D g w''
 | .ok (.row row args) w' =>Rows P row args w' fun u w'' => ∃ g,u=φ g∧D g w''
 |_=>False
variable (V:Nat→Option (Gh→Value)) (C:(Nat→Gh)→Array Bool→World→Prop)
inductive GX (P:Program) (md:Region.Mode) (ops:Array Oper) (V:Nat→Option (Gh→Value)) (C:(Nat→Gh)→Array Bool→World→Prop) (γ:Nat→Gh) (i:Nat) (o:Oper) (v:Value) (a:Act):Prop
 |pass (hw:Region.wanted o (yielded ops a.tmps)=false) (hv:v=undef) (hC: ∀ L w,i∈Region.ready md ops L→C γ L w→C γ (L.setIfInBounds i true) w)
 |det (hw:Region.wanted o (yielded ops a.tmps)=true) (hV:V i=none) (hC: ∀ L w,i∈Region.ready md ops L→C γ L w→Nw P (C γ (L.setIfInBounds i true)) v ((execOp a.eval o).run P w))
 |non (hw:Region.wanted o (yielded ops a.tmps)=true) (φ:Gh→Value) (hV:V i=some φ) (hv:v=φ (γ i)) (hC: ∀ L w,i∈Region.ready md ops L→C γ L w→Nu P φ (fun g=>C (upd γ i g) (L.setIfInBounds i true)) ((execOp a.eval o).run P w))
variable {V C}
def wpX (P:Program) (md:Region.Mode) (ops:Array Oper) (V:Nat→Option (Gh→Value)) (C:(Nat→Gh)→Array Bool→World→Prop) (γ:Nat→Gh) (Q:Act→Prop):List Oper→Nat→Act→Prop
 | [],_,a=>Q a
 |o::r,k,a=> ∃ v,GX P md ops V C γ k o v a∧wpX P md ops V C γ Q r (k+1) (a.put o.dst v)
end
section
variable {P:Program} {n:Fr} {w0:World} {Q:bO} {s:az} {H:List Blk} {l rest:List Oper} {ty:TypeId} {p:String} {af:Array Edge}
def NC (w0:World) (l:List Oper) (HL:kZ→(Nat→Gh)→List Blk) (γ:Nat→Gh) (L:Array Bool) (w:World):Prop:=Cls w0 l (fun D=>HL D γ) L w
def WX (P:Program) (n:Fr) (w0:World) (l:List Oper) (V:Nat→Option (Gh→Value)) (HL:kZ→(Nat→Gh)→List Blk) (γ:Nat→Gh) (K:az→Prop) (rest:List Oper) (k:Nat) (s:az):Prop:=
 ∀ a,St n s a→(∀ j,rest[j]? =l[k+j]?)→wpX P .any l.toArray V (NC w0 l HL) γ (fun a' => ∃ s',St n s' a' ∧K s') rest k a
variable {V:Nat→Option (Gh→Value)} {HL:kZ→(Nat→Gh)→List Blk} {γ:Nat→Gh} {K:az→Prop} {k:Nat}
theorem py {o:Oper} (hl: ∀ j,(o::rest)[j]? =l[k+j]?):l[k]? =some o∧ ∀ j,rest[j]? =l[k+1+j]? :=
 ⟨by simpa using (hl 0).symm,fun j=>by have:=hl (j+1);simpa [Pr,PE 1 j] using this⟩
def gat (D:kZ) (γ:Nat→Gh):Nat→Gh:=fun i=>bif D i then γ i else (none,0)
def gok (l:List Oper) (s:az):Option (Nat × Bool)→Option Bool
 |none=>some true
 |some (j,dD)=>match gd l j with
  |none=>none
  |some d=>match look s d with
   |none=>none
   |some v=>some (kX v==some dD)
theorem gA {o:Oper} {g:Option (Nat × Bool)} {b:Bool} {a:Act} (hg:o.guard=g) (h:gok l s g=some b) (hs:St n s a):Region.wanted o (yielded l.toArray a.tmps)=b:=by
 unfold Region.wanted
 rw [hg]
 cases g with
 |none=>simp only [gok,Option.some.injEq] at h;exact h
 |some x=>
  obtain ⟨j,dD⟩:=x
  simp only [gok] at h
  split at h
  ·
   cases h
  ·
   rename_i d hd
   split at h
   ·
    cases h
   ·
    rename_i v hv
    simp only [Option.some.injEq] at h
    simp only [jI hs hd hv]
    exact h
variable {gu:Option (Nat × Bool)}
end
def fen (r:Option Nat):Fence:={ Fence.wide with round:=r }
theorem xa {r:Option Nat} {P:Program} {f:FuncId} {args:Array Value} {w:World} {R:Ending→World→Prop} (h:Calls P f args w R):CallsIn (fen r) 0 P f args w R:=
 (callsIn_wide (n:=0)).2 h
theorem H5 {r:Option Nat} {P:Program} {row:String} {args:Array Value} {w:World} {R:Value→World→Prop} (h:Rows P row args w R):RowsIn (fen r) 0 P row args w R:=
 fun c cs _=>let ⟨v,w',h1,h2⟩:=h c cs;⟨v,w',h1,stepsIn_wide.2 h2⟩
theorem od (r:Option Nat):(fen r).depth.isSome=true→1≤0:=fun h=>by simp [fen,Fence.wide] at h
theorem s6 {r:Option Nat} {P:Program} {o:Oper} {a:Act} {w:World} {next next' :Act→World→Prop} {Q1 Q2:Exit→Act→World→Prop} (hnd: ∀ c,o.op≠ .defer c) (hn: ∀ a w,next a w→next' a w) (hp: ∀ c a w,Q1 (.panic c) a w→Q2 (.panic c) a w) (ho:LetsOut Q1→LetsOut Q2)
  (h:o.wp P a w next Q1):o.wpIn (fen r) 0 P a w next' Q2:=by
 refine ⟨fun _ _=>trivial,?_⟩
 have hsem:o.semAt (fen r).round a.eval=execOp a.eval o:=Oper.semAt_eq _ _ _ hnd
 rw [hsem]
 unfold Oper.wp at h
 generalize (execOp a.eval o).run P w=x at h ⊢
 cases x with
 |ok x w' =>
  cases x<;>simp only [Oper.upon] at h<;>simp only [Oper.uponIn]
  case value v=>exact hn _ _ h
  case skip=>exact hn _ _ h
  case defer d=>exact hn _ _ h
  case enter f args=>
   refine ⟨od r,xa (Calls.mono h fun e w'' he=> ?_)⟩
   cases e with
   |returned v=>exact hn _ _ he
   |panicked c=>exact hp _ _ _ he
   |outgrown=>exact ho he
  case row k args=>exact ⟨od r,H5 (Rows.mono h fun v w'' he=>hn _ _ he)⟩
 |halt x w' =>cases x<;>simp only [Oper.upon] at h<;>simp only [Oper.uponIn]<;>exact hp _ _ _ h
def sF (l:List Oper):Bool:=l.all fun o=>match o.op with| .defer _=>false|_=>true
theorem uw {l:List Oper} (h:sF l=true): ∀ o∈l,∀ c,o.op≠ .defer c:=fun o ho c e=>by
 have:=OY.1 h o ho
 rw [e] at this
 cases this
theorem gk {r:Option Nat} {P:Program} {ops:Array Oper} {Q:Exit→Act→World→Prop} (hno: ¬ LetsOut Q): ∀ (l:List Oper) (a:Act) (w:World),(∀ o∈l,∀ c,o.op≠ .defer c)→wpList P ops Q l a w→wpListIn (fen r) 0 P ops Q l a w
 | [],_,_,_,h=>h
 |o::l,a,w,hnd,h=>by
  unfold wpList at h
  unfold wpListIn
  split
  ·
   rename_i hw
   rw [if_pos hw] at h
   rcases h with h|⟨_,h⟩
   ·
    exact s6 (hnd o NI) (fun a w h=>gk hno l a w (fun o ho=>hnd o (NQ _ ho)) h) (fun _ _ _ h=>h) (fun h=>h) h
   ·
    exact absurd h hno
  ·
   rename_i hw
   rw [if_neg hw] at h
   exact ⟨fun _ _=>trivial,gk hno l _ w (fun o ho=>hnd o (NQ _ ho)) h⟩
section
variable {P:Program} {n:Fr} {w0:World} {Q:bO} {s sb:az} {H:List Blk} {l:Nat}
def WR (P:Program) (n:Fr) (w0:World) (l:Nat) (c:Code) (Q:bO) (s:az) (H:List Blk):Prop:=
 ∀ a w,St n s a→Mem w0 w H→c.wpIn (fen (some l)) 0 P (post n w0 Q) a w
def NoOut (Q:bO):Prop:= ∀ s H,¬ Q .outgrown s H
theorem NoOut.post (h:NoOut Q): ¬ LetsOut (post n w0 Q):=fun ⟨_,_,s,H,_,_,hq⟩=>h s H hq
theorem Mt {id:Nat} (h:NoOut Q):NoOut (blk id Q):=fun s H hq=>h s H hq
theorem J0 (h:Q .normal s H):WR P n w0 l .skip Q s H:=fun _ _ hs hm=>wpIn_skip ⟨s,H,hs,hm,h⟩
theorem GK {id:Nat} {c:Code} (h:WR P n w0 l c (blk id Q) s H):WR P n w0 l (.block id c) Q s H:=by
 intro a w hs hm
 refine wpIn_block (wpIn_mono (h a w hs hm) ?_)
 rintro e a' w' ⟨s',H',h1,h2,h3⟩
 cases e with
 |exit id' =>
  simp only [Exit.inBlock,blk] at h3 ⊢
  split
  ·
   rename_i hid;rw [if_pos hid] at h3;exact ⟨s',H',h1,h2,h3⟩
  ·
   rename_i hid;rw [if_neg hid] at h3;exact ⟨s',H',h1,h2,h3⟩
 |_=>exact ⟨s',H',h1,h2,h3⟩
theorem EZ {id:Nat} {ops:List Oper} (hnd:sF ops=true) (hno:NoOut Q) (h:WL P n w0 ops.toArray ops Q s H):WR P n w0 l (.region id ops.toArray false) Q s H:=
 fun a w hs hm=>wpIn_region_lit (gk hno.post ops a w (uw hnd) (h a w hs hm))
def WLI (P:Program) (n:Fr) (w0:World) (ops:Array Oper) (rest:List Oper) (Q:bO) (s:az) (H:List Blk):Prop:=
 ∀ a w,St n s a→Mem w0 w H→wpListIn (fen none) 0 P ops (post n w0 Q) rest a w
theorem Fb {id:Nat} {ops:List Oper} (h:WLI P n w0 ops.toArray ops Q s H):W P n w0 (.region id ops.toArray false) Q s H:=
 fun a w hs hm=>(wpIn_wide (n:=0)).1 (wpIn_region_lit (h a w hs hm))
variable {ops:Array Oper} {rest:List Oper} {ty:TypeId} {p:String} {af:Array Edge}
theorem J3 (h:Q .normal s H):WLI P n w0 ops [] Q s H:=fun _ _ hs hm=>⟨s,H,hs,hm,h⟩
theorem LL {o:Oper} (hnd:sF [o]=true) (h:WL P n w0 ops [o] (fun e s' H' =>e= .normal∧WLI P n w0 ops rest Q s' H') s H):WLI P n w0 ops (o::rest) Q s H:=by
 intro a w hs hm
 have h1:=h a w hs hm
 have hnext: ∀ a w,wpList P ops (post n w0 fun e s' H' =>e= .normal∧WLI P n w0 ops rest Q s' H') [] a w→wpListIn (fen none) 0 P ops (post n w0 Q) rest a w:=by
  rintro a w ⟨s',H',h1,h2,_,h3⟩
  exact h3 a w h1 h2
 unfold wpList at h1
 unfold wpListIn
 split
 ·
  rename_i hw
  rw [if_pos hw] at h1
  rcases h1 with h1|⟨_,a0,w1,s',H'',_,_,he,_⟩
  ·
   refine s6 (uw hnd o NI) hnext ?_ ?_ h1
   ·
    rintro c a w ⟨s',H'',_,_,he,_⟩
    cases he
   ·
    rintro ⟨a0,w1,s',H'',_,_,he,_⟩
    cases he
  ·
   cases he
 ·
  rename_i hw
  rw [if_neg hw] at h1
  exact ⟨fun _ _=>trivial,hnext _ _ h1⟩
theorem E4 {d k:Nat} {c:Operand} {xs:List Operand} {vs:List Value} {ts:Array TypeId} {R:Value→List Blk→Prop} (hn:Nat.blt d n.sz=true) (hc:ev s c=some (.func (.yield k) #[] #[])) (hx:evs s xs=some vs)
  (hF: ∀ w,Mem w0 w H→YieldAt (fen none) 0 P k vs.toArray w fun e w' => ∃ v H',e= .returned v∧Mem w0 w' H' ∧R v H') (h: ∀ v H',R v H' →WLI P n w0 ops rest Q ((d,v)::s) H'):
  WLI P n w0 ops (⟨some d,.call { callee:= .value c,args:=xs.toArray,argTypes:=ts },ty,p,af,none⟩::rest) Q s H:=by
 intro a w hs hm
 unfold wpListIn
 simp only [Region.wanted,if_true]
 obtain ⟨fn,tmps,assign,body,hy,hR⟩:=hF w hm
 have hrun:(execOp a.eval ⟨some d,.call { callee:= .value c,args:=xs.toArray,argTypes:=ts },ty,p,af,none⟩).run P w= .ok (.round k fn tmps assign body) w:=by
  have hmap:=gh hs hx
  simp [execOp,resolve,hs.eval c _ hc,Deferred.ofValue,invoke,hmap,hy]
 refine ⟨fun _ _=>trivial,?_⟩
 have hsem:Oper.semAt (fen none).round a.eval ⟨some d,.call { callee:= .value c,args:=xs.toArray,argTypes:=ts },ty,p,af,none⟩=execOp a.eval ⟨some d,.call { callee:= .value c,args:=xs.toArray,argTypes:=ts },ty,p,af,none⟩:=rfl
 rw [hsem,hrun]
 refine ⟨od none,RoundIn.mono hR ?_⟩
 rintro e w' ⟨v,H',rfl,hm',hv⟩
 exact h v H' hv _ _ (hs.put (OH ▸ hn) _) hm'
theorem Lw {d:Nat} {op:Op} {v:Value} (hnd:sF [⟨some d,op,ty,p,af,none⟩]=true) (hn:Nat.blt d n.sz=true) (hv:VOp P w0 s H op ty v) (h:WLI P n w0 ops rest Q ((d,v)::s) H):WLI P n w0 ops (⟨some d,op,ty,p,af,none⟩::rest) Q s H:=
 LL hnd (ak hn hv (jJ ⟨rfl,h⟩))
theorem BN {d k:Nat} {c:Operand} {xs:List Operand} {vs:List Value} {ts:Array TypeId} {H' T:List Blk} {A A' :List Blk→Prop} (hn:Nat.blt d n.sz=true) (hc:ev s c=some (.func (.yield k) #[] #[])) (hx:evs s xs=some vs)
  (hM:MSub H' H) (hF: ∀ w,Mem w0 w H' →YieldAt (fen none) 0 P k vs.toArray w fun e w' => ∃ b H2,e= .returned (.bool b)∧Mem w0 w' (H2++T)∧(if b then A H2 else A' H2)) (h: ∀ b H2,(if b then A H2 else A' H2)→WLI P n w0 ops rest Q ((d,.bool b)::s) (H2++T)):
  WLI P n w0 ops (⟨some d,.call { callee:= .value c,args:=xs.toArray,argTypes:=ts },ty,p,af,none⟩::rest) Q s H:=by
 refine E4 (R:=fun v H' => ∃ b H2,v= .bool b∧H' =H2++T∧(if b then A H2 else A' H2)) hn hc hx (fun w hm=> ?_) ?_
 ·
  obtain ⟨fn,tmps,assign,body,hy,hR⟩:=hF w (hM.use hm)
  refine ⟨fn,tmps,assign,body,hy,RoundIn.mono hR ?_⟩
  rintro e w' ⟨b,H2,rfl,hm',hq⟩
  exact ⟨_,_,rfl,hm',b,H2,rfl,rfl,hq⟩
 ·
  rintro v H' ⟨b,H2,rfl,rfl,hq⟩
  exact h b H2 hq
def Nt {α:Type} (P:Program) (f:FuncId) (caps:List Value) (w0:World) (Hc:List Blk) (us:List α) (encs:α→List Value):Prop:=
 ∀ (l:Nat) (I J:List α→List Blk→Prop) (H0:List Blk),
  (∀ pre u post,us=pre++u::post→ ∀ H1 F,I pre H1→ ∀ w,Mem w0 w (H1++(Hc++F))→YieldAt (fen none) 0 P l (encs u).toArray w fun e w' => ∃ b H2,e= .returned (.bool b)∧Mem w0 w' (H2++(Hc++F))∧(if b then I (pre++ [u]) H2 else J (pre++ [u]) H2))→
  I [] H0→FnIn P f (.func (.yield l) #[] #[]::caps) w0 (H0++Hc) fun _ H' => ∃ H1,(I us H1∨ ∃ pre,J pre H1)∧MSub (H1++Hc) H'
def CW (D:Nat):Deferred:={ target:= .collected D,args:= #[] }
def jW (D:Nat):Blk:= .obj D (.deferred (some []))
theorem qL {w:World} {t T T' g:Nat} {v:Value} {a:Act} [One P T] (hs:St n s a) (hm:Mem w0 w H) (ht:look s t=some (.pointer (some ⟨g,0,none⟩))) (hi:In (.box g T' [v]) H):
  (do let b ← asAddr (a.tmps.getD t undef);loadVar T b).run P w= .ok v w:=by
 have h1:=hs.has t _ ht
 have hc:=hm.cells_box hi 0 v rfl
 have h2:=gP (P:=P) (t:=T) hc
 simp [Oj,h1,asAddr,h2]
def WT (P:Program) (n:Fr) (w0:World) (c:Code) (B:Exit→Act→World→Prop) (s:az) (H:List Blk):Prop:=
 ∀ a w,St n s a→Mem w0 w H→c.wpIn (fen none) 0 P B a w
def bT (n:Fr) (w0:World) (B:Exit→Act→World→Prop):bO:=fun e s H=> ∀ a w,St n s a→Mem w0 w H→B e a w
def ve (P:Program) (fn:Func) (w0:World) (R:Value→List Blk→Prop):Exit→Act→World→Prop:=
 bodyPostM (fen none) 0 P fn fun e w' => ∃ v H',e= .returned v∧Mem w0 w' H' ∧R v H'
variable {B:Exit→Act→World→Prop}
theorem I9 {m:Nat} {f:FuncId} {fn:Func} {c:Code} {args:List Value} {R:Value→List Blk→Prop} (hf:P.funcs[f]? =some fn) (hb:fn.body=some c) (hn:fn.ntmps=m) (hle:Nat.ble args.length m=true)
  (h:WT P ⟨m,[]⟩ w0 c (ve P fn w0 R) (qM args 0) H):FnIn P f args w0 H R:=by
 intro w hm
 have hle' :args.length≤m:=by simpa using hle
 refine (callsIn_wide (n:=0)).1 (callsIn_of_wp_marks hf hb trivial (h { tmps:=args.toArray++Array.replicate (fn.ntmps - args.toArray.size) undef,defers:= [] } w ⟨?_,rfl,?_⟩ hm))
 ·
  simp [hn];omega
 ·
  intro t v ht
  rw [lB] at ht
  simp only [NY,if_true,PJ] at ht
  have hlt:t<args.length:=(NV.1 ht).1
  rw [O9 (by simpa using hlt)]
  simpa using ht
theorem AA {m:Nat} {f:FuncId} {fn:Func} {c:Code} {args:List Value} {w:World} {R:Value→List Blk→Prop} (hf:P.funcs[f]? =some fn) (hb:fn.body=some c) (hn:fn.ntmps=m) (hle:Nat.ble args.length m=true)
  (h:WT P ⟨m,[]⟩ w c (ve P fn w R) (qM args 0) []):aQ P f args w R:=I9 hf hb hn hle h w (Mem.refl w)
theorem LJ {x y:Code} (h:W P n w0 x (thn (WT P n w0 y B) (bT n w0 B)) s H):WT P n w0 (.seq x y) B s H:=by
 intro a w hs hm
 refine wpIn_seq (wpIn_mono ((wpIn_wide (n:=0)).2 (h a w hs hm)) ?_)
 rintro e a' w' ⟨s',H',h1,h2,h3⟩
 cases e with
 |normal=>exact h3 a' w' h1 h2
 |_=>exact h3 a' w' h1 h2
theorem JZ {c:Code} (h:W P n w0 c (bT n w0 B) s H):WT P n w0 c B s H:=
 fun a w hs hm=>wpIn_mono ((wpIn_wide (n:=0)).2 (h a w hs hm)) fun _ _ _ ⟨_,_,h1,h2,h3⟩=>h3 _ _ h1 h2
def M0 (P:Program) (z:Code) (B:Exit→Act→World→Prop):Exit→Act→World→Prop:=Exit.then (z.wpIn (fen none) 0 P B) B
theorem GI {x y z:Code} (h:WT P n w0 (.seq x y) (M0 P z B) s H):WT P n w0 (.seq (.seq x y) z) B s H:=fun a w hs hm=>wpIn_seq (h a w hs hm)
theorem F8 {z:Code} (h:WT P n w0 z B s H):bT n w0 (M0 P z B) .normal s H:=fun a w hs hm=>h a w hs hm
theorem yQ {id:Nat} {l:Array Oper} {d:Bool} {y:Code} (h:W P n w0 (.region id l d) (thn (WT P n w0 y B) (bT n w0 B)) s H):WT P n w0 (.seq (.region id l d) y) B s H:=LJ h
theorem yR (h:W P n w0 .ret (bT n w0 B) s H):WT P n w0 .ret B s H:=JZ h
theorem Jo {m D:Nat} {fn:Func} {R:Value→List Blk→Prop} {e:Exit} {H2:List Blk} (hsel:Sel (jW D) H H2) (h:bg P fn ⟨m,[CW D]⟩ w0 R e s H2):bT ⟨m,[CW D]⟩ w0 (ve P fn w0 R) e s H:=by
 obtain ⟨he,v,H',hsub,hr,hR⟩:=h
 intro a w hs hm
 have hm1:=hm.sel hsel
 have hD:w.heap[D]? =some (.deferred (some [])):=(hm1.on _ NI).1
 have hm2:Mem w0 (w.putObj D (.deferred none)) H2:=by
  have hlt:D<w.heap.size:=(Oz.1 hD).1
  exact (hm1.upd (b' := .obj D (.deferred none)) (grownBy_putObj' w D _) (World.putObj_heap_same hlt) fun k hk=> .inl hk).tail
 have hp:LeavesInM (fen none) 0 P fn a.tmps (fun e w' => ∃ v H',e= .returned v∧Mem w0 w' H' ∧R v H') a.defers .returning w:=by
  rw [hs.defers]
  refine ⟨by simp,.inl ⟨D,_,rfl,run_takeDeferred hD,?_⟩⟩
  exact ⟨v,hr a _ hs hm2,v,H',rfl,hsub.use hm2,hR⟩
 rcases he with rfl|rfl<;>exact hp
def oq (K:az→List Blk→Prop):bO:=fun e s H=>e= .normal∧K s H
def o7 {α:Type} (U:List α→List Blk→Prop) (X:List Blk→Prop) (xs:List α) (F:List Blk):bO
 | .normal,_,H=> ∃ HU,MSub (HU++F) H∧U xs HU
 | .ret,_,H=> ∃ HU,MSub (HU++F) H∧X HU
 |_,_,_=>False
theorem Kt {α:Type} {U:List α→List Blk→Prop} {X:List Blk→Prop} {xs:List α} {F:List Blk} (HU:List Blk) (h1:MSub (HU++F) H) (h2:U xs HU):o7 U X xs F .normal s H:=⟨HU,h1,h2⟩
theorem JN {K:az→List Blk→Prop} (h:K s H):oq K .normal s H:=⟨rfl,h⟩
theorem FB {α:Type} {U:List α→List Blk→Prop} {X:List Blk→Prop} {xs:List α} {F:List Blk}:NoOut (o7 U X xs F):=fun _ _ h=>h
theorem qe (m:Nat): ∀ (ps:List Tmp) (vs:List Value) (tm:Array Value) (s:az),tm.size=m→(∀ t v,look s t=some v→tm[t]? =some v)→ps.all (fun t=>Nat.blt t m)=true→
  ((ps.zip vs).foldl (fun (tmps:Array Value) (x:Tmp × Value)=>tmps.setIfInBounds x.1 x.2) tm).size=m∧ ∀ t v,look ((ps.zip vs).reverse++s) t=some v→((ps.zip vs).foldl (fun (tmps:Array Value) (x:Tmp × Value)=>tmps.setIfInBounds x.1 x.2) tm)[t]? =some v
 | [],vs,tm,s,h1,h2,_=>by simpa using ⟨h1,h2⟩
 |q::ps,[],tm,s,h1,h2,_=>by simpa using ⟨h1,h2⟩
 |q::ps,u::vs,tm,s,h1,h2,h3=>by
  simp only [PP,NK] at h3
  have hq:q<m:=by simpa using h3.1
  have h:=qe m ps vs (tm.setIfInBounds q u) ((q,u)::s) (by simpa using h1) (fun t v ht=>by
   rw [iA] at ht
   by_cases e:q=t
   ·
    subst e
    rw [if_pos rfl] at ht
    injection ht with ht
    subst ht
    simp [h1,hq]
   ·
    rw [if_neg e] at ht
    rw [PN e]
    exact h2 t v ht) h3.2
  rw [List.zip_cons_cons,PH,List.reverse_cons,OA]
  exact h
theorem GJ {α:Type} {id:Nat} {g:Operand} {ps:List Tmp} {assign body:Code} {m:Nat} {f:FuncId} [hcf:Callable P f] {caps:List Value} {us:List α} {encs:α→List Value} {Hc HU0:List Blk} (hg:ev s g=some (.func (.func f) #[] caps.toArray))
  (hps: ∀ u,(encs u).length=ps.length) (hpn:ps.all (fun t=>Nat.blt t m)=true) (hseq:Nt P f caps w0 Hc us encs) (U:List α→List Blk→Prop) (X:List Blk→Prop) (hH:MSub (HU0++Hc) H) (h0:U [] HU0)
  (hround: ∀ l pre u post,us=pre++u::post→ ∀ HU,U pre HU→ ∀ F F',WR P ⟨m,[]⟩ w0 l assign (oq fun s1 H1=> ∃ HU1,MSub (HU1++F) H1∧WR P ⟨m,[]⟩ w0 l body (o7 U X (pre++ [u]) F') s1 (HU1++F')) ((ps.zip (encs u)).reverse++s) (HU++F))
  (hdone: ∀ D HU,U us HU→bT ⟨m,[CW D]⟩ w0 B .normal s (jW D::(HU++Hc)))
  (hexit: ∀ D HU,X HU→bT ⟨m,[CW D]⟩ w0 B .ret s (jW D::(HU++Hc))):
  WT P ⟨m,[]⟩ w0 (.block id (.rangeFunc g ps.toArray assign body)) B s H:=by
 intro a w hs hm
 have hm0:Mem w0 w (HU0++Hc):=hH.use hm
 refine wpIn_block (wpIn_rangeFunc fun fn _=> ?_)
 obtain ⟨rec,hrec⟩: ∃ rec:LoopState→Option Code→Loop,rec=fun st pe=>{ state:=st,pending:=pe,fn,tmps:=a.tmps,params:=ps.toArray,assign,body,defers:=w.heap.size }:=⟨_,rfl⟩
 obtain ⟨W1,hW1⟩: ∃ W1,(w.alloc (.deferred (some []))).alloc (.loop (rec .ready none))=W1:=⟨_,rfl⟩
 have hm1:Mem w0 W1 (.obj (w.heap.size+1) (.loop (rec .ready none))::jW w.heap.size::(HU0++Hc)):=by
  have h1:Mem w0 (w.alloc (.deferred (some []))) (jW w.heap.size::(HU0++Hc)):=hm0.new (World.grownBy_alloc w _ none) (World.alloc_heap_new w _) fun k hk=>by
   simp only [jW,Blk.key,Option.some.injEq] at hk;omega
  rw [← hW1]
  refine h1.new (World.grownBy_alloc _ _ none) ?_ fun k hk=> ?_
  ·
   have:=World.alloc_heap_new (w.alloc (.deferred (some []))) (.loop (rec .ready none))
   rwa [World.size_alloc] at this
  ·
   simp only [Blk.key,Option.some.injEq] at hk
   rw [World.size_alloc]
   omega
 have hcall:=hseq (w.heap.size+1) (fun pre H1=> ∃ HU,U pre HU∧H1= .obj (w.heap.size+1) (.loop (rec .ready none))::jW w.heap.size::HU)
  (fun _ H1=> ∃ HU,X HU∧H1= .obj (w.heap.size+1) (.loop (rec .done (some .ret)))::jW w.heap.size::HU)
  (.obj (w.heap.size+1) (.loop (rec .ready none))::jW w.heap.size::HU0) ?_ ⟨HU0,h0,rfl⟩ W1 (by simpa using hm1)
 rotate_left
 ·
  -- one round
  rintro pre u post hus H1 F ⟨HU,hU,rfl⟩ w1 hmr
  have hl:w1.heap[w.heap.size+1]? =some (.loop (rec .ready none)):=(hmr.on _ NI).1
  have hy:=run_yield (P:=P) (args:=(encs u).toArray) hl (by rw [hrec];simp [hps u])
  rw [hrec] at hy
  have hzip:(ps.toArray.zip (encs u).toArray).foldl (fun (tmps:Array Value) (x:Tmp × Value)=>tmps.setIfInBounds x.1 x.2) a.tmps=(ps.zip (encs u)).foldl (fun (tmps:Array Value) (x:Tmp × Value)=>tmps.setIfInBounds x.1 x.2) a.tmps:=by
   rw [← Array.foldl_toList];simp
  have hpar:=qe m ps (encs u) a.tmps s hs.size hs.has hpn
  refine ⟨fn,_,assign,body,hy,roundIn_of_wpIn trivial ?_⟩
  have hin:(fen none).inRound (w.heap.size+1)=fen (some (w.heap.size+1)):=rfl
  rw [hin]
  have hperm: ∀ (o:Blk) (HU:List Blk),((o::jW w.heap.size::HU)++(Hc++F)).Perm (HU++(o::jW w.heap.size::(Hc++F))):=fun o HU=>by
   have h1:((o::jW w.heap.size::HU)++(Hc++F))= [o,jW w.heap.size]++(HU++(Hc++F)):=by simp
   have h2:(HU++(o::jW w.heap.size::(Hc++F)))=HU++([o,jW w.heap.size]++(Hc++F)):=by simp
   have h3:=(O7 (l₁:= [o,jW w.heap.size]) (l₂:=HU)).append_right (Hc++F)
   rw [OA,OA] at h3
   rw [h1,h2]
   exact h3
  have hst:St ⟨m,[]⟩ ((ps.zip (encs u)).reverse++s) { tmps:=(ps.toArray.zip (encs u).toArray).foldl (fun (tmps:Array Value) (x:Tmp × Value)=>tmps.setIfInBounds x.1 x.2) a.tmps,defers:= [] }:=by
   rw [hzip]
   exact ⟨hpar.1,rfl,hpar.2⟩
  refine wpIn_mono (hround (w.heap.size+1) pre u post hus HU hU (.obj (w.heap.size+1) (.loop (rec .ready none))::jW w.heap.size::(Hc++F)) (.obj (w.heap.size+1) (.loop (rec .busy none))::jW w.heap.size::(Hc++F)) _ w1 hst (hmr.perm (hperm _ _))) ?_
  rintro e a1 w2 ⟨s1,H1,hs1,hm2,rfl,HU1,hsub,hbody⟩
  have hm3:=(hsub.use hm2).perm (hperm _ _).symm
  have hl2:w2.heap[w.heap.size+1]? =some (.loop (rec .ready none)):=(hm3.on _ NI).1
  have turn: ∀ (w2:World) (st:LoopState) (pe:Option Code) (HU1:List Blk) (o' :Obj),Mem w0 w2 ((.obj (w.heap.size+1) (.loop (rec st pe))::jW w.heap.size::HU1)++(Hc++F))→Mem w0 (w2.putObj (w.heap.size+1) o') ((.obj (w.heap.size+1) o' ::jW w.heap.size::HU1)++(Hc++F)):=by
   intro w2 st pe HU1 o' hm3
   have hl2:w2.heap[w.heap.size+1]? =some (.loop (rec st pe)):=(hm3.on _ NI).1
   exact Mem.upd (b:= .obj (w.heap.size+1) (.loop (rec st pe))) (b' := .obj (w.heap.size+1) o') hm3 (grownBy_putObj' w2 _ _) (World.putObj_heap_same (Oz.1 hl2).1) fun k hk=> .inl hk
  refine ⟨_,run_beginRound hl2 (by rw [hrec]),?_⟩
  have hb:=turn w2 _ _ HU1 (.loop { rec .ready none with state:= .busy }) hm3
  have hbusy:({ rec .ready none with state:= .busy }:Loop)=rec .busy none:=by rw [hrec]
  rw [hbusy] at hb ⊢
  refine wpIn_mono (hbody a1 _ hs1 (hb.perm (hperm _ _))) ?_
  rintro e a3 w3 ⟨s3,H3,hs3,hm4,hq⟩
  cases e with
  |normal=>
   obtain ⟨HU2,hsub2,hU2⟩:=hq
   have hm5:=(hsub2.use hm4).perm (hperm _ _).symm
   have hl5:w3.heap[w.heap.size+1]? =some (.loop (rec .busy none)):=(hm5.on _ NI).1
   refine ⟨_,_,run_endRound none hl5,true,_,rfl,turn w3 _ _ HU2 _ hm5,?_⟩
   refine ⟨HU2,hU2,?_⟩
   rw [hrec]
   rfl
  |ret=>
   obtain ⟨HU2,hsub2,hX⟩:=hq
   have hm5:=(hsub2.use hm4).perm (hperm _ _).symm
   have hl5:w3.heap[w.heap.size+1]? =some (.loop (rec .busy none)):=(hm5.on _ NI).1
   refine ⟨_,_,run_endRound (some .ret) hl5,false,_,rfl,turn w3 _ _ HU2 _ hm5,?_⟩
   refine ⟨HU2,hX,?_⟩
   rw [hrec]
   rfl
  |exit id=>exact hq.elim
  |goto t=>exact hq.elim
  |panic c=>exact hq.elim
  |outgrown=>exact hq.elim
 have hev:=hs.eval g _ hg
 refine ⟨w.heap.size+1,[CW w.heap.size],W1,{ target:= .fn (.func f) caps.toArray,args:= #[.func (.yield (w.heap.size+1)) #[] #[]] },W1,f,#[.func (.yield (w.heap.size+1)) #[] #[]]++caps.toArray,W1,?_,?_,fun _ _=>trivial,?_,od none,?_⟩
 ·
  rw [← hW1,hrec]
  exact run_enterLoop_outer _ _ _ _ _
 ·
  simp only [resolve,hev]
  simp [go_sem]
 ·
  simp [invoke,hcf.out]
 ·
  have harr:(#[.func (.yield (w.heap.size+1)) #[] #[]]++caps.toArray:Array Value)=(.func (.yield (w.heap.size+1)) #[] #[]::caps).toArray:=by simp
  rw [harr]
  refine CallsIn.mono (xa (r:=none) hcall) ?_
  rintro e w2 ⟨v,H',rfl,hm2,H1,hI,hsub⟩
  have hm3:=hsub.use hm2
  have fin: ∀ (st:LoopState) (pe:Option Code) (HU:List Blk),st≠ .busy→Mem w0 w2 ((.obj (w.heap.size+1) (.loop (rec st pe))::jW w.heap.size::HU)++Hc)→
    ∃ w4,(Instr.endLoop (w.heap.size+1)).run P w2= .ok pe w4∧Mem w0 w4 (jW w.heap.size::(HU++Hc)):=by
   intro st pe HU hst hm4
   have hl:w2.heap[w.heap.size+1]? =some (.loop (rec st pe)):=(hm4.on _ NI).1
   have hr:=run_endLoop (P:=P) hl (by rw [hrec];exact hst)
   have hp:(rec st pe).pending=pe:=by rw [hrec]
   rw [hp] at hr
   refine ⟨_,hr,?_⟩
   exact (Mem.upd (b:= .obj (w.heap.size+1) (.loop (rec st pe))) (b' := .obj (w.heap.size+1) (.loop { rec st pe with state:= .exhausted,pending:=pe })) hm4 (grownBy_putObj' w2 _ _) (World.putObj_heap_same (Oz.1 hl).1) fun k hk=> .inl hk).tail
  have hst:St ⟨m,[CW w.heap.size]⟩ s { a with defers:= [CW w.heap.size]++a.defers }:=⟨hs.size,by rw [hs.defers];rfl,hs.has⟩
  rcases hI with ⟨HU,hU,rfl⟩|⟨pre,HU,hX,rfl⟩
  ·
   obtain ⟨w4,hr,hm4⟩:=fin _ _ HU (by decide) hm3
   exact ⟨none,w4,hr,hdone _ HU hU _ w4 hst hm4⟩
  ·
   obtain ⟨w4,hr,hm4⟩:=fin _ _ HU (by decide) hm3
   exact ⟨some .ret,w4,hr,wpIn_ret (hexit _ HU hX _ w4 hst hm4)⟩
end
section
variable {P:Program} {n:Fr} {w0:World} {Q:bO} {s:az} {H:List Blk} {ty:TypeId}
theorem tG {x ix:Operand} {t e g off m j sz:Nat} {k:IntKind} [ht:Und P t (.array m e)] [hs:Size P e sz] (hx:ev s x=some (.pointer (some ⟨g,off,none⟩))) (hi:ev s ix=some (.int k (j:Nat)))
  (hj:j<m):VOp P w0 s H (.indexAddr t x ix) ty (.pointer (some ⟨g,off+j*sz,none⟩)):=fun ρ w _ _ _ _ hρ _=>by
 obtain ⟨i,h1,h2⟩:=hs.out
 have hj' :(j:Int)<(m:Int):=by omega
 have h0:(0:Int)≤(j:Int):=by omega
 have hadd:(⟨g,off,none⟩:Addr).add (j*sz)=⟨g,off+j*sz,none⟩:=by
  unfold Addr.add;split<;>simp_all
 simp [execOp,hρ x _ hx,hρ ix _ hi,Instr.indexAt,run_underlying ht.out,asIntOf,sizeOf,typeInfo,h1,h2,hadd,Instr.sureAddr]
 try omega
theorem Ff {x ix:Operand} {t e g off m sz:Nat} {k:IntKind} [ht:Und P t (.array m e)] [hs:Size P e sz] (hx:ev s x=some (.pointer (some ⟨g,off,none⟩))) (hi:ev s ix=some (.int k 0)) (hj:Nat.blt 0 m=true):
  VOp P w0 s H (.indexAddr t x ix) ty (.pointer (some ⟨g,off,none⟩)):=by
 have h:=tG (P:=P) (w0:=w0) (H:=H) (ty:=ty) (t:=t) (j:=0) hx hi (by simpa using hj)
 rwa [Nat.zero_mul,PB] at h
theorem Fe {x ix:Operand} {t e g off m sz:Nat} {k:IntKind} [ht:Und P t (.array m e)] [hs:Size P e sz] (hx:ev s x=some (.pointer (some ⟨g,off,none⟩))) (hi:ev s ix=some (.int k 1)) (hj:Nat.blt 1 m=true):
  VOp P w0 s H (.indexAddr t x ix) ty (.pointer (some ⟨g,off+sz,none⟩)):=by
 have h:=tG (P:=P) (w0:=w0) (H:=H) (ty:=ty) (t:=t) (j:=1) hx hi (by simpa using hj)
 rwa [Qx] at h
theorem F6 {α:Type} {enc:α→List Value} {m:Nat} (h: ∀ a,(enc a).length=m) (L:List α) (i k:Nat) (hi:i<L.length) (hk:k<m) (v:Value) (a:α) (ha:(enc L[i]).set k v=enc a):
  (L.flatMap enc).set (i*m+k) v=(L.set i a).flatMap enc:=by
 rw [← AB h L i hi a]
 have hl:((L.flatMap enc).take (i*m)).length=i*m:=by
  have h1:=aI h L
  have h2:i*m≤L.length*m:=Nat.mul_le_mul_right _ (by omega)
  rw [NZ];omega
 have h1:L.flatMap enc=(L.flatMap enc).take (i*m)++(enc L[i]++(L.flatMap enc).drop (i*m+m)):=by
  rw [← fw h L i hi]
  conv=>lhs;rw [← OE (i*m) (L.flatMap enc)]
  congr 1
  conv=>lhs;rw [← OE m ((L.flatMap enc).drop (i*m))]
  rw [O0]
 generalize (L.flatMap enc).take (i*m)=X at h1 hl
 generalize (L.flatMap enc).drop (i*m+m)=S at h1
 rw [h1,PV _ _ (by omega),hl,Nat.add_sub_cancel_left,List.set_append_left _ _ (by rw [h];exact hk),ha]
 simp
end
end Go.SL
