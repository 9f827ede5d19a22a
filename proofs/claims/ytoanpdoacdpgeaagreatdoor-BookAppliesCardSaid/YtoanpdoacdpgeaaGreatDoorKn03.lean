/-
  Lemmas and walks, put together: Sl5.
-/
import Derived.Test.YtoanpdoacdpgeaaGreatDoorKn02
set_option linter.unusedSimpArgs false
set_option linter.unusedVariables false
set_option maxRecDepth 20000
namespace Go.SL
open Go Go.RowKit
section
variable {P:Program} {n:Fr} {w0:World} {Q:bQ} {s:az} {H:List Blk} {l rest:List Oper} {ty:TypeId} {p:String} {af:Array Edge}
theorem Gt {x y:Operand} {k k' :IntKind} {a:Int} {m:Nat} {t t' :TypeId} (hx:ev s x=some (.int k a)) (hy:ev s y=some (.int k' (m:Nat))) (hm:Nat.ble m k.bits=true):
  VOp P w0 s H (.binOp .shr t x y t') ty (.int k (a / 2 ^ m)):=fun ρ w _ _ _ _ hρ _=>by
 have hm' :m≤k.bits:=by simpa using hm
 have h0:(0:Int)≤(m:Int):=by omega
 simp [execOp,hρ x _ hx,hρ y _ hy,eqGuard,binOp,shift_shr_any k k' a m h0,O1 hm']
theorem rU {f:FuncId} {caps:List Operand} {vs:List Value} (hc:evs s caps=some vs):VOp P w0 s H (.makeFunc (.func f) #[] caps.toArray) ty (.func (.func f) #[] vs.toArray):=fun ρ w _ _ _ _ hρ _=>by
 have h: ∀ {xs:List Operand} {vs:List Value},evs s xs=some vs→xs.map ρ=vs:=by
  intro xs
  induction xs with
  |nil=>intro vs h;simp only [evs,Option.some.injEq] at h;simp [← h]
  |cons x r ih=>
   intro vs h
   simp only [evs] at h
   split at h
   ·
    rename_i v vs' hv hvs
    simp only [Option.some.injEq] at h
    rw [← h,NM,ih hvs,hρ x v hv]
   ·
    cases h
 simp [execOp,Instr.makeFunc,h hc]
def H9 (s:az):List (Nat × Operand)→Option (List (Nat × Value))
 | []=>some []
 |(i,x)::r=>match ev s x,H9 s r with
  |some v,some vs=>some ((i,v)::vs)
  |_,_=>none
class Struct (P:Program) (t:TypeId) (places:outParam (List (Nat × Nat))) (zs:outParam (List Value)):Prop where
 out: ∃ it z fs,P.info? t=some it∧P.underlying t=some (.struct fs)∧it.zero=some z∧fs.toList.mapM (fun f=>(P.info? f.type).map fun i=>(f.offset,i.size))=some places∧z.cells=zs.toArray
def jY:Value→List Value
 | .agg cs=>cs.toList
 |v=> [v]
theorem wz (v:Value):v.cells.toList=jY v:=by cases v<;>rfl
def zX (places:List (Nat × Nat)):List Value→List (Nat × Value)→Option (List Value)
 |cells,[]=>some cells
 |cells,(i,v)::r=>match places[i]? with
  |none=>none
  |some (off,size)=>bif Nat.beq (jY v).length size && Nat.ble (off+(jY v).length) cells.length then zX places (cells.take off++jY v++cells.drop (off+(jY v).length)) r else none
theorem v6 (off:Nat): ∀ (cs:List Value) (k:Nat) (cells:List Value),off+k+cs.length≤cells.length→
  (cs.zipIdx k).foldl (fun (a:Array Value) (x:Value × Nat)=>a.setIfInBounds (off+x.2) x.1) cells.toArray=(cells.take (off+k)++cs++cells.drop (off+k+cs.length)).toArray
 | [],k,cells,h=>by simp
 |c::cs,k,cells,h=>by
  simp only [NB] at h
  have h1:off+k<cells.length:=by omega
  rw [List.zipIdx_cons,O8]
  have hset:(cells.toArray.setIfInBounds (off+k) c)=(cells.set (off+k) c).toArray:=by simp
  rw [hset,v6 off cs (k+1) (cells.set (off+k) c) (by simp;omega)]
  congr 1
  have e1:(cells.set (off+k) c).take (off+(k+1))=cells.take (off+k)++ [c]:=by
   rw [← oD cells (off+k) c h1,show off+(k+1)=(off+k)+1 by omega,Po (by simp;omega)]
   rw [NQ (by simp;omega)]
  have e2:(cells.set (off+k) c).drop (off+(k+1)+cs.length)=cells.drop (off+k+(c::cs).length):=by
   rw [List.drop_set_of_lt (by omega)]
   simp only [NB]
   congr 1
   omega
  rw [e1,e2]
  simp
theorem zW (places:List (Nat × Nat)): ∀ (ps:List (Nat × Value)) (cells out:List Value),zX places cells ps=some out→Instr.fill (places.toArray[·]?) cells.toArray ps=some out.toArray
 | [],cells,out,h=>by simp only [zX,Option.some.injEq] at h;simp [Instr.fill,h]
 |(i,v)::r,cells,out,h=>by
  simp only [zX] at h
  simp only [Instr.fill,NZ]
  cases hp:places[i]? with
  |none=>rw [hp] at h;cases h
  |some x=>
   obtain ⟨off,size⟩:=x
   rw [hp] at h
   dsimp only at h ⊢
   have hsz:v.cells.size=(jY v).length:=by rw [← wz];simp
   cases hb:(Nat.beq (jY v).length size && Nat.ble (off+(jY v).length) cells.length) with
   |false=>rw [hb] at h;cases h
   |true=>
    rw [hb] at h
    simp only [cond_true] at h
    simp only [Nm] at hb
    have h1:=NP hb.1
    have h2:=OP hb.2
    rw [if_neg (by simp [hsz,h1];omega)]
    have hf:=v6 off (jY v) 0 cells (by simpa using h2)
    have hz:v.cells.zipIdx.toList=(jY v).zipIdx 0:=by rw [← wz];simp
    rw [← Array.foldl_toList,hz]
    have:=zW places r _ out h
    simp only [O2] at hf
    rw [hf]
    simpa using this
theorem JI {t:TypeId} {places:List (Nat × Nat)} {zs cells ys:List Value} {ps:List (Nat × Operand)} {qs:List (Nat × Value)} [hS:Struct P t places zs] (hq:H9 s ps=some qs) (hf:zX places zs qs=some cells) (hn:qX cells=some ys):
  VOp P w0 s H (.build t ps.toArray) ty (.agg ys.toArray):=fun ρ w _ _ _ _ hρ _=>by
 obtain ⟨it,z,fs,h1,h2,h3,h4,h5⟩:=hS.out
 have hmap: ∀ {ps:List (Nat × Operand)} {qs:List (Nat × Value)},H9 s ps=some qs→ps.map (fun (x:Nat × Operand)=>(x.1,ρ x.2))=qs:=by
  intro ps
  induction ps with
  |nil=>intro qs h;simp only [H9,Option.some.injEq] at h;simp [← h]
  |cons q r ih=>
   intro qs h
   obtain ⟨i,x⟩:=q
   simp only [H9] at h
   split at h
   ·
    rename_i v vs hv hvs
    simp only [Option.some.injEq] at h
    rw [← h,NM,ih hvs,hρ x v hv]
   ·
    cases h
 have hb:P.built t (ps.map fun (x:Nat × Operand)=>(x.1,ρ x.2))=some cells.toArray:=by
  unfold Program.built
  simp only [h1,h2,h3,h4]
  rw [hmap hq,h5]
  exact zW places qs zs cells hf
 have hr:=run_build (P:=P) w t (ps.map fun (x:Nat × Operand)=>(x.1,ρ x.2)).toArray cells.toArray (by simpa using hb)
 rw [ik hn]
 simp only [execOp,OZ]
 simp only [Sem.run_bind,hr,Result.andThen_ok,Sem.run_pure]
theorem qk {x ix:Operand} {t j:Nat} {a:ByteArray} {k:IntKind} [ht:Und P t .string] (hx:ev s x=some (.string a)) (hi:ev s ix=some (.int k (j:Nat))) (hj:j<a.size):
  VOp P w0 s H (.index t x ix) ty (.int .u8 ((a[j]'hj).toNat:Int)):=fun ρ w _ _ _ _ hρ _=>by
 have h0:(0:Int)≤(j:Int):=by omega
 simp [execOp,hρ x _ hx,hρ ix _ hi,Instr.index,run_underlying ht.out,asIntOf,hj]
def ma (b:ByteArray):List Value:=b.data.toList.map fun c=> .int .u8 (c.toNat:Int)
theorem ni (b:ByteArray):(ma b).length=b.size:=by simp [ma]
theorem kE {d t u e:Nat} {x:Operand} {a:ByteArray} {ops:Array Oper} [hs:Und P t .string] [hd:Und P u (.slice e)] [he:Und P e (.int .u8)] (hn:Nat.blt d n.sz=true) (hx:ev s x=some (.string a))
  (k: ∀ g cap,WL P n w0 ops rest Q ((d,.slice (some ⟨g,0,none⟩) a.size cap)::s) (.byt g e a.size cap (ma a)::H)):
  WL P n w0 ops (⟨some d,.convert t u x,ty,p,af,none⟩::rest) Q s H:=by
 intro st w hst hm
 refine wpList_plain rfl fun K hK=> ?_
 have hq:(Question.appendCap a.size 0 e).forced=false:=rfl
 generalize hcap:(Question.appendCap a.size 0 e).cut (w.tape w.drawn (.appendCap a.size 0 e))=cap
 have hge:a.size≤cap:=by rw [← hcap];simp [Question.cut]
 have hlen:(a.data.map fun b=>Value.int .u8 (b.toNat:Int)).size+(cap - a.size)=cap:=by
  have:(a.data.map fun b=>Value.int .u8 (b.toNat:Int)).size=a.size:=by simp
  omega
 generalize hcs:((a.data.map fun b=>Value.int .u8 (b.toNat:Int))++Array.replicate (cap - a.size) (Value.int .u8 0))=cs
 have hcsz:cs.size=cap:=by rw [← hcs];simpa using hlen
 have hrun:(Conv.stringToBytes e a).run P w= .ok (.slice (some ⟨w.heap.size,0,none⟩) a.size cap) (({ w with drawn:=w.drawn+1 }:World).alloc (.cells cs e (cap,cap+1))):=by
  have hfr:(({ w with drawn:=w.drawn+1 }:World).alloc (.cells cs e)).freeze ⟨w.heap.size,cap,none⟩ 1=(({ w with drawn:=w.drawn+1 }:World).alloc (.cells cs e (cap,cap+1))):=by
   simp only [World.freeze,World.alloc,Nat.one_ne_zero,if_false]
   congr 1
   refine Array.ext_getElem? fun i=> ?_
   rw [PM,Array.getElem?_push,Array.getElem?_push]
   by_cases hi:w.heap.size=i
   ·
    subst hi;simp
   ·
    rw [if_neg hi,if_neg (fun e=>hi e.symm),if_neg (fun e=>hi e.symm)]
  have hshape:(({ w with drawn:=w.drawn+1 }:World).alloc (.cells cs e)).shape? w.heap.size=some (e,cap):=by
   simp [World.shape?,World.alloc,hcsz]
  simp only [Conv.stringToBytes,Sem.run_bind,run_choose,hq,Oo,if_false,Result.andThen_ok,hcap,newRow,run_newObj,Sem.run_pure,markStringish,run_shape,hcs,World.alloc_eq,hshape,run_freeze,hfr]
 have hev:=hst.eval x _ hx
 have hconv:(convert t u (.string a)).run P w=(Conv.stringToBytes e a).run P w:=by
  simp [convert,run_underlying hs.out,run_underlying hd.out,run_underlying he.out]
 unfold Oper.wp execOp
 simp only [Sem.run_bind,hev,hconv,hrun,Result.andThen_ok,Sem.run_pure,Oper.upon]
 refine hK _ _ (k w.heap.size cap _ _ (hst.put (N7 ▸ hn) _) (hm.drew.new (World.grownBy_alloc _ _ none) ⟨ni a,hge,List.replicate (cap - a.size) (.int .u8 0),?_,?_⟩ fun k hk=> ?_))
 ·
  simp [ni];omega
 ·
  rw [heap_alloc_new ({ w with drawn:=w.drawn+1 }:World) _]
  congr 2
  rw [← hcs]
  apply Array.ext'
  simp [ma]
 ·
  simp only [Blk.key,Option.some.injEq] at hk
  subst hk
  exact Ni _
theorem Mem.cells_byt {w w0:World} {H:List Blk} {g m c:Nat} {t:TypeId} {xs:List Value} (h:Mem w0 w H) (hi:In (.byt g t m c xs) H):Cells w g 0 xs:=by
 obtain ⟨hl,_,junk,_,h1⟩:=(h.on _ hi.mem).1
 intro j v hv
 rw [Ny,cell_of_row w g j _ t _ h1]
 have hlt:=(Nw.1 hv).1
 rw [NZ,OB hlt]
 exact hv
theorem ji {x:Operand} {t T g off m c:Nat} {xs:List Value} {v:Value} [One P t] (hx:ev s x=some (.pointer (some ⟨g,off,none⟩))) (hi:In (.byt g T m c xs) H) (hv:xs[off]? =some v):
  VOp P w0 s H (.load t x) ty v:=fun ρ w _ _ _ _ hρ hm=>by
 have hc:=hm.cells_byt hi off v hv
 rw [Ny] at hc
 simp [execOp,hρ x _ hx,Instr.loadAt,Instr.sureAddr,gq (P:=P) hc]
theorem vN (ns:List Int) (b:ByteArray):(ns.foldl (fun r n=>r.push (UInt8.ofNat n.toNat)) b).data.toList=b.data.toList++ns.map fun n=>UInt8.ofNat n.toNat:=by
 induction ns generalizing b with
 |nil=>simp
 |cons n r ih=>rw [O8,ih];simp [ByteArray.push]
theorem pO {x:Operand} {t u e T g m c:Nat} {ns:List Int} [hs:Und P t (.slice e)] [he:Und P e (.int .u8)] [hd:Und P u .string] (hx:ev s x=some (.slice (some ⟨g,0,none⟩) m c)) (hi:In (.byt g T m c (ns.map (Value.int .u8))) H) (hl:ns.length=m):
  VOp P w0 s H (.convert t u x) ty (.string ⟨(ns.map fun n=>UInt8.ofNat n.toNat).toArray⟩):=fun ρ w _ _ _ _ hρ hm=>by
 have hc:=hm.cells_byt hi
 have h1:=run_loadCells_list (P:=P) w ⟨g,0,none⟩ (ns.map (Value.int .u8)) (fun j v hv=>by rw [cE];exact hc j v hv)
 rw [Oi,hl] at h1
 have h2:=run_bytesToString (P:=P) w ⟨g,0,none⟩ m c ns h1
 have h3:ns.foldl (fun r n=>r.push (UInt8.ofNat n.toNat)) ByteArray.empty=⟨(ns.map fun n=>UInt8.ofNat n.toNat).toArray⟩:=by
  have h4:=vN ns ByteArray.empty
  generalize ns.foldl (fun r n=>r.push (UInt8.ofNat n.toNat)) ByteArray.empty=b at h4 ⊢
  obtain ⟨⟨l⟩⟩:=b
  simp only at h4
  simp [h4]
 rw [h3] at h2
 simp only [execOp,hρ x _ hx,Sem.run_bind,run_convert_bytes_string w t u e _ _ _ hs.out he.out hd.out,h2,Result.andThen_ok,Sem.run_pure]
theorem kF {ops:Array Oper} {t T g off m c:Nat} {x a:Operand} {xs:List Value} {v:Value} {R:List Blk} [Size P t 1] (ha:ev s a=some (.pointer (some ⟨g,off,none⟩))) (hx:ev s x=some v)
  (hsel:Sel (.byt g T m c xs) H R) (hv:v.oneCell' =true) (hfit:off<xs.length)
  (k:WL P n w0 ops rest Q s (.byt g T m c (xs.set off v)::R)):WL P n w0 ops (⟨none,.store t a x,ty,p,af,none⟩::rest) Q s H:=by
 refine rj (fun a' w hs hm=> ?_) k
 have hm' :=hm.sel hsel
 obtain ⟨h2,h3,junk,h5,hb⟩:=(hm'.on _ Nj).1
 obtain ⟨i,hi,hsz⟩:=(inferInstance:Size P t 1).out
 have hcv:v.cells= #[v]:=by cases v<;>first|rfl|cases hv
 have hlt:off<(xs++junk).length:=by simp;omega
 have hcell:w.cell? ⟨g,off,none⟩=some (xs++junk)[off]:=by
  rw [cell_of_row w g off _ T _ hb,NZ,Nc hlt]
 have hfz:w.frozen? ⟨g,off,none⟩=false:=by
  have:off<c:=by rw [← h5];exact hlt
  simp only [World.frozen?,hb]
  simp;omega
 have hst:(storeVar t ⟨g,off,none⟩ v).run P w= .ok () (w.setCell ⟨g,off,none⟩ v):=by
  simp [storeVar,sizeOf,typeInfo,hi,hsz,hcv,storeCells,cE,run_store P w _ v .plain hv,hcell,hfz]
 have hg:w.grownBy (w.setCell ⟨g,off,none⟩ v) (some g):=⟨rfl,rfl,rfl,by simp,fun k _ hk=>Below.heap_setCell w _ v k (fun e=>hk (by rw [e]))⟩
 have hnew:(w.setCell ⟨g,off,none⟩ v).heap[g]? =some (.cells (xs.set off v++junk).toArray T (c,c+1)):=by
  simp only [World.setCell,PM,if_true,hb,Oh,Option.isSome_none,Oo,if_false]
  rw [← List.set_append_left _ _ hfit]
  simp
 refine ⟨_,?_,hm'.upd hg (b' := .byt g T m c (xs.set off v)) ⟨by simpa using h2,h3,junk,by rw [Na,Ph,← Na];exact h5,hnew⟩ fun k hk=> .inl hk⟩
 simp [execOp,hs.eval a _ ha,hs.eval x _ hx,Instr.storeAt,Instr.sureAddr,hst]
theorem wK {d t:Nat} {x:Operand} {a:ByteArray} {ops:Array Oper} [ht:Und P t .string] (hn:Nat.blt d n.sz=true) (hx:ev s x=some (.string a))
  (k: ∀ g,WL P n w0 ops rest Q ((d,.pointer (some ⟨g,0,none⟩))::s) (.obj g (.stringIter a 0)::H)):WL P n w0 ops (⟨some d,.range t x,ty,p,af,none⟩::rest) Q s H:=by
 refine pL (B:=fun g=> .obj g (.stringIter a 0)) (v:=fun g=> .pointer (some ⟨g,0,none⟩)) hn (fun st w hs hm=> ?_) k
 refine ⟨w.iter a 0,?_,World.grownBy_alloc w _ none,World.iter_heap w a 0,rfl⟩
 simp [execOp,hs.eval x _ hx,run_range_string w t a ht.out]
theorem ym {d g pos:Nat} {x:Operand} {a:ByteArray} {R:List Blk} {ops:Array Oper} (hn:Nat.blt d n.sz=true) (hx:ev s x=some (.pointer (some ⟨g,0,none⟩))) (hsel:Sel (.obj g (.stringIter a pos)) H R)
  (hascii: ∀ h:pos<a.size,(a[pos]'h).toNat<128)
  (k1: ∀ h:pos<a.size,WL P n w0 ops rest Q ((d,.tuple #[.bool true,.int .i64 (pos:Int),.int .i32 ((a[pos]'h).toNat:Int)])::s) (.obj g (.stringIter a (pos+1))::R))
  (k2:a.size≤pos→WL P n w0 ops rest Q ((d,.tuple #[.bool false])::s) (.obj g (.stringIter a pos)::R)):
  WL P n w0 ops (⟨some d,.next x true,ty,p,af,none⟩::rest) Q s H:=by
 intro st w hs hm
 have hm' :=hm.sel hsel
 have hb:=(hm'.on _ Nj).1
 simp only [Blk.on] at hb
 refine wpList_plain rfl fun K hK=> ?_
 by_cases h:pos<a.size
 ·
  have hr:(Instr.next (.pointer (some ⟨g,0,none⟩)) true ty).run P w= .ok (.tuple #[.bool true,.int .i64 (pos:Int),.int .i32 ((a[pos]'h).toNat:Int)]) { w with heap:=w.heap.setIfInBounds g (.stringIter a (pos+1)) }:=by
   simp only [Instr.next,getObj,setObj,Sem.run_bind,Sem.run,hb,Result.andThen,h,if_true,decode_ascii a pos h (hascii h)]
   simp [goInt]
  unfold Oper.wp execOp
  simp only [Sem.run_bind,hs.eval x _ hx,hr,Result.andThen_ok,Sem.run_pure,Oper.upon]
  refine hK _ _ (k1 h _ _ (hs.put (N7 ▸ hn) _) (hm'.upd ⟨rfl,rfl,rfl,by simp,fun k _ hk=> ?_⟩ ?_ fun k hk=> .inl hk))
  ·
   have hne:g≠k:=fun e=>hk (by rw [← e];rfl)
   simp [Pj hne]
  ·
   simp only [Blk.on]
   have:g<w.heap.size:=(NH.1 hb).1
   simp [this]
 ·
  have hr:(Instr.next (.pointer (some ⟨g,0,none⟩)) true ty).run P w= .ok (.tuple #[.bool false]) w:=by
   simp [Instr.next,getObj,Sem.run,hb,h]
  unfold Oper.wp execOp
  simp only [Sem.run_bind,hs.eval x _ hx,hr,Result.andThen_ok,Sem.run_pure,Oper.upon]
  exact hK _ _ (k2 (by omega) _ _ (hs.put (N7 ▸ hn) _) hm')
end
end Go.SL
