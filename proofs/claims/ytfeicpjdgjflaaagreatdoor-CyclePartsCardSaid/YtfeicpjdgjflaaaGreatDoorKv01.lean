/-
  Lemmas and walks, put together: Sl1 Bt Pg Sl28 Cq Sl2 Sl16 Sl19 Md Md2 Lx Lx2 Sl3.
-/
import Derived.Deep.LoopGhost
import Derived.Deep.Quiet
import Derived.Laws.OwnMore
import Derived.Maps.AppendAt
import Derived.WalkKit
import Derived.Deep.AppendSrc
import Derived.Great.BuildSlice
import Derived.Laws.Bits64
import Derived.Laws.IdiomRangeMap
import Derived.Laws.Pointers
import Derived.Laws.Slices
import Derived.LoopN
import Derived.OrdersIn
import Derived.RangeFuncOwn
import Derived.RangeFuncRecord
import Derived.RangeFuncSeq
import Derived.Recover
import Derived.Scope
import Derived.WalkSpells
import Derived.Test.YtfeicpjdgjflaaaGreatDoorChecked
import Derived.ChangeKeysEq
import Derived.Shelf.SlSortCmp.NoneTotal
set_option linter.unusedSimpArgs false
set_option linter.unusedVariables false
set_option maxRecDepth 20000
namespace Go.SL
theorem Vn:type_of% @List.length_append:=@List.length_append
theorem Vo:type_of% @List.getElem?_eq_getElem:=@List.getElem?_eq_getElem
theorem Vp:type_of% @List.cons_append:=@List.cons_append
theorem Vq:type_of% @List.nil_append:=@List.nil_append
theorem Vr:type_of% @List.mem_cons_self:=@List.mem_cons_self
theorem Vs:type_of% @List.length_singleton:=@List.length_singleton
theorem Vt:type_of% @Nat.zero_le:=@Nat.zero_le
theorem Vu:type_of% @List.take_succ_eq_append_getElem:=@List.take_succ_eq_append_getElem
theorem Vv:type_of% @List.mem_cons_of_mem:=@List.mem_cons_of_mem
theorem Vw:type_of% @List.length_cons:=@List.length_cons
theorem Vx:type_of% @List.mem_singleton:=@List.mem_singleton
theorem Vy:type_of% @List.drop_eq_getElem_cons:=@List.drop_eq_getElem_cons
theorem Vz:type_of% @List.append_eq:=@List.append_eq
theorem VA:type_of% @Nat.le_refl:=@Nat.le_refl
theorem VB:type_of% @List.append_nil:=@List.append_nil
theorem VC:type_of% @List.append_assoc:=@List.append_assoc
theorem VD:type_of% @Nat.zero_add:=@Nat.zero_add
theorem VE:type_of% @List.flatMap_cons:=@List.flatMap_cons
theorem VF:type_of% @List.flatMap_append:=@List.flatMap_append
theorem VG:type_of% @List.getElem?_map:=@List.getElem?_map
theorem VH:type_of% @List.mem_append:=@List.mem_append
theorem VI:type_of% @List.getElem?_eq_some_iff:=@List.getElem?_eq_some_iff
theorem VJ:type_of% @List.getElem?_eq_none:=@List.getElem?_eq_none
theorem VK:type_of% @List.length_map:=@List.length_map
theorem VL:type_of% @List.getElem_mem:=@List.getElem_mem
theorem VM:type_of% @List.mem_map:=@List.mem_map
theorem VN:type_of% @List.mem_cons:=@List.mem_cons
theorem VO:type_of% @List.getElem?_append_left:=@List.getElem?_append_left
theorem VP:type_of% @Bool.and_eq_true:=@Bool.and_eq_true
theorem VQ:type_of% @List.length_take:=@List.length_take
theorem VR:type_of% @Nat.le_trans:=@Nat.le_trans
theorem VS:type_of% @List.length_drop:=@List.length_drop
theorem VT:type_of% @List.mem_range:=@List.mem_range
theorem VU:type_of% @List.map_cons:=@List.map_cons
theorem VV:type_of% @List.perm_append_comm:=@List.perm_append_comm
theorem VW:type_of% @List.getElem?_append_right:=@List.getElem?_append_right
theorem VX:type_of% @List.getD_eq_getElem?_getD:=@List.getD_eq_getElem?_getD
theorem VY:type_of% @List.drop_of_length_le:=@List.drop_of_length_le
theorem VZ:type_of% @List.flatMap_nil:=@List.flatMap_nil
theorem V0:type_of% @Array.getElem?_eq_some_iff:=@Array.getElem?_eq_some_iff
theorem V1:type_of% @List.take_length:=@List.take_length
theorem V2:type_of% @Bool.false_eq_true:=@Bool.false_eq_true
theorem V3:type_of% @Bool.eq_iff_iff:=@Bool.eq_iff_iff
theorem V4:type_of% @List.findIdx?_eq_some_iff_getElem:=@List.findIdx?_eq_some_iff_getElem
theorem V5:type_of% @List.mem_append_left:=@List.mem_append_left
theorem V6:type_of% @List.getElem?_toArray:=@List.getElem?_toArray
theorem V7:type_of% @List.getElem?_range:=@List.getElem?_range
theorem V8:type_of% @List.drop_length:=@List.drop_length
theorem V9:type_of% @List.mem_append_right:=@List.mem_append_right
theorem Wc:type_of% @Array.getD_eq_getD_getElem?:=@Array.getD_eq_getD_getElem?
theorem Wd:type_of% @Nat.mul_one:=@Nat.mul_one
theorem We:type_of% @List.length_range:=@List.length_range
theorem Wg:type_of% @Nat.eq_of_beq_eq_true:=@Nat.eq_of_beq_eq_true
theorem Wh:type_of% @List.take_append_drop:=@List.take_append_drop
theorem Wi:type_of% @Nat.blt_eq:=@Nat.blt_eq
theorem Wj:type_of% @List.map_append:=@List.map_append
theorem Wk:type_of% @List.mapM_cons:=@List.mapM_cons
theorem Wl:type_of% @List.take_of_length_le:=@List.take_of_length_le
theorem Wm:type_of% @List.findIdx?_eq_none_iff:=@List.findIdx?_eq_none_iff
theorem Wn:type_of% @List.mapM_nil:=@List.mapM_nil
theorem Wo:type_of% @List.eq_nil_of_length_eq_zero:=@List.eq_nil_of_length_eq_zero
theorem Wp:type_of% @Bool.true_and:=@Bool.true_and
theorem Wq:type_of% @Option.map_some:=@Option.map_some
theorem Wr:type_of% @List.length_set:=@List.length_set
theorem Ws:type_of% @Option.map_eq_some_iff:=@Option.map_eq_some_iff
theorem Wt:type_of% @List.pairwise_cons:=@List.pairwise_cons
theorem Wu:type_of% @List.map_congr_left:=@List.map_congr_left
theorem Wv:type_of% @List.map_nil:=@List.map_nil
theorem Ww:type_of% @Array.getElem?_append_left:=@Array.getElem?_append_left
theorem Wx:type_of% @List.mem_filter:=@List.mem_filter
theorem Wy:type_of% @List.foldl_cons:=@List.foldl_cons
theorem Wz:type_of% @List.getElem?_drop:=@List.getElem?_drop
theorem WB:type_of% @List.ext_getElem?:=@List.ext_getElem?
theorem WD:type_of% @List.length_filter_le:=@List.length_filter_le
theorem WF:type_of% @Nat.add_assoc:=@Nat.add_assoc
theorem WH:type_of% @List.drop_zero:=@List.drop_zero
theorem WI:type_of% @Bool.false_and:=@Bool.false_and
theorem WJ:type_of% @List.getElem_of_mem:=@List.getElem_of_mem
theorem WK:type_of% @List.all_eq_true:=@List.all_eq_true
theorem WM:type_of% @List.mem_iff_getElem:=@List.mem_iff_getElem
theorem WN:type_of% @List.length_nil:=@List.length_nil
theorem WO:type_of% @Bool.and_true:=@Bool.and_true
theorem WP:type_of% @List.take_zero:=@List.take_zero
theorem WS:type_of% @List.take_succ_cons:=@List.take_succ_cons
theorem WU:type_of% @Nat.sub_zero:=@Nat.sub_zero
theorem WV:type_of% @List.mem_of_mem_take:=@List.mem_of_mem_take
theorem WW:type_of% @List.length_eq_zero_iff:=@List.length_eq_zero_iff
theorem WY:type_of% @Nat.lt_or_ge:=@Nat.lt_or_ge
theorem WZ:type_of% @List.flatMap_singleton:=@List.flatMap_singleton
theorem W0:type_of% @Nat.lt_irrefl:=@Nat.lt_irrefl
theorem Xa:type_of% @List.size_toArray:=@List.size_toArray
theorem Xb:type_of% @List.perm_append_comm_assoc:=@List.perm_append_comm_assoc
theorem Xc:type_of% @Nat.eq_zero_or_pos:=@Nat.eq_zero_or_pos
theorem Xd:type_of% @Bool.and_false:=@Bool.and_false
theorem Xe:type_of% @List.nodup_cons:=@List.nodup_cons
theorem Xf:type_of% @List.headD_cons:=@List.headD_cons
theorem Xg:type_of% @List.any_eq_true:=@List.any_eq_true
theorem Xh:type_of% @Array.size_push:=@Array.size_push
theorem Xi:type_of% @List.drop_drop:=@List.drop_drop
theorem Xj:type_of% @Nat.mul_le_mul_right:=@Nat.mul_le_mul_right
theorem Xk:type_of% @List.pairwise_append:=@List.pairwise_append
theorem Xl:type_of% @List.map_map:=@List.map_map
theorem Xm:type_of% @Nat.add_mul:=@Nat.add_mul
theorem Xn:type_of% @List.getElem?_take_of_lt:=@List.getElem?_take_of_lt
theorem Xo:type_of% @List.length_replicate:=@List.length_replicate
theorem Xp:type_of% @Bool.and_eq_false_iff:=@Bool.and_eq_false_iff
theorem Xq:type_of% @List.nodup_append:=@List.nodup_append
theorem Xr:type_of% @Nat.not_lt_zero:=@Nat.not_lt_zero
theorem Xs:type_of% @Nat.min_eq_left:=@Nat.min_eq_left
theorem Xt:type_of% @Bool.or_eq_true:=@Bool.or_eq_true
theorem Xu:type_of% @List.take_append_of_le_length:=@List.take_append_of_le_length
theorem Xv:type_of% @List.map_toArray:=@List.map_toArray
theorem Xw:type_of% @Array.getElem?_push:=@Array.getElem?_push
theorem Xx:type_of% @Nat.add_comm:=@Nat.add_comm
theorem Xy:type_of% @Array.getElem?_modify:=@Array.getElem?_modify
theorem Xz:type_of% @List.mem_of_getElem?:=@List.mem_of_getElem?
theorem XA:type_of% @Nat.add_zero:=@Nat.add_zero
theorem XB:type_of% @List.mem_flatMap:=@List.mem_flatMap
theorem XC:type_of% @List.filter_cons:=@List.filter_cons
theorem XD:type_of% @Array.size_modify:=@Array.size_modify
theorem XE:type_of% @Array.getElem?_setIfInBounds_ne:=@Array.getElem?_setIfInBounds_ne
theorem XF:type_of% @List.pairwise_iff_getElem:=@List.pairwise_iff_getElem
theorem XG:type_of% @List.getLast?_eq_getElem?:=@List.getLast?_eq_getElem?
theorem XH:type_of% @Nat.lt_succ_self:=@Nat.lt_succ_self
theorem XI:type_of% @List.perm_middle:=@List.perm_middle
theorem XJ:type_of% @List.not_mem_nil:=@List.not_mem_nil
theorem XK:type_of% @List.mem_of_mem_drop:=@List.mem_of_mem_drop
theorem XL:type_of% @List.getElem?_replicate:=@List.getElem?_replicate
theorem XM:type_of% @List.all_cons:=@List.all_cons
theorem XN:type_of% @List.nodup_nil:=@List.nodup_nil
theorem XO:type_of% @Bool.not_eq_true':=@Bool.not_eq_true'
theorem XP:type_of% @List.range_succ:=@List.range_succ
theorem XQ:type_of% @List.mergeSort_perm:=@List.mergeSort_perm
theorem XR:type_of% @List.length_pos_iff:=@List.length_pos_iff
theorem XS:type_of% @Int.le_refl:=@Int.le_refl
theorem XT:type_of% @Array.getElem?_eq_none:=@Array.getElem?_eq_none
theorem XU:type_of% @Option.getD_some:=@Option.getD_some
theorem XV:type_of% @Nat.zero_mul:=@Nat.zero_mul
theorem XW:type_of% @ByteArray.size_append:=@ByteArray.size_append
theorem XX:type_of% @Nat.one_mul:=@Nat.one_mul
theorem XY:type_of% @Nat.le_succ:=@Nat.le_succ
theorem XZ:type_of% @List.take_left:=@List.take_left
theorem X0:type_of% @List.mem_of_find?_eq_some:=@List.mem_of_find?_eq_some
theorem X3:type_of% @Array.getElem?_replicate:=@Array.getElem?_replicate
theorem X4:type_of% @List.replicate_succ:=@List.replicate_succ
theorem X5:type_of% @Nat.add_sub_cancel:=@Nat.add_sub_cancel
theorem X6:type_of% @List.filter_append:=@List.filter_append
theorem X7:type_of% @Nat.le_succ_of_le:=@Nat.le_succ_of_le
theorem X8:type_of% @List.pairwise_map:=@List.pairwise_map
theorem X9:type_of% @List.getElem_take:=@List.getElem_take
theorem Ya:type_of% @List.getElem?_set:=@List.getElem?_set
theorem Yb:type_of% @List.foldl_append:=@List.foldl_append
theorem Yc:type_of% @Int.toNat_natCast:=@Int.toNat_natCast
theorem Yi:type_of% @Option.map_map:=@Option.map_map
theorem Yj:type_of% @List.tail_drop:=@List.tail_drop
theorem Yk:type_of% @List.nodup_range:=@List.nodup_range
theorem Yl:type_of% @List.getElem_inj:=@List.getElem_inj
theorem Ym:type_of% @List.toList_toArray:=@List.toList_toArray
theorem Yn:type_of% @Array.setIfInBounds_comm:=@Array.setIfInBounds_comm
theorem Yo:type_of% @List.getElem?_take:=@List.getElem?_take
theorem Yp:type_of% @List.getElem?_cons_zero:=@List.getElem?_cons_zero
theorem Yq:type_of% @List.getElem?_cons_succ:=@List.getElem?_cons_succ
theorem Yr:type_of% @List.find?_eq_none:=@List.find?_eq_none
theorem Ys:type_of% @List.filter_map:=@List.filter_map
theorem Yt:type_of% @Int.tmod_lt_of_pos:=@Int.tmod_lt_of_pos
theorem Yu:type_of% @Int.eq_ofNat_of_zero_le:=@Int.eq_ofNat_of_zero_le
theorem Yv:type_of% @Array.ext_getElem?:=@Array.ext_getElem?
theorem Yw:type_of% @Nat.lt_of_succ_lt_succ:=@Nat.lt_of_succ_lt_succ
theorem Yx:type_of% @List.mapM_toArray:=@List.mapM_toArray
theorem Yy:type_of% @List.singleton_append:=@List.singleton_append
theorem Yz:type_of% @List.pairwise_and_iff:=@List.pairwise_and_iff
theorem YA:type_of% @List.mem_iff_getElem?:=@List.mem_iff_getElem?
theorem YB:type_of% @List.eq_nil_iff_forall_not_mem:=@List.eq_nil_iff_forall_not_mem
theorem YC:type_of% @Array.getElem?_mapIdx:=@Array.getElem?_mapIdx
theorem YD:type_of% @Array.eq_empty_of_size_eq_zero:=@Array.eq_empty_of_size_eq_zero
theorem YE:type_of% @List.zipIdx_cons:=@List.zipIdx_cons
theorem YF:type_of% @List.length_tail:=@List.length_tail
theorem YG:type_of% @List.drop_append_of_le_length:=@List.drop_append_of_le_length
theorem YH:type_of% @List.getElem?_modify:=@List.getElem?_modify
theorem YI:type_of% @List.drop_eq_nil_iff:=@List.drop_eq_nil_iff
theorem YJ:type_of% @List.filter_nil:=@List.filter_nil
theorem YK:type_of% @List.drop_succ_cons:=@List.drop_succ_cons
theorem YL:type_of% @Array.length_toList:=@Array.length_toList
theorem YM:type_of% @List.perm_ext_iff_of_nodup:=@List.perm_ext_iff_of_nodup
theorem YN:type_of% @Int.tdiv_eq_ediv_of_nonneg:=@Int.tdiv_eq_ediv_of_nonneg
theorem YO:type_of% @Nat.lt_of_le_of_ne:=@Nat.lt_of_le_of_ne
theorem YP:type_of% @List.set_cons_succ:=@List.set_cons_succ
theorem YQ:type_of% @Nat.lt_trichotomy:=@Nat.lt_trichotomy
theorem YR:type_of% @List.find?_range_eq_some:=@List.find?_range_eq_some
theorem YS:type_of% @List.filter_congr:=@List.filter_congr
theorem YT:type_of% @Array.size_append:=@Array.size_append
theorem YU:type_of% @List.pairwise_mergeSort:=@List.pairwise_mergeSort
theorem YV:type_of% @List.countP_cons:=@List.countP_cons
theorem YW:type_of% @List.drop_eq_nil_of_le:=@List.drop_eq_nil_of_le
theorem YX:type_of% @Option.map_none:=@Option.map_none
theorem YY:type_of% @Nat.le_of_ble_eq_true:=@Nat.le_of_ble_eq_true
theorem YZ:type_of% @List.take_left':=@List.take_left'
theorem Y0:type_of% @List.set_getElem_self:=@List.set_getElem_self
theorem Y1:type_of% @List.find?_some:=@List.find?_some
theorem Y2:type_of% @List.countP_singleton:=@List.countP_singleton
theorem Y3:type_of% @Bool.true_or:=@Bool.true_or
theorem Y4:type_of% @Array.mem_of_getElem?:=@Array.mem_of_getElem?
theorem Y5:type_of% @Nat.mod_lt:=@Nat.mod_lt
open Go Go.RowKit
inductive Blk where
 |box (g:Nat) (ty:TypeId) (xs:List Value)
 |own (A:Option Nat) (ty:TypeId) (size n cap:Nat) (xs:List Value)
 |obj (g:Nat) (o:Obj)
 |byt (g:Nat) (ty:TypeId) (n cap:Nat) (xs:List Value)
def Blk.key:Blk→Option Nat
 | .box g _ _=>some g
 | .own A _ _ _ _ _=>A
 | .obj g _=>some g
 | .byt g _ _ _ _=>some g
def sl (A:Option Nat) (n cap:Nat):Value:= .slice (A.map fun g=>⟨g,0,none⟩) n cap
def Blk.on (w:World):Blk→Prop
 | .box g ty xs=>w.heap[g]? =some (.cells xs.toArray ty (0,0))
 | .own A ty size n cap xs=>xs.length=n*size∧n≤cap∧cap≤maxLen∧
   match A with
   |none=>n=0∧cap=0
   |some g=> ∃ junk:List Value,(xs++junk).length=cap*size∧w.heap[g]? =some (.cells (xs++junk).toArray ty (0,0))
 | .obj g o=>w.heap[g]? =some o
 | .byt g ty n cap xs=>xs.length=n∧n≤cap∧ ∃ junk:List Value,(xs++junk).length=cap∧w.heap[g]? =some (.cells (xs++junk).toArray ty (cap,cap+1))
def Apart (a b:Blk):Prop:= ∀ k,a.key=some k→b.key≠some k
structure Mem (w0 w:World) (H:List Blk):Prop where
 below:Below w0.heap.size w0 w
 on: ∀ b∈H,b.on w∧ ∀ k,b.key=some k→w0.heap.size≤k
 apart:H.Pairwise Apart
theorem Apart.symm {a b:Blk} (h:Apart a b):Apart b a:=fun k hk hk' =>h k hk' hk
abbrev aC:=List (Nat × Value)
def look:aC→Nat→Option Value
 | [],_=>none
 |(u,v)::r,t=>bif Nat.beq u t then some v else look r t
def ev (s:aC):Operand→Option Value
 | .tmp t=>look s t
 | .const v=>some v
 | .global g=>some (.pointer (some ⟨g,0,none⟩))
 | .func f=>some (.func (.func f) #[] #[])
structure Fr where
 sz:Nat
 ds:List Deferred
structure St (n:Fr) (s:aC) (a:Act):Prop where
 size:a.tmps.size=n.sz
 defers:a.defers=n.ds
 has: ∀ t v,look s t=some v→a.tmps[t]? =some v
theorem St.eval {n:Fr} {s:aC} {a:Act} (h:St n s a): ∀ x v,ev s x=some v→a.eval x=v:=by
 intro x v hx
 cases x with
 |tmp t=>simp only [ev] at hx;simp [Act.eval,Wc,h.has t v hx]
 |const v=>simp only [ev,Option.some.injEq] at hx;exact hx
 |global g=>simp only [ev,Option.some.injEq] at hx;exact hx
 |func f=>simp only [ev,Option.some.injEq] at hx;exact hx
theorem jP (s:aC) (d t:Nat) (v:Value):look ((d,v)::s) t=if d=t then some v else look s t:=by
 simp only [look]
 cases hb:Nat.beq d t with
 |true=>have h:=Wg hb;simp [h]
 |false=>have h:=Nat.ne_of_beq_eq_false hb;simp [h]
theorem St.put {n:Fr} {s:aC} {a:Act} (h:St n s a) {d:Nat} (hd:d<n.sz) (v:Value):St n ((d,v)::s) (a.put (some d) v):=by
 refine ⟨by simp [Act.put,h.size],h.defers,fun t u hu=> ?_⟩;rw [jP] at hu;by_cases e:d=t
 ·subst e;simp only [if_true,Option.some.injEq] at hu;subst hu;simp [Act.put,h.size,hd]
 ·rw [if_neg e] at hu;simp only [Act.put];rw [XE e];exact h.has t u hu
theorem St.put_none {n:Fr} {s:aC} {a:Act} (h:St n s a) (v:Value):St n s (a.put none v):=h
def Sub (s1 s2:aC):Prop:= ∀ t v,look s1 t=some v→look s2 t=some v
theorem Sub.nil (s:aC):Sub [] s:=fun _ _ h=>by simp [look] at h
theorem Sub.cons {s1 s2:aC} {t:Nat} {v:Value} (h:look s2 t=some v) (hs:Sub s1 s2):Sub ((t,v)::s1) s2:=by
 intro u x hx;rw [jP] at hx;by_cases e:t=u
 ·subst e;rw [if_pos rfl] at hx;rw [h];exact hx
 ·rw [if_neg e] at hx;exact hs u x hx
theorem St.sub {n:Fr} {s1 s2:aC} {a:Act} (h:St n s2 a) (hs:Sub s1 s2):St n s1 a:=⟨h.size,h.defers,fun t v ht=>h.has t v (hs t v ht)⟩
abbrev cd:=Exit→aC→List Blk→Prop
def post (n:Fr) (w0:World) (Q:cd):Exit→Act→World→Prop:=fun e a w=> ∃ s H,St n s a∧Mem w0 w H∧Q e s H
def W (P:Program) (n:Fr) (w0:World) (c:Code) (Q:cd) (s:aC) (H:List Blk):Prop:=
 ∀ a w,St n s a→Mem w0 w H→c.wp P (post n w0 Q) a w
def WL (P:Program) (n:Fr) (w0:World) (ops:Array Oper) (rest:List Oper) (Q:cd) (s:aC) (H:List Blk):Prop:=
 ∀ a w,St n s a→Mem w0 w H→wpList P ops (post n w0 Q) rest a w
def thn (K:aC→List Blk→Prop) (Q:cd):cd
 | .normal,s,H=>K s H
 |e,s,H=>Q e s H
def blk (id:Nat) (Q:cd):cd
 | .exit id',s,H=>if id' =id then Q .normal s H else Q (.exit id') s H
 |e,s,H=>Q e s H
section
variable {P:Program} {n:Fr} {w0:World} {Q:cd} {s:aC} {H:List Blk}
theorem NJ {c:Code} {Q' :cd} (hq: ∀ e s H,Q e s H→Q' e s H) (h:W P n w0 c Q s H):W P n w0 c Q' s H:=
 fun a w hs hm=>wp_mono (h a w hs hm) fun _ _ _ ⟨s,H,h1,h2,h3⟩=>⟨s,H,h1,h2,hq _ _ _ h3⟩
theorem Up {c:Code} {s' :aC} (hs:Sub s' s) (h:W P n w0 c Q s' H):W P n w0 c Q s H:=
 fun a w hst hm=>h a w (hst.sub hs) hm
theorem Uq {x y:Code} (h:W P n w0 x (thn (W P n w0 y Q) Q) s H):W P n w0 (.seq x y) Q s H:=by
 intro a w hs hm;refine wp_seq (wp_mono (h a w hs hm) ?_);rintro e a' w' ⟨s',H',h1,h2,h3⟩
 cases e with
 |normal=>exact h3 a' w' h1 h2
 |_=>exact ⟨s',H',h1,h2,h3⟩
theorem Ti (h:Q .normal s H):W P n w0 .skip Q s H:=fun _ _ hs hm=>wp_skip ⟨s,H,hs,hm,h⟩
theorem Ur (h:Q .ret s H):W P n w0 .ret Q s H:=fun _ _ hs hm=>wp_ret ⟨s,H,hs,hm,h⟩
theorem Tn {id:Nat} (h:Q (.exit id) s H):W P n w0 (.exit id) Q s H:=fun _ _ hs hm=>wp_exit ⟨s,H,hs,hm,h⟩
theorem QE {id:Nat} {c:Code} (h:W P n w0 c (blk id Q) s H):W P n w0 (.block id c) Q s H:=by
 intro a w hs hm;refine wp_block (wp_mono (h a w hs hm) ?_);rintro e a' w' ⟨s',H',h1,h2,h3⟩
 cases e with
 |exit id' =>
  simp only [Exit.inBlock,blk] at h3 ⊢;split
  ·rename_i hid;rw [if_pos hid] at h3;exact ⟨s',H',h1,h2,h3⟩
  ·rename_i hid;rw [if_neg hid] at h3;exact ⟨s',H',h1,h2,h3⟩
 |_=>exact ⟨s',H',h1,h2,h3⟩
theorem ES {c:Operand} {x y:Code} (hc:ev s c=some (.bool true)) (h:W P n w0 x Q s H):W P n w0 (.cond c x y) Q s H:=
 fun a w hs hm=>wp_cond_true (hs.eval c _ hc) (h a w hs hm)
theorem C0 {c:Operand} {x y:Code} (hc:ev s c=some (.bool false)) (h:W P n w0 y Q s H):W P n w0 (.cond c x y) Q s H:=
 fun a w hs hm=>wp_cond_false (hs.eval c _ hc) (h a w hs hm)
theorem Tp {c:Operand} {x y:Code} {b:Bool} (hc:ev s c=some (.bool b)) (ht:b=true→W P n w0 x Q s H) (hf:b=false→W P n w0 y Q s H):
 W P n w0 (.cond c x y) Q s H:=
 fun a w hs hm=>wp_cond_split (hs.eval c _ hc) (fun e=>ht e a w hs hm) (fun e=>hf e a w hs hm)
end
inductive In (b:Blk):List Blk→Prop
 |hd {T:List Blk}:In b (b::T)
 |tl {x:Blk} {T:List Blk}:In b T→In b (x::T)
inductive Sel (b:Blk):List Blk→List Blk→Prop
 |hd {T:List Blk}:Sel b (b::T) T
 |tl {x:Blk} {T T' :List Blk}:Sel b T T' →Sel b (x::T) (x::T')
theorem In.mem {b:Blk} {H:List Blk} (h:In b H):b∈H:=by
 induction h with
 |hd=>exact Vr
 |tl _ ih=>exact Vv _ ih
theorem Sel.perm {b:Blk} {H T:List Blk} (h:Sel b H T):H.Perm (b::T):=by
 induction h with
 |hd=>exact .refl _
 |tl _ ih=>exact (ih.cons _).trans (.swap _ _ _)
theorem Mem.perm {w0 w:World} {H H' :List Blk} (h:Mem w0 w H) (hp:H.Perm H'):Mem w0 w H' :=
 ⟨h.below,fun b hb=>h.on b (hp.mem_iff.2 hb),(hp.pairwise_iff (fun {_ _} h=>Apart.symm h)).1 h.apart⟩
theorem Mem.sel {w0 w:World} {H T:List Blk} {b:Blk} (h:Mem w0 w H) (hs:Sel b H T):Mem w0 w (b::T):=h.perm hs.perm
theorem Mem.tail {w0 w:World} {T:List Blk} {b:Blk} (h:Mem w0 w (b::T)):Mem w0 w T:=
 ⟨h.below,fun x hx=>h.on x (Vv _ hx),(Wt.1 h.apart).2⟩
theorem Mem.left {w0 w:World} {H T:List Blk} (h:Mem w0 w (H++T)):Mem w0 w H:=
 ⟨h.below,fun x hx=>h.on x (V5 _ hx),(Xk.1 h.apart).1⟩
theorem Mem.right {w0 w:World} {H T:List Blk} (h:Mem w0 w (H++T)):Mem w0 w T:=
 ⟨h.below,fun x hx=>h.on x (V9 _ hx),(Xk.1 h.apart).2.1⟩
def MSub (H H' :List Blk):Prop:= ∃ T,H'.Perm (H++T)
theorem MSub.use {H H' :List Blk} (h:MSub H H') {w0 w:World} (hm:Mem w0 w H'):Mem w0 w H:=by
 obtain ⟨T,hp⟩:=h;exact (hm.perm hp).left
theorem MSub.refl (H:List Blk):MSub H H:=⟨[],by simp⟩
theorem MSub.nil (H:List Blk):MSub [] H:=⟨H,by simp⟩
theorem MSub.pick {b:Blk} {H H' T:List Blk} (hs:Sel b H' T) (h:MSub H T):MSub (b::H) H' :=by
 obtain ⟨U,hp⟩:=h;exact ⟨U,hs.perm.trans (hp.cons b)⟩
theorem MSub.trans {H H' H'' :List Blk} (h:MSub H H') (k:MSub H' H''):MSub H H'' :=by
 obtain ⟨T,hT⟩:=h;obtain ⟨U,hU⟩:=k;exact ⟨T++U,hU.trans (by rw [← VC];exact hT.append_right U)⟩
theorem MSub.drop {H H' T:List Blk} {b:Blk} (hs:Sel b H' T) (h:MSub H T):MSub H H' :=by
 obtain ⟨U,hp⟩:=h;refine ⟨b::U,hs.perm.trans ((hp.cons b).trans ?_)⟩;exact XI.symm
section
variable {P:Program} {n:Fr} {w0:World} {Q:cd} {s:aC} {H:List Blk}
theorem Tl {c:Code} {H' :List Blk} (hH:MSub H' H) (h:W P n w0 c Q s H'):W P n w0 c Q s H:=
 fun a w hst hm=>h a w hst (hH.use hm)
theorem fP {ι:Type} {c:Code} (sI:ι→aC) (HI:ι→List Blk) (ok:ι→Prop) (μ:ι→Nat) (i0:ι) (h0:ok i0) (hs0:Sub (sI i0) s) (hH0:MSub (HI i0) H)
 (round: ∀ i,ok i→W P n w0 c (thn (fun s' H' => ∃ i',ok i' ∧μ i' <μ i∧Sub (sI i') s' ∧MSub (HI i') H') Q) (sI i) (HI i)):W P n w0 (.loop c) Q s H:=by
 intro a w hs hm;refine wp_loop_ghost (fun k a' w' => ∃ i,ok i∧μ i=k∧St n (sI i) a' ∧Mem w0 w' (HI i)) (μ i0) ⟨i0,h0,rfl,hs.sub hs0,hH0.use hm⟩ ?_;rintro k a1 w1 ⟨i,hi,rfl,hs1,hm1⟩;refine wp_mono (round i hi a1 w1 hs1 hm1) ?_;rintro e a' w' ⟨s',H',h1,h2,h3⟩
 cases e with
 |normal=>
  obtain ⟨i',hi',hlt,hsub,hms⟩:=h3;exact ⟨μ i',hlt,i',hi',rfl,h1.sub hsub,hms.use h2⟩
 |_=>exact ⟨s',H',h1,h2,h3⟩
end
theorem Blk.on_of_block {w w' :World} {b:Blk} (h:b.on w) (hk: ∀ k,b.key=some k→w'.heap[k]? =w.heap[k]?):b.on w' :=by
 cases b with
 |box g ty xs=>simp only [Blk.on] at h ⊢;rw [hk g rfl];exact h
 |obj g o=>simp only [Blk.on] at h ⊢;rw [hk g rfl];exact h
 |byt g ty m cap xs=>simp only [Blk.on] at h ⊢;rw [hk g rfl];exact h
 |own A ty size m cap xs=>
  simp only [Blk.on] at h ⊢;refine ⟨h.1,h.2.1,h.2.2.1,?_⟩;have h4:=h.2.2.2
  cases A with
  |none=>exact h4
  |some g=>
   obtain ⟨junk,hl,hg⟩:=h4;exact ⟨junk,hl,(hk g rfl).trans hg⟩
theorem Blk.key_lt {w:World} {b:Blk} (h:b.on w) {k:Nat} (hk:b.key=some k):k<w.heap.size:=by
 have: ∃ o,w.heap[k]? =some o:=by
  cases b with
  |box g ty xs=>simp only [Blk.key,Option.some.injEq] at hk;subst hk;exact ⟨_,h⟩
  |obj g o=>simp only [Blk.key,Option.some.injEq] at hk;subst hk;exact ⟨_,h⟩
  |byt g ty m cap xs=>simp only [Blk.key,Option.some.injEq] at hk;subst hk;obtain ⟨_,_,junk,_,hg⟩:=h;exact ⟨_,hg⟩
  |own A ty size m cap xs=>
   simp only [Blk.key] at hk;subst hk;obtain ⟨_,_,_,junk,_,hg⟩:=h;exact ⟨_,hg⟩
 obtain ⟨o,ho⟩:=this;exact (V0.1 ho).1
theorem Mem.refl (w:World):Mem w w []:=⟨.refl _ _,(fun _ h=>by cases h),List.Pairwise.nil⟩
theorem Mem.drew {w0 w:World} {H:List Blk} (h:Mem w0 w H):Mem w0 { w with drawn:=w.drawn+1 } H:=
 ⟨h.below.drew,fun b hb=>⟨Blk.on_of_block (h.on b hb).1 fun _ _=>rfl,(h.on b hb).2⟩,h.apart⟩
theorem Mem.upd {w0 w w' :World} {b b' :Blk} {T:List Blk} (h:Mem w0 w (b::T)) (hg:w.grownBy w' b.key) (hb:b'.on w')
 (hk: ∀ k,b'.key=some k→b.key=some k∨w.heap.size≤k):Mem w0 w' (b' ::T):=by
 have hap:=Wt.1 h.apart;have hrow: ∀ k,b.key=some k→w0.heap.size≤k:=(h.on b Vr).2;have hsz:w0.heap.size≤w.heap.size:=h.below.size;have hlt: ∀ x∈T,∀ k,x.key=some k→k<w.heap.size:=fun x hx k hxk=>Blk.key_lt (h.on x (Vv _ hx)).1 hxk;refine ⟨h.below.grown hg hsz hrow,fun x hx=> ?_,Wt.2 ⟨fun x hx k hk1 hk2=> ?_,hap.2⟩⟩
 ·rcases VN.1 hx with rfl|hx
  ·refine ⟨hb,fun k hk1=> ?_⟩;rcases hk k hk1 with h1|h1
   ·exact hrow k h1
   ·omega
  ·refine ⟨Blk.on_of_block (h.on x (Vv _ hx)).1 fun k hxk=> ?_,(h.on x (Vv _ hx)).2⟩;exact hg.block k (hlt x hx k hxk) fun e=>hap.1 x hx k e.symm hxk
 ·rcases hk k hk1 with h1|h1
  ·exact hap.1 x hx k h1 hk2
  ·have:=hlt x hx k hk2;omega
theorem Mem.new {w0 w w' :World} {b:Blk} {T:List Blk} (h:Mem w0 w T) (hg:w.grownBy w' none) (hb:b.on w') (hk: ∀ k,b.key=some k→w.heap.size≤k):Mem w0 w' (b::T):=by
 have h0:Mem w0 w (.own none 0 0 0 0 []::T):=
  ⟨h.below,fun x hx=>by
   rcases VN.1 hx with rfl|hx
   ·exact ⟨⟨by simp,VA _,Vt _,rfl,rfl⟩,(fun k hk=>by cases hk)⟩
   ·exact h.on x hx,Wt.2 ⟨(fun x _ k hk=>by cases hk),h.apart⟩⟩
 exact h0.upd (b:= .own none 0 0 0 0 []) hg hb fun k h1=> .inr (hk k h1)
theorem Mem.call {w0 w w' :World} {H H' :List Blk} (h:Mem w0 w H) (h' :Mem w w' H'):Mem w0 w' (H' ++H):=by
 have hsz:w0.heap.size≤w.heap.size:=h.below.size;have hold: ∀ x∈H,∀ k,x.key=some k→k<w.heap.size:=fun x hx k hxk=>Blk.key_lt (h.on x hx).1 hxk;refine ⟨h.below.trans (h'.below.mono hsz),fun x hx=> ?_,Xk.2 ⟨h'.apart,h.apart,fun x hx y hy k hk1 hk2=> ?_⟩⟩
 ·rcases VH.1 hx with hx|hx
  ·exact ⟨(h'.on x hx).1,fun k hk=>VR hsz ((h'.on x hx).2 k hk)⟩
  ·exact ⟨Blk.on_of_block (h.on x hx).1 fun k hk=>h'.below.block k (hold x hx k hk),(h.on x hx).2⟩
 ·have h1:=(h'.on x hx).2 k hk1;have h2:=hold y hy k hk2;omega
abbrev vS (x:BitVec 64):Value:= .int .u64 (x.toNat:Int)
def Ah (x:Int):Value:= .int .i64 x
def tE (l:List Int):List Int:=l.mergeSort fun x y=>decide (x≤y)
theorem Ip (l:List Int):(tE l).Perm l:=XQ _ _
section
variable {P:Program} {n:Fr} {w0:World} {Q:cd} {s:aC} {H:List Blk} {ops:Array Oper} {l:List Oper}
theorem kI {c:Code} (H' :List Blk) (hs:MSub H' H) (h:W P n w0 c Q s H'):W P n w0 c Q s H:=fun a w h1 h2=>h a w h1 (hs.use h2)
theorem kU (H' :List Blk) (hs:MSub H' H) (h:WL P n w0 ops l Q s H'):WL P n w0 ops l Q s H:=fun a w h1 h2=>h a w h1 (hs.use h2)
end
theorem JK: ∀ {l m:List Nat},l.Pairwise (· < ·)→m.Pairwise (· < ·)→(∀ v,v∈l↔v∈m)→l=m
 | [],[],_,_,_=>rfl
 | [],b::m,_,_,h=>by have:=(h b).2 Vr;cases this
 |a::l,[],_,_,h=>by have:=(h a).1 Vr;cases this
 |a::l,b::m,h1,h2,h=>by
  rw [Wt] at h1 h2;have e:a=b:=by
   have ha:=(h a).1 Vr;have hb:=(h b).2 Vr;rcases VN.1 ha with e|ha
   ·exact e
   ·rcases VN.1 hb with e|hb
    ·exact e.symm
    ·have x1:=h2.1 a ha;have x2:=h1.1 b hb;omega
  subst e;have:l=m:=JK h1.2 h2.2 fun v=>by
   have hv:=h v;rw [VN,VN] at hv;constructor
   ·intro hl;have:=h1.1 v hl;exact (hv.1 (.inr hl)).resolve_left (by omega)
   ·intro hm;have:=h2.1 v hm;exact (hv.2 (.inr hm)).resolve_left (by omega)
  rw [this]
theorem u7 (n:Nat) (p:Nat→Bool):((List.range n).filter p).Pairwise (· < ·):=(List.pairwise_lt_range).filter _
theorem JJ {l:List Nat} {n:Nat} {p:Nat→Bool} (h:l.Pairwise (· < ·)) (hm: ∀ v,v∈l↔v<n∧p v=true):l=(List.range n).filter p:=
 JK h (u7 n p) fun v=>by rw [hm,Wx,VT]
def VOp (P:Program) (w0:World) (s:aC) (H:List Blk) (op:Op) (ty:TypeId) (v:Value):Prop:=
 ∀ (ρ:Operand→Value) (w:World) (d:Option Tmp) (p:String) (af:Array Edge) (g:Option (Nat × Bool)),
  (∀ x u,ev s x=some u→ρ x=u)→Mem w0 w H→(execOp ρ ⟨d,op,ty,p,af,g⟩).run P w= .ok (.value v) w
section
variable {P:Program} {n:Fr} {w0:World} {Q:cd} {s:aC} {H:List Blk} {ops:Array Oper} {rest:List Oper} {ty:TypeId} {p:String} {af:Array Edge}
theorem rQ (h:Q .normal s H):WL P n w0 ops [] Q s H:=fun _ _ hs hm=>wpList_nil ⟨s,H,hs,hm,h⟩
theorem NH {id:Nat} {l:List Oper} (h:WL P n w0 l.toArray l Q s H):W P n w0 (.region id l.toArray false) Q s H:=
 fun a w hs hm=>wp_region_lit (h a w hs hm)
theorem w7 {o:Oper} {v:Value} (hg:Region.wanted o=fun _=>true) (d:Nat) (hd:o.dst=some d) (hn:Nat.blt d n.sz=true)
 (h: ∀ a w,St n s a→Mem w0 w H→(execOp a.eval o).run P w= .ok (.value v) w)
 (k:WL P n w0 ops rest Q ((d,v)::s) H):WL P n w0 ops (o::rest) Q s H:=by
 intro a w hs hm;refine wpList_step fun K hK=> ?_;rw [hg,if_pos rfl];simp only [Oper.wp,h a w hs hm,Oper.upon,hd];exact hK _ _ (k _ _ (hs.put (Wi ▸ hn) v) hm)
theorem ai {op:Op} {d:Nat} {v:Value} (hn:Nat.blt d n.sz=true) (hv:VOp P w0 s H op ty v) (k:WL P n w0 ops rest Q ((d,v)::s) H):
 WL P n w0 ops (⟨some d,op,ty,p,af,none⟩::rest) Q s H:=
 w7 rfl d rfl hn (fun _ _ hs hm=>hv _ _ _ _ _ _ hs.eval hm) k
class One (P:Program) (t:TypeId):Prop where
 out: ∃ d,P.underlying t=some d∧(match d with| .struct _| .array _ _=>false|_=>true)=true
class Agg (P:Program) (t:TypeId) (m:outParam Nat):Prop where
 out: ∃ d i,P.underlying t=some d∧(match d with| .struct _| .array _ _=>true|_=>false)=true∧P.info? t=some i∧i.size=m
class Size (P:Program) (t:TypeId) (m:outParam Nat):Prop where
 out: ∃ i,P.info? t=some i∧i.size=m
class Und (P:Program) (t:TypeId) (d:outParam TypeDesc):Prop where
 out:P.underlying t=some d
class Fld (P:Program) (t:TypeId) (f:Nat) (o:outParam Nat):Prop where
 out: ∃ fs fl i,P.underlying t=some (.struct fs)∧fs[f]? =some fl∧fl.offset=o∧P.info? fl.type=some i∧i.size≠0
class Zero (P:Program) (t:TypeId) (z:outParam Value):Prop where
 out: ∃ i,P.info? t=some i∧i.zero=some z
class Elem (P:Program) (t:TypeId) (size bytes:outParam Nat):Prop where
 out: ∃ i z,P.info? t=some i∧i.size=size∧i.bytes=bytes∧i.zero=some z∧z.cells.size=size∧0<size
class Callable (P:Program) (f:FuncId):Prop where
 out: ∀ args w,(callFunc f args).run P w= .ok (.enter f args) w
theorem Tw {x:Operand} {v:Value} (hx:ev s x=some v):VOp P w0 s H (.move x) ty v:=fun ρ w _ _ _ _ hρ _=>by
 simp [execOp,hρ x v hx]
theorem xS {x:Operand} {v:Value} (hx:ev s x=some v):VOp P w0 s H (.assign x) ty v:=fun ρ w _ _ _ _ hρ _=>by
 simp [execOp,hρ x v hx]
theorem NN {c a b:Operand} {v:Value} (hc:ev s c=some (.bool true)) (ha:ev s a=some v):VOp P w0 s H (.pick c a b) ty v:=fun ρ w _ _ _ _ hρ _=>by
 simp [execOp,hρ c _ hc,hρ a v ha,asBool]
theorem NP {c a b:Operand} {v:Value} (hc:ev s c=some (.bool false)) (hb:ev s b=some v):VOp P w0 s H (.pick c a b) ty v:=fun ρ w _ _ _ _ hρ _=>by
 simp [execOp,hρ c _ hc,hρ b v hb,asBool]
section ap
variable {x y:Operand} {k:IntKind} {a b:Int} {t t' :TypeId}
theorem Uy (hx:ev s x=some (.int k a)) (hy:ev s y=some (.int k b)):VOp P w0 s H (.binOp .lss t x y t') ty (.bool (decide (a<b))):=fun ρ w _ _ _ _ hρ _=>by
 simp [execOp,hρ x _ hx,hρ y _ hy,eqGuard,binOp,Op.intCmp]
theorem Uz (hx:ev s x=some (.int k a)) (hy:ev s y=some (.int k b)):VOp P w0 s H (.binOp .leq t x y t') ty (.bool (decide (a≤b))):=fun ρ w _ _ _ _ hρ _=>by
 simp [execOp,hρ x _ hx,hρ y _ hy,eqGuard,binOp,Op.intCmp]
theorem UB (hx:ev s x=some (.int k a)) (hy:ev s y=some (.int k b)):VOp P w0 s H (.binOp .gtr t x y t') ty (.bool (decide (b<a))):=fun ρ w _ _ _ _ hρ _=>by
 simp [execOp,hρ x _ hx,hρ y _ hy,eqGuard,binOp,Op.intCmp]
theorem UC (hx:ev s x=some (.int k a)) (hy:ev s y=some (.int k b)):VOp P w0 s H (.binOp .geq t x y t') ty (.bool (decide (b≤a))):=fun ρ w _ _ _ _ hρ _=>by
 simp [execOp,hρ x _ hx,hρ y _ hy,eqGuard,binOp,Op.intCmp]
theorem Kc (hx:ev s x=some (.int k a)) (hy:ev s y=some (.int k b)):VOp P w0 s H (.binOp .eql t x y t') ty (.bool (decide (a=b))):=fun ρ w _ _ _ _ hρ _=>by
 simp [execOp,hρ x _ hx,hρ y _ hy,eqGuard,binOp,Op.intCmp];rw [V3];simp
theorem SM (hx:ev s x=some (.int k a)) (hy:ev s y=some (.int k b)):VOp P w0 s H (.binOp .neq t x y t') ty (.bool (decide (a≠b))):=fun ρ w _ _ _ _ hρ _=>by
 simp [execOp,hρ x _ hx,hρ y _ hy,eqGuard,binOp,Op.intCmp,bne];rw [V3];simp
def I64 (z:Int):Prop:= -9223372036854775808≤z∧z≤9223372036854775807
theorem I64.wrap {z:Int} (h:I64 z):IntKind.i64.wrap z=z:=by
 rw [IntKind.wrap_i64];obtain ⟨h1,h2⟩:=h;omega
theorem mC (hx:ev s x=some (.int .i64 a)) (hy:ev s y=some (.int .i64 b)) (h:I64 (a+b)):VOp P w0 s H (.binOp .add t x y t') ty (.int .i64 (a+b)):=fun ρ w _ _ _ _ hρ _=>by
 simp [execOp,hρ x _ hx,hρ y _ hy,eqGuard,binOp,Op.intArith,h.wrap]
theorem Bi (hx:ev s x=some (.int .i64 a)) (hy:ev s y=some (.int .i64 b)) (h:I64 (a - b)):VOp P w0 s H (.binOp .sub t x y t') ty (.int .i64 (a - b)):=fun ρ w _ _ _ _ hρ _=>by
 simp [execOp,hρ x _ hx,hρ y _ hy,eqGuard,binOp,Op.intArith,h.wrap]
theorem Bk (hx:ev s x=some (.int .i64 a)) (hy:ev s y=some (.int .i64 b)) (h:I64 (a*b)):VOp P w0 s H (.binOp .mul t x y t') ty (.int .i64 (a*b)):=fun ρ w _ _ _ _ hρ _=>by
 simp [execOp,hρ x _ hx,hρ y _ hy,eqGuard,binOp,Op.intArith,h.wrap]
theorem xT (hx:ev s x=some (.int k a)) (hy:ev s y=some (.int k b)):VOp P w0 s H (.binOp .add t x y t') ty (.int k (k.wrap (a+b))):=fun ρ w _ _ _ _ hρ _=>by
 simp [execOp,hρ x _ hx,hρ y _ hy,eqGuard,binOp,Op.intArith]
theorem Tq (hx:ev s x=some (.int k a)) (hy:ev s y=some (.int k b)):VOp P w0 s H (.binOp .sub t x y t') ty (.int k (k.wrap (a - b))):=fun ρ w _ _ _ _ hρ _=>by
 simp [execOp,hρ x _ hx,hρ y _ hy,eqGuard,binOp,Op.intArith]
theorem Kb (hx:ev s x=some (.int k a)) (hy:ev s y=some (.int k b)) (h:b≠0):VOp P w0 s H (.binOp .rem t x y t') ty (.int k (a.tmod b)):=fun ρ w _ _ _ _ hρ _=>by
 simp [execOp,hρ x _ hx,hρ y _ hy,eqGuard,binOp,Op.intDiv,h]
theorem SN (hx:ev s x=some (.int .i64 a)) (h:I64 (-a)):VOp P w0 s H (.unOp .neg t x) ty (.int .i64 (-a)):=fun ρ w _ _ _ _ hρ _=>by
 simp [execOp,hρ x _ hx,Op.unary,Op.intArith,h.wrap]
theorem Ia {k' :IntKind} {d:TypeDesc} [hs:Und P t d] [hd:Und P t' (.int k')] (hx:ev s x=some (.int k a)):VOp P w0 s H (.convert t t' x) ty (.int k' (k'.wrap a)):=fun ρ w _ _ _ _ hρ _=>by
 simp [execOp,hρ x _ hx,convert,run_underlying hs.out,run_underlying hd.out,Conv.intToInt]
end ap
section bools
variable {x y:Operand} {a b:Bool} {t t' :TypeId}
theorem Ux (hx:ev s x=some (.bool a)):VOp P w0 s H (.unOp .not t x) ty (.bool (!a)):=fun ρ w _ _ _ _ hρ _=>by
 simp [execOp,hρ x _ hx,Op.unary]
theorem Tz [ht:Und P t .bool] (hx:ev s x=some (.bool a)) (hy:ev s y=some (.bool b)):VOp P w0 s H (.binOp .eql t x y t') ty (.bool (a==b)):=fun ρ w _ _ _ _ hρ _=>by
 simp [execOp,hρ x _ hx,hρ y _ hy,eqGuard,run_eql_bool w t a b ht.out]
theorem NQ [ht:Und P t .bool] (hx:ev s x=some (.bool a)) (hy:ev s y=some (.bool b)):VOp P w0 s H (.binOp .neq t x y t') ty (.bool (!(a==b))):=fun ρ w _ _ _ _ hρ _=>by
 simp [execOp,hρ x _ hx,hρ y _ hy,eqGuard,run_neq_bool w t a b ht.out]
end bools
section strings
variable {x y:Operand} {a b:ByteArray} {t t' :TypeId}
theorem JH (a b:ByteArray):(a.toList==b.toList)=decide (a=b):=by
 rw [← beq_toListBytes];obtain ⟨⟨x⟩⟩:=a;obtain ⟨⟨y⟩⟩:=b;show ((⟨x⟩:Array UInt8)==⟨y⟩)=_;rw [V3];simp
theorem H7 (hx:ev s x=some (.string a)) (hy:ev s y=some (.string b)):VOp P w0 s H (.binOp .eql t x y t') ty (.bool (decide (a=b))):=fun ρ w _ _ _ _ hρ _=>by
 simp [execOp,hρ x _ hx,hρ y _ hy,eqGuard,binOp,Op.stringOp,JH]
theorem Tt (hx:ev s x=some (.string a)) (hy:ev s y=some (.string b)):VOp P w0 s H (.binOp .neq t x y t') ty (.bool (decide (a≠b))):=fun ρ w _ _ _ _ hρ _=>by
 simp [execOp,hρ x _ hx,hρ y _ hy,eqGuard,binOp,Op.stringOp,JH]
theorem NT [ht:Und P t .string] (hx:ev s x=some (.string a)):VOp P w0 s H (.call { callee:= .builtin .len,args:= #[x],argTypes:= #[t] }) ty (.int .i64 (a.size:Int)):=fun ρ w _ _ _ _ hρ _=>by
 simp [execOp,hρ x _ hx,resolve,invoke,builtin,Builtin.len_,run_underlying ht.out,goInt]
end strings
theorem UA {x:Operand} {A:Option Addr} {m c:Nat} {t e:TypeId} [ht:Und P t (.slice e)] (hx:ev s x=some (.slice A m c)):
 VOp P w0 s H (.call { callee:= .builtin .len,args:= #[x],argTypes:= #[t] }) ty (.int .i64 (m:Int)):=fun ρ w _ _ _ _ hρ _=>by
 simp [execOp,hρ x _ hx,resolve,invoke,builtin,Builtin.len_,run_underlying ht.out,goInt]
theorem jE {x y:Operand} {a b:Int} {ts:Array TypeId} (hx:ev s x=some (.int .i64 a)) (hy:ev s y=some (.int .i64 b)):
 VOp P w0 s H (.call { callee:= .builtin .max,args:= #[x,y],argTypes:=ts }) ty (.int .i64 (if a<b then b else a)):=fun ρ w _ _ _ _ hρ _=>by
 simp [execOp,hρ x _ hx,hρ y _ hy,resolve,invoke,builtin,run_max_int2]
theorem jD {x y:Operand} {a b:Int} {ts:Array TypeId} (hx:ev s x=some (.int .i64 a)) (hy:ev s y=some (.int .i64 b)):
 VOp P w0 s H (.call { callee:= .builtin .min,args:= #[x,y],argTypes:=ts }) ty (.int .i64 (if b<a then b else a)):=fun ρ w _ _ _ _ hρ _=>by
 simp [execOp,hρ x _ hx,hρ y _ hy,resolve,invoke,builtin,run_min_int2]
theorem Lj {x:Operand} {vs:List Value} {i:Nat} {v:Value} (hx:ev s x=some (.tuple vs.toArray)) (hi:vs[i]? =some v):VOp P w0 s H (.extract x i) ty v:=fun ρ w _ _ _ _ hρ _=>by
 have hi' :vs.toArray[i]? =some v:=by rw [V6];exact hi
 simp [execOp,hρ x _ hx,Instr.extract,hi]
theorem yd {w:World} {g o off:Nat} {fl:Field} {i:TypeInfo} (ho:fl.offset=o) (hi:P.info? fl.type=some i) (hz:i.size≠0):
 (fieldPlace ⟨g,off,none⟩ fl).run P w= .ok ⟨g,off+o,none⟩ w:=by
 have hz' :(if i.size=0 then true else false)=false:=by simp [hz]
 simp [fieldPlace,sizeOf,typeInfo,hi,hz,Addr.add,ho];try (intro h;rw [h])
theorem EZ {x:Operand} {t f o g off:Nat} [hf:Fld P t f o] (hx:ev s x=some (.pointer (some ⟨g,off,none⟩))):
 VOp P w0 s H (.fieldAddr t x f) ty (.pointer (some ⟨g,off+o,none⟩)):=fun ρ w _ _ _ _ hρ _=>by
 obtain ⟨fs,fl,i,h1,h2,h3,h4,h5⟩:=hf.out;simp [execOp,hρ x _ hx,Instr.fieldAt,run_underlying h1,h2,Instr.sureAddr,yd h3 h4 h5]
theorem aa {x ix:Operand} {t e g off m c j sz:Nat} {k:IntKind} [ht:Und P t (.slice e)] [hs:Size P e sz] (hx:ev s x=some (.slice (some ⟨g,off,none⟩) m c)) (hi:ev s ix=some (.int k (j:Nat)))
 (hj:j<m):VOp P w0 s H (.indexAddr t x ix) ty (.pointer (some ⟨g,off+j*sz,none⟩)):=fun ρ w _ _ _ _ hρ _=>by
 obtain ⟨i,h1,h2⟩:=hs.out;have hj' :(j:Int)<(m:Int):=by omega
 have h0:(0:Int)≤(j:Int):=by omega
 have hadd:(⟨g,off,none⟩:Addr).add (j*sz)=⟨g,off+j*sz,none⟩:=by
  unfold Addr.add;split<;>simp_all
 simp [execOp,hρ x _ hx,hρ ix _ hi,Instr.indexAt,run_underlying ht.out,asIntOf,sizeOf,typeInfo,h1,h2,hadd];omega
def Cells (w:World) (g off:Nat) (xs:List Value):Prop:= ∀ j v,xs[j]? =some v→w.cell? ⟨g,off+j,none⟩=some v
theorem dR (g off j:Nat):(⟨g,off,none⟩:Addr).add j=⟨g,off+j,none⟩:=by
 unfold Addr.add;split<;>simp_all
theorem eC {w:World} {t:TypeId} {g off:Nat} {v:Value} [h:One P t] (hc:w.cell? ⟨g,off,none⟩=some v):(loadVar t ⟨g,off,none⟩).run P w= .ok v w:=by
 obtain ⟨d,hd,ho⟩:=h.out;cases d<;>simp_all [loadVar,isAgg,run_underlying hd]
theorem ic {w:World} {t:TypeId} {g off m:Nat} {xs:List Value} [h:Agg P t m] (hl:xs.length=m) (hc:Cells w g off xs):(loadVar t ⟨g,off,none⟩).run P w= .ok (.agg xs.toArray) w:=by
 obtain ⟨d,i,hd,ho,hi,hs⟩:=h.out;have h1:=run_loadCells_list (P:=P) w ⟨g,off,none⟩ xs (fun j v hv=>by rw [dR];exact hc j v hv);rw [hl] at h1;cases d<;>simp_all [loadVar,isAgg,run_underlying hd,sizeOf,typeInfo]
theorem Mem.cells_box {w w0:World} {H:List Blk} {g:Nat} {t:TypeId} {xs:List Value} (h:Mem w0 w H) (hi:In (.box g t xs) H):Cells w g 0 xs:=by
 have h1:=(h.on _ hi.mem).1;simp only [Blk.on] at h1;intro j v hv;rw [VD,cell_of_row w g j _ t (0,0) h1];simpa using hv
theorem Mem.cells_own {w w0:World} {H:List Blk} {g m c sz:Nat} {t:TypeId} {xs:List Value} (h:Mem w0 w H) (hi:In (.own (some g) t sz m c xs) H):Cells w g 0 xs:=by
 obtain ⟨hl,_,_,junk,_,h1⟩:=(h.on _ hi.mem).1;intro j v hv;rw [VD,cell_of_row w g j _ t (0,0) h1];have hlt:=(VI.1 hv).1;rw [V6,VO hlt];exact hv
structure Ro (w0:World) (g off:Nat) (xs:List Value):Prop where
 lt:g<w0.heap.size
 cells:Cells w0 g off xs
theorem Ro.later {w w0:World} {H:List Blk} {g off:Nat} {xs:List Value} (h:Ro w0 g off xs) (hm:Mem w0 w H):Cells w g off xs:=
 fun j v hv=>(hm.below.cell (p:=⟨g,off+j,none⟩) h.lt).trans (h.cells j v hv)
theorem Cells.drop {w:World} {g off k:Nat} {xs:List Value} (h:Cells w g off xs):Cells w g (off+k) (xs.drop k):=fun j v hv=>by
 rw [Wz] at hv;rw [WF];exact h _ v hv
theorem Cells.take {w:World} {g off k:Nat} {xs:List Value} (h:Cells w g off xs):Cells w g off (xs.take k):=fun j v hv=>by
 rw [Yo] at hv;split at hv
 ·exact h _ v hv
 ·cases hv
theorem eQ {x:Operand} {t T g off:Nat} {xs:List Value} {v:Value} [One P t] (hx:ev s x=some (.pointer (some ⟨g,off,none⟩))) (hi:In (.box g T xs) H) (hv:xs[off]? =some v):
 VOp P w0 s H (.load t x) ty v:=fun ρ w _ _ _ _ hρ hm=>by
 have hc:=hm.cells_box hi off v hv;rw [VD] at hc;simp [execOp,hρ x _ hx,Instr.loadAt,Instr.sureAddr,eC (P:=P) hc]
theorem aq {x:Operand} {t T g off m c sz:Nat} {xs:List Value} {v:Value} [One P t] (hx:ev s x=some (.pointer (some ⟨g,off,none⟩))) (hi:In (.own (some g) T sz m c xs) H) (hv:xs[off]? =some v):
 VOp P w0 s H (.load t x) ty v:=fun ρ w _ _ _ _ hρ hm=>by
 have hc:=hm.cells_own hi off v hv;rw [VD] at hc;simp [execOp,hρ x _ hx,Instr.loadAt,Instr.sureAddr,eC (P:=P) hc]
theorem aR {x:Operand} {t g o off:Nat} {xs:List Value} {v:Value} [One P t] (hr:Ro w0 g o xs) (hx:ev s x=some (.pointer (some ⟨g,o+off,none⟩))) (hv:xs[off]? =some v):
 VOp P w0 s H (.load t x) ty v:=fun ρ w _ _ _ _ hρ hm=>by
 simp [execOp,hρ x _ hx,Instr.loadAt,Instr.sureAddr,eC (P:=P) (hr.later hm off v hv)]
theorem pM {x:Operand} {t T g off m:Nat} {xs ys:List Value} [Agg P t m] (hx:ev s x=some (.pointer (some ⟨g,off,none⟩))) (hi:In (.box g T xs) H) (hv:(xs.drop off).take m=ys) (hl:ys.length=m):
 VOp P w0 s H (.load t x) ty (.agg ys.toArray):=fun ρ w _ _ _ _ hρ hm=>by
 subst hv;have hc:Cells w g off ((xs.drop off).take m):=by
  have:=((hm.cells_box hi).drop (k:=off)).take (k:=m);rwa [VD] at this
 simp [execOp,hρ x _ hx,Instr.loadAt,Instr.sureAddr,ic (P:=P) hl hc]
theorem aD {x:Operand} {t T g off m n' c sz:Nat} {xs ys:List Value} [Agg P t m] (hx:ev s x=some (.pointer (some ⟨g,off,none⟩))) (hi:In (.own (some g) T sz n' c xs) H) (hv:(xs.drop off).take m=ys) (hl:ys.length=m):
 VOp P w0 s H (.load t x) ty (.agg ys.toArray):=fun ρ w _ _ _ _ hρ hm=>by
 subst hv;have hc:Cells w g off ((xs.drop off).take m):=by
  have:=((hm.cells_own hi).drop (k:=off)).take (k:=m);rwa [VD] at this
 simp [execOp,hρ x _ hx,Instr.loadAt,Instr.sureAddr,ic (P:=P) hl hc]
theorem cZ {x:Operand} {t g o off m:Nat} {xs ys:List Value} [Agg P t m] (hr:Ro w0 g o xs) (hx:ev s x=some (.pointer (some ⟨g,o+off,none⟩))) (hv:(xs.drop off).take m=ys) (hl:ys.length=m):
 VOp P w0 s H (.load t x) ty (.agg ys.toArray):=fun ρ w _ _ _ _ hρ hm=>by
 subst hv;have hc:Cells w g (o+off) ((xs.drop off).take m):=((hr.later hm).drop (k:=off)).take (k:=m);simp [execOp,hρ x _ hx,Instr.loadAt,Instr.sureAddr,ic (P:=P) hl hc]
end
section
variable {P:Program} {n:Fr} {w0:World} {Q:cd} {s:aC} {H:List Blk} {ty:TypeId}
theorem xP {x ix:Operand} {t e g off m j sz:Nat} {k:IntKind} [ht:Und P t (.array m e)] [hs:Size P e sz] (hx:ev s x=some (.pointer (some ⟨g,off,none⟩))) (hi:ev s ix=some (.int k (j:Nat)))
 (hj:j<m):VOp P w0 s H (.indexAddr t x ix) ty (.pointer (some ⟨g,off+j*sz,none⟩)):=fun ρ w _ _ _ _ hρ _=>by
 obtain ⟨i,h1,h2⟩:=hs.out;have hj' :(j:Int)<(m:Int):=by omega
 have h0:(0:Int)≤(j:Int):=by omega
 have hadd:(⟨g,off,none⟩:Addr).add (j*sz)=⟨g,off+j*sz,none⟩:=by
  unfold Addr.add;split<;>simp_all
 simp [execOp,hρ x _ hx,hρ ix _ hi,Instr.indexAt,run_underlying ht.out,asIntOf,sizeOf,typeInfo,h1,h2,hadd,Instr.sureAddr];try omega
theorem Bm {x ix:Operand} {t e g off m sz:Nat} {k:IntKind} [ht:Und P t (.array m e)] [hs:Size P e sz] (hx:ev s x=some (.pointer (some ⟨g,off,none⟩))) (hi:ev s ix=some (.int k 0)) (hj:Nat.blt 0 m=true):
 VOp P w0 s H (.indexAddr t x ix) ty (.pointer (some ⟨g,off,none⟩)):=by
 have h:=xP (P:=P) (w0:=w0) (H:=H) (ty:=ty) (t:=t) (j:=0) hx hi (by simpa using hj);rwa [XV,XA] at h
theorem Bl {x ix:Operand} {t e g off m sz:Nat} {k:IntKind} [ht:Und P t (.array m e)] [hs:Size P e sz] (hx:ev s x=some (.pointer (some ⟨g,off,none⟩))) (hi:ev s ix=some (.int k 1)) (hj:Nat.blt 1 m=true):
 VOp P w0 s H (.indexAddr t x ix) ty (.pointer (some ⟨g,off+sz,none⟩)):=by
 have h:=xP (P:=P) (w0:=w0) (H:=H) (ty:=ty) (t:=t) (j:=1) hx hi (by simpa using hj);rwa [XX] at h
end
section
variable {P:Program} {n:Fr} {w0:World} {Q:cd} {s:aC} {H:List Blk} {l rest:List Oper} {ty:TypeId} {p:String} {af:Array Edge}
theorem H9 {t lo hi:Nat} {a:ByteArray} {x q r:Operand} {k k' :IntKind} [ht:Und P t .string] (hx:ev s x=some (.string a)) (hr:ev s r=some (.int k' (lo:Nat))) (hq:ev s q=some (.int k (hi:Nat))) (h1:lo≤hi) (h2:hi≤a.size):
 VOp P w0 s H (.slice t x (some r) (some q) none) ty (.string (a.extract lo hi)):=fun ρ w _ _ _ _ hρ _=>by
 simp [execOp,hρ x _ hx,hρ q _ hq,hρ r _ hr,Instr.sliceAt,run_underlying ht.out,Instr.slice,Instr.sliceBounds,Instr.sliceBound,asIntOf,h2,h1]
theorem xQ {t lo:Nat} {a:ByteArray} {x r:Operand} {k' :IntKind} [ht:Und P t .string] (hx:ev s x=some (.string a)) (hr:ev s r=some (.int k' (lo:Nat))) (h1:lo≤a.size):
 VOp P w0 s H (.slice t x (some r) none none) ty (.string (a.extract lo a.size)):=fun ρ w _ _ _ _ hρ _=>by
 simp [execOp,hρ x _ hx,hρ r _ hr,Instr.sliceAt,run_underlying ht.out,Instr.slice,Instr.sliceBounds,Instr.sliceBound,asIntOf,h1]
theorem TC {x y:Operand} {a b:ByteArray} {t t' :TypeId} (hx:ev s x=some (.string a)) (hy:ev s y=some (.string b)) (h:a.size+b.size≤maxLen):VOp P w0 s H (.binOp .add t x y t') ty (.string (a++b)):=fun ρ w _ _ _ _ hρ _=>by
 simp only [maxLen] at h;simp [execOp,hρ x _ hx,hρ y _ hy,eqGuard,binOp,Op.stringOp];omega
theorem gP {x:Operand} {t:TypeId} {v:Value} {d:TypeDesc} [ht:Und P t d] (hd: ∀ m,d≠ .interface m) (hx:ev s x=some v):VOp P w0 s H (.makeInterface t x) ty (.iface t v):=fun ρ w _ _ _ _ hρ _=>by
 cases d<;>first|exact absurd rfl (hd _)|simp [execOp,hρ x _ hx,Instr.makeInterface,run_underlying ht.out]
end
structure Rct where
 c1:Int
 r1:Int
 c2:Int
 r2:Int
structure Vl where
 kind:Int
 num:Int
 text:ByteArray
structure Nd where
 kind:Int
 v:Vl
 rect:Rct
 op:Int
 fn:Int
 n:Int
def bz (r:Rct):List Value:= [.int .i64 r.c1,.int .i64 r.r1,.int .i64 r.c2,.int .i64 r.r2]
def eZ (v:Vl):List Value:= [.int .u8 v.kind,.int .i64 v.num,.string v.text]
def bu (n:Nd):List Value:=
 [.int .u8 n.kind,.int .u8 n.v.kind,.int .i64 n.v.num,.string n.v.text,.int .i64 n.rect.c1,.int .i64 n.rect.r1,.int .i64 n.rect.c2,.int .i64 n.rect.r2,.int .i64 n.op,.int .u8 n.fn,.int .i64 n.n]
def valid (c r:Int):Bool:=decide (1≤c) && decide (c≤1024) && decide (1≤r) && decide (r≤1024)
def bW (r:Rct):Bool:=valid r.c1 r.r1 && valid r.c2 r.r2 && decide (r.c1≤r.c2) && decide (r.r1≤r.r2)
def jr (r:Rct):Int:=bif bW r then 0 else 3
def p9 (b:ByteArray):Bool:=b.data.toList.all fun c=>decide (32≤c.toNat) && decide (c.toNat≤126)
def kL (b:ByteArray):Int:=bif decide (256<b.size) then 5 else bif p9 b then 0 else 4
def aB:ByteArray:=⟨#[]⟩
def xL (v:Vl):Bool:=
 bif decide (v.kind=0) then decide (v.num=0) && decide (v.text=aB)
 else bif decide (v.kind=1) then decide (v.text=aB) && decide (v.num≠ -9223372036854775808)
 else bif decide (v.kind=2) then decide (v.text=aB) && decide (v.num / 2=0)
 else bif decide (v.kind=3) then decide (v.num=0) && decide (kL v.text=0)
 else bif decide (v.kind=4) then decide (v.text=aB) && decide (1≤v.num) && decide (v.num≤6)
 else false
def rT (v:Vl):Int:=bif xL v then 0 else 2
def dF (fn:Int):Bool:=decide (1≤fn) && decide (fn≤50)
def jM (fn:Int):Bool:=decide (46≤fn) && decide (fn≤50)
def fO (fn:Int):Int × Int × Int:=
 if fn=5∨fn=6∨fn=7∨fn=25∨fn=39∨fn=40∨fn=18∨fn=19∨fn=45∨fn=44 then (2,2,0)
 else if fn=20∨fn=41∨fn=43 then (2,3,0)
 else if fn=32∨fn=33 then (1,2,0)
 else if fn=34 then (3,3,0)
 else if fn=21∨fn=22∨fn=23∨fn=38∨fn=9∨fn=10∨fn=11∨fn=12∨fn=14∨fn=15∨fn=16∨fn=17 then (1,16,0)
 else if fn=30 then (2,16,0)
 else if dF fn then (1,1,0) else (0,0,10)
def lN (fn i:Int):Bool × Int:=
 if (fO fn).2.2≠0 then (false,(fO fn).2.2)
 else if i<0∨(fO fn).2.1≤i then (false,3)
 else if fn=9∨fn=10∨fn=11∨fn=12∨fn=14∨fn=15∨fn=16∨fn=17 then (true,0)
 else if fn=44 then (decide (i=1),0)
 else if fn=18∨fn=19∨fn=45∨fn=43∨fn=13 then (decide (i=0),0)
 else (jM fn,0)
def below (n:Nd):Int:=
 if n.kind=4∨n.kind=5 then 1 else if n.kind=6 then 2 else if n.kind=7 then n.n else 0
def aZ:Rct:=⟨0,0,0,0⟩
def bX:Vl:=⟨0,0,aB⟩
def dS (n:Nd):Nd:=
 if n.kind=1 then ⟨n.kind,n.v,aZ,0,0,0⟩
 else if n.kind=2∨n.kind=3 then ⟨n.kind,bX,n.rect,0,0,0⟩
 else if n.kind=6 then ⟨n.kind,bX,aZ,n.op,0,0⟩
 else if n.kind=7 then ⟨n.kind,bX,aZ,0,n.fn,n.n⟩
 else ⟨n.kind,bX,aZ,0,0,0⟩
def KC (v:Vl):Bool:=
 (if v.kind=0 then false else if v.kind=1 then decide (0≤v.num) else if v.kind=4 then decide (1≤v.num) && decide (v.num≤5) else true) && decide (rT v=0)
def OO (r:Rct):Bool:=decide (r.c1=r.c2) && decide (r.r1=r.r2)
def fS (n:Nd):Bool:=
 if n.kind=1 then KC n.v
 else if n.kind=2∨n.kind=3 then decide (jr n.rect=0) && (OO n.rect==decide (n.kind=2))
 else if n.kind=4∨n.kind=5 then true
 else if n.kind=6 then decide (1≤n.op) && decide (n.op≤12)
 else if n.kind=7 then decide (0≤n.n)
 else false
def eqV (a b:Vl):Bool:=decide (a.kind=b.kind) && (decide (a.num=b.num) && decide (a.text=b.text))
def eqR (a b:Rct):Bool:=decide (a.c1=b.c1) && (decide (a.r1=b.r1) && (decide (a.c2=b.c2) && decide (a.r2=b.r2)))
def eqN (a b:Nd):Bool:=decide (a.kind=b.kind) && (eqV a.v b.v && (eqR a.rect b.rect && (decide (a.op=b.op) && (decide (a.fn=b.fn) && decide (a.n=b.n)))))
theorem DU {a b:Vl}:eqV a b=true↔a=b:=by
 obtain ⟨a1,a2,a3⟩:=a;obtain ⟨b1,b2,b3⟩:=b;simp [eqV]
theorem xp {a b:Rct}:eqR a b=true↔a=b:=by
 obtain ⟨a1,a2,a3,a4⟩:=a;obtain ⟨b1,b2,b3,b4⟩:=b;simp [eqR]
theorem KP {a b:Nd}:eqN a b=true↔a=b:=by
 obtain ⟨a1,a2,a3,a4,a5,a6⟩:=a;obtain ⟨b1,b2,b3,b4,b5,b6⟩:=b;simp [eqN,DU,xp]
theorem P0 (a b:Int):(a==b)=decide (a=b):=by rw [V3];simp
def bM (n:Nd):Int:=
 if fS n=false∨eqN n (dS n)=false then 2
 else if n.kind≠7 then 0
 else if (fO n.fn).2.2≠0 then (fO n.fn).2.2
 else if n.n<(fO n.fn).1∨(fO n.fn).2.1<n.n then 11
 else 0
structure Pt where
 root:Nat
 depth:Nat
 wide:Bool
def vF (p:Pt):List Value:= [.int .i64 (p.root:Int),.int .i64 (p.depth:Int),.bool p.wide]
theorem cR (n:Nd):(bu n).length=11:=rfl
theorem qx (p:Pt):(vF p).length=3:=rfl
def jS (L:List Nd) (i:Nat):Int:=((L[i]?).map Nd.kind).getD 0
def Gt (n:Nd) (i:Int):Bool:=if n.kind=7 then (lN n.fn i).1 else false
def vD (L:List Nd) (n:Nd) (i:Int) (p:Pt):Bool:=
 !(p.wide && !Gt n i) && !(decide (n.kind=7) && jM n.fn && decide (jS L p.root≠2) && decide (jS L p.root≠3))
def fu (L:List Nd) (n:Nd):Int→List Pt→Bool
 |_,[]=>true
 |i,p::r=>vD L n i p && fu L n (i+1) r
def bD (st:List Pt) (k:Nat):List Pt:=st.drop (st.length - k)
def cL (top:List Pt):Nat:=top.foldl (fun d p=>max d (p.depth+1)) 1
def kw (L:List Nd) (n:Nd) (i:Nat) (st:List Pt):Int ⊕ (List Pt × List Nat × Nat):=
 if bM n≠0 then .inl (bM n)
 else if (st.length:Int)<below n∨fu L n 0 (bD st (below n).toNat)=false then .inl 4
 else if 32<cL (bD st (below n).toNat) then .inl 9
 else .inr (st.take (st.length - (below n).toNat)++ [⟨i,cL (bD st (below n).toNat),decide (n.kind=3)⟩],(bD st (below n).toNat).map Pt.root,cL (bD st (below n).toNat))
abbrev oE:=List Nat × Nat
def fV (L:List Nd):List Nd→Nat→List Pt→List oE→Int × List oE
 | [],_,st,vs=>(if st.length=1 then 0 else 4,vs)
 |n::r,i,st,vs=>match kw L n i st with
  | .inl e=>(e,vs)
  | .inr (st',kids,d)=>fV L r (i+1) st' (vs++ [(kids,d)])
def ap (b:ByteArray):List Int:=b.data.toList.map fun c=>(c.toNat:Int)
theorem az (b:ByteArray):(ap b).length=b.size:=by simp [ap]
theorem uf (b:ByteArray) (i:Nat) (h:i<b.size):(ap b)[i]'(by rw [az];exact h)=(b[i].toNat:Int):=by
 simp [ap];rfl
instance iN1:DecidableEq Vl:=fun a b=>decidable_of_iff (eqV a b=true) DU
instance iN2:DecidableEq Nd:=fun a b=>decidable_of_iff (eqN a b=true) KP
theorem KM (a b:Vl):eqV a b=decide (a=b):=by rw [V3,DU];simp
theorem DV (a b:Nd):eqN a b=decide (a=b):=by rw [V3,KP];simp
structure Rf where
 col:Int
 row:Int
def aw (a:Rf):List Value:= [.int .i64 a.col,.int .i64 a.row]
theorem bS (a:Rf):(aw a).length=2:=rfl
def eqF (a b:Rf):Bool:=decide (a.col=b.col) && decide (a.row=b.row)
theorem KR {a b:Rf}:eqF a b=true↔a=b:=by
 obtain ⟨a1,a2⟩:=a;obtain ⟨b1,b2⟩:=b;simp [eqF]
instance iN3:DecidableEq Rf:=fun a b=>decidable_of_iff (eqF a b=true) KR
theorem qY (a b:Rf):eqF a b=decide (a=b):=by rw [V3,KR];simp
def Rf.valid (a:Rf):Bool:=Go.SL.valid a.col a.row
structure Us where
 rect:Rct
 node:Int
 fn:Int
def cw (u:Us):List Value:= [.int .i64 u.rect.c1,.int .i64 u.rect.r1,.int .i64 u.rect.c2,.int .i64 u.rect.r2,.int .i64 u.node,.int .u8 u.fn]
theorem jx (u:Us):(cw u).length=6:=rfl
def eqU (a b:Us):Bool:=eqR a.rect b.rect && (decide (a.node=b.node) && decide (a.fn=b.fn))
theorem KN {a b:Us}:eqU a b=true↔a=b:=by
 obtain ⟨a1,a2,a3⟩:=a;obtain ⟨b1,b2,b3⟩:=b;simp [eqU,xp]
instance iN4:DecidableEq Us:=fun a b=>decidable_of_iff (eqU a b=true) KN
theorem Se (a b:Us):eqU a b=decide (a=b):=by rw [V3,KN];simp
structure Tk where
 kind:Int
 num:Int
 text:ByteArray
 rect:Rct
 at_:Int
def bw (t:Tk):List Value:= [.int .u8 t.kind,.int .i64 t.num,.string t.text,.int .i64 t.rect.c1,.int .i64 t.rect.r1,.int .i64 t.rect.c2,.int .i64 t.rect.r2,.int .i64 t.at_]
theorem Cs (t:Tk):(bw t).length=8:=rfl
def dY:Tk:=⟨0,0,aB,⟨0,0,0,0⟩,0⟩
def aL (c:Int):Bool:=decide (48≤c) && decide (c≤57)
def cz (c:Int):Bool:=(decide (65≤c) && decide (c≤90))||(decide (97≤c) && decide (c≤122))
def dI (c:Int):Bool:=cz c||aL c
def upC (c:Int):Int:=if 97≤c∧c≤122 then c - 32 else c
def aK (p:Int→Bool):List Int→Nat
 | []=>0
 |c::r=>if p c then aK p r+1 else 0
def bP:List Int→Int→Int
 | [],v=>v
 |c::r,v=>bP r (10*v+(c - 48))
def dx:Int:=9223372036854775807
def mkB (l:List Int):ByteArray:=⟨(l.map fun n=>UInt8.ofNat n.toNat).toArray⟩
def cI (l:List Int):Nat:=match l with
 |46::r=>aK aL r
 |_=>0
def mM (l:List Int):Option (Int × Nat):=
 let w:=aK aL l;let p:=cI (l.drop w)
 if w=0∨4<p then none
 else
  let v:=bP (l.take w++(l.drop (w+1)).take p++List.replicate (4 - p) 48) 0
  if dx<v then none else some (v,if p=0 then w else w+1+p)
def mD:List Int→Option (List Int × Nat)
 | []=>none
 |c::r=>
  if c≠34 then (mD r).map fun x=>(c::x.1,x.2+1)
  else match r with
   | []=>some ([],1)
   |d::r' =>if d=34 then (mD r').map fun x=>(34::x.1,x.2+2) else some ([],1)
def bI:List Int→Int→Int
 | [],v=>v
 |c::r,v=>bI r (min (26*v+(upC c - 64)) 1025)
def pH:List Int→Int→Int
 | [],v=>v
 |c::r,v=>pH r (min (10*v+(c - 48)) 1025)
def cX (l:List Int):Int × Int × Int:=
 let a:=l.takeWhile cz;let d:=l.dropWhile cz
 if a= []∨d= []∨d.head? =some 48∨d.all aL=false then (0,0,4)
 else if 1024<bI a 0∨1024<pH d 0 then (0,0,3)
 else (bI a 0,pH d 0,0)
def dU (c r:Int):Rct:=⟨c,r,c,r⟩
def fw:List (List Int):= [[35,68,73,86,47,48,33],[35,86,65,76,85,69,33],[35,78,85,77,33],[35,78,47,65],[35,82,69,70,33]]
def mg (l:List Int):List (List Int)→Int→Option (Int × Nat)
 | [],_=>none
 |s::r,code=>if (l.take s.length).map upC=s then some (code,s.length) else mg l r (code+1)
def gI:List (List Int × Int):= [([60,62],8),([60,61],10),([62,61],12),([43],1),([45],2),([42],3),([47],4),([94],5),([38],6),([61],7),([60],9),([62],11),([37],13)]
def opL (l:List Int):List (List Int × Int)→Option (Int × Nat)
 | []=>none
 |(s,k)::r=>if l.take s.length=s then some (k,s.length) else opL l r
def bR (c:Int):Bool:=decide (32≤c) && decide (c≤126)
theorem DG (b:ByteArray) (i j:Nat):ap (b.extract i j)=((ap b).drop i).take (j - i):=by
 simp only [ap,ByteArray.data_extract,Array.toList_extract,List.extract_eq_take_drop,List.map_take,List.map_drop]
def jA (l:List Int):Prop:= ∀ c∈l,0≤c∧c<256
theorem o9 (b:ByteArray):jA (ap b):=by
 intro c hc;simp only [ap,VM] at hc;obtain ⟨u,_,rfl⟩:=hc;have:=u.toNat_lt;omega
theorem qj {l:List Int} (h:jA l):ap (mkB l)=l:=by
 simp only [ap,mkB,Xl];conv=>rhs;rw [← List.map_id l]
 apply Wu;intro c hc;have:=h c hc;simp only [Function.comp,id_eq,UInt8.toNat_ofNat'];omega
theorem nW (b:ByteArray):mkB (ap b)=b:=by
 apply ByteArray.ext;apply Array.ext';simp only [mkB,ap,Xl];conv=>rhs;rw [← List.map_id b.data.toList]
 apply Wu;intro c _;simp [Function.comp]
theorem za {a b:ByteArray} (h:ap a=ap b):a=b:=by rw [← nW a,← nW b,h]
theorem O2 {b:ByteArray} {l:List Int} (h:ap b=l):b=mkB l:=by rw [← h,nW]
theorem cH (p:Int→Bool): ∀ l,aK p l≤l.length
 | []=>VA _
 |c::r=>by
  simp only [aK];split
  ·have:=cH p r;simp;omega
  ·exact Vt _
theorem tH {p:Int→Bool} {l:List Int} {i:Nat} (h:l.length≤i):aK p (l.drop i)=0:=by
 rw [VY h];rfl
theorem lT {p:Int→Bool}: ∀ (l:List Int) (i:Nat) (c:Int),i<aK p l→l[i]? =some c→p c=true
 | [],i,c,h,_=>by simp [aK] at h
 |a::r,i,c,h,hc=>by
  simp only [aK] at h;split at h
  ·rename_i ha
   cases i with
   |zero=>simp at hc;subst hc;exact ha
   |succ i=>exact lT r i c (by omega) (by simpa using hc)
  ·omega
section
variable {P:Program} {n:Fr} {w0:World} {Q:cd} {s:aC} {H:List Blk} {l rest:List Oper} {ty:TypeId} {p:String} {af:Array Edge}
def gd:List Oper→Nat→Option Nat
 | [],_=>none
 |o::_,0=>o.dst
 |_::r,j+1=>gd r j
theorem U0 (l:List Oper) (j:Nat):(l.toArray[j]?).bind (·.dst)=gd l j:=by
 rw [V6]
 induction l generalizing j with
 |nil=>simp [gd]
 |cons o l ih=>cases j with
  |zero=>simp [gd]
  |succ j=>simpa [gd] using ih j
def mo:Value→Option Bool
 | .bool b=>some b
 |_=>none
theorem i9 {a:Act} {j d:Nat} {v:Value} (hs:St n s a) (hj:gd l j=some d) (hv:look s d=some v):
 yielded l.toArray a.tmps j=mo v:=by
 unfold yielded;rw [U0,hj];simp [hs.has d v hv];cases v<;>rfl
theorem Qv {op:Op} {dst:Option Tmp} {j d:Nat} {dS:Bool} (hj:gd l j=some d) (hv:look s d=some (.bool dS))
 (k:WL P n w0 l.toArray (⟨dst,op,ty,p,af,none⟩::rest) Q s H):WL P n w0 l.toArray (⟨dst,op,ty,p,af,some (j,dS)⟩::rest) Q s H:=by
 intro a w hs hm;have h:=k a w hs hm;have hy:=i9 hs hj hv;simp only [wpList,Region.wanted,if_true] at h;simp only [wpList,Region.wanted,hy,mo,beq_self_eq_true,if_true];exact h
theorem NB {op:Op} {dst j d:Nat} {dS:Bool} {v:Value} (hj:gd l j=some d) (hv:look s d=some v) (hw:mo v≠some dS) (hn:Nat.blt dst n.sz=true)
 (k:WL P n w0 l.toArray rest Q ((dst,undef)::s) H):WL P n w0 l.toArray (⟨some dst,op,ty,p,af,some (j,dS)⟩::rest) Q s H:=by
 intro a w hs hm;have hy:=i9 hs hj hv;have:(yielded l.toArray a.tmps j==some dS)=false:=by rw [hy];simpa using hw
 simp only [wpList,Region.wanted,this];exact k _ _ (hs.put (Wi ▸ hn) _) hm
theorem St.shadow {a:Act} {d:Nat} {v:Value} (hs:St n s a) (hv:look s d=some v):St n ((d,v)::s) a:=
 ⟨hs.size,hs.defers,fun t u hu=>by
  rw [jP] at hu;by_cases e:d=t
  ·subst e;rw [if_pos rfl] at hu;exact hs.has d u (hv.trans hu)
  ·rw [if_neg e] at hu;exact hs.has t u hu⟩
theorem K9 {op:Op} {dst:Option Tmp} {j d:Nat} {dS b:Bool} (_hj:gd l j=some d) (hv:look s d=some (.bool b))
 (k1:b=true→WL P n w0 l.toArray (⟨dst,op,ty,p,af,some (j,dS)⟩::rest) Q ((d,.bool true)::s) H)
 (k2:b=false→WL P n w0 l.toArray (⟨dst,op,ty,p,af,some (j,dS)⟩::rest) Q ((d,.bool false)::s) H):
 WL P n w0 l.toArray (⟨dst,op,ty,p,af,some (j,dS)⟩::rest) Q s H:=by
 intro a w hs hm
 cases b with
 |true=>exact k1 rfl a w (hs.shadow hv) hm
 |false=>exact k2 rfl a w (hs.shadow hv) hm
theorem tj {op:Op} {H' :List Blk} {ops:Array Oper} (h: ∀ a w,St n s a→Mem w0 w H→ ∃ w',(execOp a.eval ⟨none,op,ty,p,af,none⟩).run P w= .ok .skip w' ∧Mem w0 w' H')
 (k:WL P n w0 ops rest Q s H'):WL P n w0 ops (⟨none,op,ty,p,af,none⟩::rest) Q s H:=by
 intro a w hs hm;obtain ⟨w',hr,hm'⟩:=h a w hs hm;refine wpList_plain rfl fun K hK=> ?_;simp only [Oper.wp,hr,Oper.upon];exact hK _ _ (k _ _ (hs.put_none _) hm')
theorem ib {w:World} {t T g off:Nat} {cur:Array Value} {v:Value} {vs:List Value} {m:Nat} [hz:Size P t m] (hv:v.cells=vs.toArray) (hl:vs.length=m) (h1: ∀ u∈vs,u.oneCell' =true)
 (hg:w.heap[g]? =some (.cells cur T (0,0))) (hfit:off+m≤cur.size):
 (storeVar t ⟨g,off,none⟩ v).run P w= .ok () (w.setRow g (cur.toList.take off++vs++cur.toList.drop (off+m)).toArray):=by
 obtain ⟨i,hi,hs⟩:=hz.out;have hst:=run_storeCells_at P g off T vs 0 cur w hg (by simpa [hl] using hfit) h1;simp only [XA,hl] at hst;have hsz:v.cells.size=i.size:=by rw [hv,hs,← hl];simp
 have hsz' :vs.length=i.size:=hl.trans hs.symm;simp [storeVar,sizeOf,typeInfo,hi,hsz',hv,hst]
theorem fQ (w:World) (g:Nat) (cs:Array Value):w.grownBy (w.setRow g cs) (some g):=
 ⟨rfl,rfl,rfl,by simp,fun k _ hk=>setRow_other w g k _ (fun e=>hk (by rw [e]))⟩
theorem xB {ops:Array Oper} {t T g off m:Nat} {x a:Operand} {xs vs:List Value} {v:Value} {R:List Blk} [Size P t m] (ha:ev s a=some (.pointer (some ⟨g,off,none⟩))) (hx:ev s x=some v)
 (hsel:Sel (.box g T xs) H R) (hv:v.cells=vs.toArray) (hl:vs.length=m) (h1: ∀ u∈vs,u.oneCell' =true) (hfit:off+m≤xs.length)
 (k:WL P n w0 ops rest Q s (.box g T (xs.take off++vs++xs.drop (off+m))::R)):WL P n w0 ops (⟨none,.store t a x,ty,p,af,none⟩::rest) Q s H:=by
 refine tj (fun a' w hs hm=> ?_) k;have hm' :=hm.sel hsel;have hb:=(hm'.on _ Vr).1;simp only [Blk.on] at hb;have hr:=ib (P:=P) (t:=t) (off:=off) hv hl h1 hb (by simpa using hfit);simp only at hr;refine ⟨_,?_,hm'.upd (fQ _ _ _) (b' := .box g T (xs.take off++vs++xs.drop (off+m))) (setRow_heap _ _ _ _ _ _ hb) fun k hk=> .inl hk⟩;simp [execOp,hs.eval a _ ha,hs.eval x _ hx,Instr.storeAt,Instr.sureAddr,hr]
theorem pV (xs:List Value) (off:Nat) (v:Value) (h:off<xs.length):xs.take off++ [v]++xs.drop (off+1)=xs.set off v:=by
 rw [List.set_eq_take_append_cons_drop,if_pos h];simp
theorem CR {ops:Array Oper} {t T g off:Nat} {x a:Operand} {xs:List Value} {v:Value} {R:List Blk} [Size P t 1] (ha:ev s a=some (.pointer (some ⟨g,off,none⟩))) (hx:ev s x=some v)
 (hsel:Sel (.box g T xs) H R) (hv:v.oneCell' =true) (hfit:Nat.blt off xs.length=true)
 (k:WL P n w0 ops rest Q s (.box g T (xs.set off v)::R)):WL P n w0 ops (⟨none,.store t a x,ty,p,af,none⟩::rest) Q s H:=by
 have hf:off<xs.length:=by simpa using hfit
 refine xB (m:=1) ha hx hsel (vs:= [v]) (by cases v<;>first|rfl|cases hv) rfl (by simpa using hv) (by omega) ?_;rw [pV _ _ _ hf];exact k
theorem lL {ops:Array Oper} {t T g off m sz n' c:Nat} {x a:Operand} {xs vs:List Value} {v:Value} {R:List Blk} [Size P t m] (ha:ev s a=some (.pointer (some ⟨g,off,none⟩))) (hx:ev s x=some v)
 (hsel:Sel (.own (some g) T sz n' c xs) H R) (hv:v.cells=vs.toArray) (hl:vs.length=m) (h1: ∀ u∈vs,u.oneCell' =true) (hfit:off+m≤xs.length)
 (k:WL P n w0 ops rest Q s (.own (some g) T sz n' c (xs.take off++vs++xs.drop (off+m))::R)):WL P n w0 ops (⟨none,.store t a x,ty,p,af,none⟩::rest) Q s H:=by
 refine tj (fun a' w hs hm=> ?_) k;have hm' :=hm.sel hsel;obtain ⟨h2,h3,h4,junk,h5,hb⟩:=(hm'.on _ Vr).1;have hr:=ib (P:=P) (t:=t) (off:=off) hv hl h1 hb (by simp;omega);simp only at hr;have he:(xs++junk).take off++vs++(xs++junk).drop (off+m)=(xs.take off++vs++xs.drop (off+m))++junk:=by
  rw [Xu (by omega),YG hfit];simp
 rw [he] at hr;have hlen:(xs.take off++vs++xs.drop (off+m)).length=xs.length:=by simp;omega
 refine ⟨_,?_,hm'.upd (fQ _ _ _) (b' := .own (some g) T sz n' c (xs.take off++vs++xs.drop (off+m)))
  ⟨hlen.trans h2,h3,h4,junk,by rw [Vn,hlen,← Vn];exact h5,setRow_heap _ _ _ _ _ _ hb⟩ fun k hk=> .inl hk⟩
 simp [execOp,hs.eval a _ ha,hs.eval x _ hx,Instr.storeAt,Instr.sureAddr,hr]
theorem aW {ops:Array Oper} {t T g off sz n' c:Nat} {x a:Operand} {xs:List Value} {v:Value} {R:List Blk} [Size P t 1] (ha:ev s a=some (.pointer (some ⟨g,off,none⟩))) (hx:ev s x=some v)
 (hsel:Sel (.own (some g) T sz n' c xs) H R) (hv:v.oneCell' =true) (hfit:off<xs.length)
 (k:WL P n w0 ops rest Q s (.own (some g) T sz n' c (xs.set off v)::R)):WL P n w0 ops (⟨none,.store t a x,ty,p,af,none⟩::rest) Q s H:=by
 refine lL (m:=1) ha hx hsel (vs:= [v]) (by cases v<;>first|rfl|cases hv) rfl (by simpa using hv) (by omega) ?_;rw [pV _ _ _ hfit];exact k
theorem pJ {op:Op} {d:Nat} {ops:Array Oper} (hn:Nat.blt d n.sz=true) {B:Nat→Blk} {v:Nat→Value}
 (h: ∀ a w,St n s a→Mem w0 w H→ ∃ w',(execOp a.eval ⟨some d,op,ty,p,af,none⟩).run P w= .ok (.value (v w.heap.size)) w' ∧w.grownBy w' none∧(B w.heap.size).on w' ∧(B w.heap.size).key=some w.heap.size)
 (k: ∀ g,WL P n w0 ops rest Q ((d,v g)::s) (B g::H)):WL P n w0 ops (⟨some d,op,ty,p,af,none⟩::rest) Q s H:=by
 intro a w hs hm;obtain ⟨w',hr,hg,hb,hk⟩:=h a w hs hm;refine wpList_plain rfl fun K hK=> ?_;simp only [Oper.wp,hr,Oper.upon];refine hK _ _ (k w.heap.size _ _ (hs.put (Wi ▸ hn) _) (hm.new hg hb fun k hk' => ?_));rw [hk] at hk';injection hk' with hk';omega
class ZeroC (P:Program) (t:TypeId) (zs:outParam (List Value)):Prop where
 out: ∃ i z,P.info? t=some i∧i.zero=some z∧z.cells=zs.toArray
theorem EL {d t:Nat} {zs:List Value} {ops:Array Oper} [hz:ZeroC P t zs] (hn:Nat.blt d n.sz=true)
 (k: ∀ g,WL P n w0 ops rest Q ((d,.pointer (some ⟨g,0,none⟩))::s) (.box g t zs::H)):WL P n w0 ops (⟨some d,.alloc t,ty,p,af,none⟩::rest) Q s H:=by
 refine pJ (B:=fun g=> .box g t zs) (v:=fun g=> .pointer (some ⟨g,0,none⟩)) hn (fun a w hs hm=> ?_) k;obtain ⟨i,z,h1,h2,h3⟩:=hz.out;refine ⟨w.alloc (.cells z.cells t),?_,World.grownBy_alloc w _ none,?_,rfl⟩
 ·simp [execOp,Instr.alloc,zeroValue,typeInfo,h1,h2,newVar,newRow]
 ·simp only [Blk.on,← h3];exact heap_alloc_new w _
theorem NE {d t:Nat} {x:Operand} {v:Value} {vs:List Value} {ops:Array Oper} (hn:Nat.blt d n.sz=true) (hx:ev s x=some v) (hv:v.cells=vs.toArray)
 (k: ∀ g,WL P n w0 ops rest Q ((d,.pointer (some ⟨g,0,none⟩))::s) (.box g t vs::H)):WL P n w0 ops (⟨some d,.box t x,ty,p,af,none⟩::rest) Q s H:=by
 refine pJ (B:=fun g=> .box g t vs) (v:=fun g=> .pointer (some ⟨g,0,none⟩)) hn (fun a w hs hm=> ?_) k;refine ⟨w.alloc (.cells v.cells t),?_,World.grownBy_alloc w _ none,?_,rfl⟩
 ·simp [execOp,hs.eval x _ hx,Instr.box,newVar,newRow]
 ·simp only [Blk.on,← hv];exact heap_alloc_new w _
theorem Qw {d t:Nat} {x:Operand} {vs:List Value} {ops:Array Oper} (hn:Nat.blt d n.sz=true) (hx:ev s x=some (.agg vs.toArray))
 (k: ∀ g,WL P n w0 ops rest Q ((d,.pointer (some ⟨g,0,none⟩))::s) (.box g t vs::H)):WL P n w0 ops (⟨some d,.box t x,ty,p,af,none⟩::rest) Q s H:=
 NE hn hx rfl k
theorem Qx {d t:Nat} {x:Operand} {v:Value} {ops:Array Oper} (hn:Nat.blt d n.sz=true) (hx:ev s x=some v) (hv:v.oneCell' =true)
 (k: ∀ g,WL P n w0 ops rest Q ((d,.pointer (some ⟨g,0,none⟩))::s) (.box g t [v]::H)):WL P n w0 ops (⟨some d,.box t x,ty,p,af,none⟩::rest) Q s H:=
 NE hn hx (by cases v<;>first|rfl|cases hv) k
theorem Blk.own_of {w:World} {g e sz m c:Nat} {xs:List Value} (hg:w.heap[g]? =some (.cells xs.toArray e (0,0))) (hl:xs.length=m*sz) (hc:m=c) (hm:c≤maxLen):(Blk.own (some g) e sz m c xs).on w:=by
 subst hc;exact ⟨hl,VA _,hm,[],by simpa using hl,by simpa using hg⟩
def wU:List Value→Option (List Value)
 | []=>some []
 |x::r=>match wU r with
  |some r' =>some (x::r')
  |none=>none
theorem j9: ∀ {xs ys:List Value},wU xs=some ys→ys=xs
 | [],ys,h=>by simp only [wU,Option.some.injEq] at h;exact h.symm
 |x::r,ys,h=>by
  simp only [wU] at h;split at h
  ·rename_i r' hr;simp only [Option.some.injEq] at h;rw [← h,j9 hr]
  ·cases h
def evd (s:aC):List (Nat × Operand)→Nat→Option (List Value)
 | [],_=>some []
 |(i,x)::r,k=>bif Nat.beq i k then (match ev s x,evd s r (k+1) with|some v,some vs=>some (v::vs)|_,_=>none) else none
theorem xm {a:Act} (hs:St n s a): ∀ {ps:List (Nat × Operand)} {vs:List Value} {k:Nat},evd s ps k=some vs→(ps.map fun (x:Nat × Operand)=>(x.1,a.eval x.2))=(vs.zipIdx k).map fun x=>(x.2,x.1)
 | [],vs,k,h=>by simp only [evd,Option.some.injEq] at h;simp [← h]
 |(i,x)::r,vs,k,h=>by
  simp only [evd] at h
  cases hb:Nat.beq i k with
  |false=>rw [hb] at h;cases h
  |true=>
   have hik:=Wg hb;rw [hb] at h;simp only [cond_true] at h;split at h
   ·rename_i v vs' hv hvs;simp only [Option.some.injEq] at h;rw [← h,VU,xm hs hvs,YE,VU,hs.eval x v hv,hik]
   ·cases h
def flat (vs:List Value):List Value:=vs.flatMap fun v=>v.cells.toList
def BB (sz:Nat):List Value→Bool
 | []=>true
 |v::r=>Nat.beq v.cells.size sz && BB sz r
theorem qJ {sz:Nat}: ∀ {vs:List Value},BB sz vs=true→ ∀ v∈vs,v.cells.size=sz
 | [],_,v,hv=>by cases hv
 |u::r,h,v,hv=>by
  simp only [BB,VP] at h;rcases VN.1 hv with rfl|hv
  ·exact Wg h.1
  ·exact qJ h.2 v hv
theorem wG {sz:Nat}: ∀ {vs:List Value},(∀ v∈vs,v.cells.size=sz)→(flat vs).length=vs.length*sz
 | [],_=>by simp [flat]
 |v::r,h=>by
  have ih:=wG (vs:=r) (fun u hu=>h u (Vv _ hu));have hv:=h v Vr;simp only [flat,VE,Vn,YL,Vw,Xm,XX] at ih ⊢;omega
theorem Ae {d t e m sz by_:Nat} {ps:List (Nat × Operand)} {vs xs:List Value} {ops:Array Oper} [ht:Und P t (.slice e)] [he:Elem P e sz by_] (hn:Nat.blt d n.sz=true) (hps:evd s ps 0=some vs)
 (hl:vs.length=m) (hsz:BB sz vs=true) (hx:wU (flat vs)=some xs) (hm0:Nat.blt 0 m=true) (hsm:Nat.ble (m*sz) 16777216=true)
 (k: ∀ g,WL P n w0 ops rest Q ((d,.slice (some ⟨g,0,none⟩) m m)::s) (.own (some g) e sz m m xs::H)):WL P n w0 ops (⟨some d,.buildSlice t m ps.toArray,ty,p,af,none⟩::rest) Q s H:=by
 refine pJ (B:=fun g=> .own (some g) e sz m m xs) (v:=fun g=> .slice (some ⟨g,0,none⟩) m m) hn (fun a w hs hm=> ?_) k;obtain ⟨i,z,h1,h2,h3,h4,h5,h6⟩:=he.out;have hm1:0<m:=by simpa using hm0
 have hsm1:m*sz≤16777216:=by simpa using hsm
 have hall:=qJ hsz;have hlen:xs.length=m*sz:=by rw [j9 hx,wG hall,hl]
 have hfill:=Great.fill_whole h6 vs ((Array.range (m*i.size)).map (z.cells[· % z.cells.size]!)) hall (by simp [hl,h2]);rw [← xm hs hps] at hfill;have hr:=run_buildSlice (P:=P) w t e m (ps.map fun x=>(x.1,a.eval x.2)).toArray _ i z ht.out h1 h4 (by rw [h2];omega) (by rw [h2];exact Nat.ne_of_gt (Nat.mul_pos hm1 h6)) (by rw [h2] at hfill ⊢;exact hfill);refine ⟨_,?_,World.grownBy_alloc w _ none,Blk.own_of (e:=e) (xs:=xs) (by rw [j9 hx];exact heap_alloc_new w _) hlen rfl ?_,rfl⟩
 ·simp only [execOp,Xv];simp only [Sem.run_bind,hr,Result.andThen_ok,Sem.run_pure,flat]
 ·have:m≤m*sz:=Nat.le_mul_of_pos_right m h6;simp only [maxLen];omega
theorem dB {d t e n' c m c' g2 o2 sz by_:Nat} {A:Option Nat} {x y:Operand} {xs news:List Value} {R:List Blk} {ops:Array Oper} [ht:Und P t (.slice e)] [he:Elem P e sz by_] (hn:Nat.blt d n.sz=true)
 (hx:ev s x=some (sl A n' c)) (hy:ev s y=some (.slice (some ⟨g2,o2,none⟩) m c')) (hsel:Sel (.own A e sz n' c xs) H R)
 (hnews: ∀ w,Mem w0 w H→Cells w g2 o2 news) (hl:news.length=m*sz) (h1: ∀ u∈news,u.oneCell' =true) (hby:(n' +m)*by_≤140737488355328) (h63:n' +m≤maxLen)
 (k: ∀ A' cap',(0<n' +m→ ∃ g,A' =some g)→WL P n w0 ops rest Q ((d,sl A' (n' +m) cap')::s) (.own A' e sz (n' +m) cap' (xs++news)::R)):
 WL P n w0 ops (⟨some d,.call { callee:= .builtin .append,args:= #[x,y],argTypes:= #[t,t] },ty,p,af,none⟩::rest) Q s H:=by
 intro a w hs hm;have hm' :=hm.sel hsel;obtain ⟨i,z,i1,i2,i3,i4,i5,i6⟩:=he.out;have hb:=(hm'.on _ Vr);have hown:w.ownsRow w0.heap.size e sz (sl A n' c) n' xs:=by
  obtain ⟨⟨b1,b2,b3,b4⟩,b5⟩:=hb;refine ⟨b1,?_⟩
  cases A with
  |none=>obtain ⟨rfl,rfl⟩:=b4;exact .inl ⟨rfl,rfl⟩
  |some g=>
   obtain ⟨junk,j1,j2⟩:=b4;refine .inr ⟨g,c,_,rfl,b5 g rfl,j2,b2,b3,by simpa using j1,?_⟩;simp only [Ym];rw [← b1,XZ]
 obtain ⟨v',w',hr,h2,h3,h4,h5⟩:=run_append_own_at (P:=P) w w0.heap.size t ty e i z sz by_ ht.out i1 i4 i2 i3 i5 i6 (sl A n' c) n' xs hown ⟨g2,o2,none⟩ m c' news hl
  (fun j u hu=>by rw [dR];exact hnews w hm j u hu) h1 h63 hby hm.below.size
 have hsh: ∃ A' cap',v' =sl A' (n' +m) cap' ∧(Blk.own A' e sz (n' +m) cap' (xs++news)).on w' ∧(0<n' +m→ ∃ g,A' =some g):=by
  obtain ⟨q1,q2⟩:=h2;rcases q2 with ⟨rfl,q3⟩|⟨g,cap,cur,rfl,_,q4,q5,q6,q7,q8⟩
  ·refine ⟨none,0,by rw [q3];rfl,⟨q1,by omega,Vt _,q3,rfl⟩,fun h=>by omega⟩
  ·refine ⟨some g,cap,rfl,⟨q1,q5,q6,cur.toList.drop ((n' +m)*sz),?_,?_⟩,fun _=>⟨g,rfl⟩⟩
   ·rw [← q8,Wh];simpa using q7
   ·rw [← q8,Wh];simpa using q4
 obtain ⟨A',cap',rfl,hon,hsome⟩:=hsh;refine wpList_plain rfl fun K hK=> ?_;unfold Oper.wp execOp;simp only [resolve,invoke,builtin,Sem.run_bind,Sem.run_pure,Result.andThen_ok,Xv,VU,Wv,hs.eval x _ hx,hs.eval y _ hy,hr,Oper.upon];have hkey: ∀ (B:Option Nat) (q r:Nat),(sl B q r).ownBlock=B:=fun B q r=>by cases B<;>rfl
 rw [hkey] at h3;refine hK _ _ (k A' cap' hsome _ _ (hs.put (Wi ▸ hn) _) (hm'.upd h3 hon fun j hj=> ?_));rw [hkey,hkey] at h5;simp only [Blk.key] at hj ⊢;rcases h5 with h5|h5
 ·left;rw [← h5];exact hj
 ·right;rw [h5] at hj;injection hj with hj;omega
theorem aI {c:Code} (e sz:Nat) (k:W P n w0 c Q s (.own none e sz 0 0 []::H)):W P n w0 c Q s H:=fun a w hs hm=>
 k a w hs (hm.new (b:= .own none e sz 0 0 []) ⟨rfl,rfl,rfl,VA _,fun _ _ _=>rfl⟩ ⟨by simp,VA _,Vt _,rfl,rfl⟩ (fun k hk=>by cases hk))
theorem CT {ops:Array Oper} {H' :List Blk} (hH:MSub H' H) (h:WL P n w0 ops rest Q s H'):WL P n w0 ops rest Q s H:=
 fun a w hst hm=>h a w hst (hH.use hm)
theorem Nw {d t e lo hi m c sz:Nat} {A:Option Addr} {x:Operand} {xl xh:Option Operand} {ops:Array Oper} [ht:Und P t (.slice e)] [hz:Size P e sz] (hn:Nat.blt d n.sz=true) (hx:ev s x=some (.slice A m c))
 (hxl:match xl with|none=>lo=0|some q=> ∃ k,ev s q=some (.int k (lo:Nat))) (hxh:match xh with|none=>hi=m|some q=> ∃ k,ev s q=some (.int k (hi:Nat))) (h1:lo≤hi) (h2:hi≤c)
 (k: ∀ B,(B=if c=lo then A else A.map (·.add (lo*sz)))→WL P n w0 ops rest Q ((d,.slice B (hi - lo) (c - lo))::s) H):WL P n w0 ops (⟨some d,.slice t x xl xh none,ty,p,af,none⟩::rest) Q s H:=by
 refine w7 rfl d rfl hn (fun a w hs hm=> ?_) (k _ rfl);obtain ⟨i,hi1,hi2⟩:=hz.out;have e1:((lo:Nat):Int)≤((hi:Nat):Int):=by omega
 have e2:((hi:Nat):Int)≤((c:Nat):Int):=by omega
 have e3:((0:Nat):Int)≤((hi:Nat):Int):=by omega
 cases xl with
 |none=>
  cases xh with
  |none=>
   simp only at hxl hxh;subst hxl hxh;simp [execOp,hs.eval x _ hx,Instr.sliceAt,run_underlying ht.out,Instr.slice,Instr.sliceBounds,sizeOf,typeInfo,hi1]
  |some q=>
   simp only at hxl hxh;subst hxl;obtain ⟨kk,hq⟩:=hxh;simp [execOp,hs.eval x _ hx,hs.eval q _ hq,Instr.sliceAt,run_underlying ht.out,Instr.slice,Instr.sliceBounds,Instr.sliceBound,asIntOf,sizeOf,typeInfo,hi1,h2]
 |some ql=>
  obtain ⟨kl,hql⟩:=hxl
  cases xh with
  |none=>
   simp only at hxh;subst hxh;simp [execOp,hs.eval x _ hx,hs.eval ql _ hql,Instr.sliceAt,run_underlying ht.out,Instr.slice,Instr.sliceBounds,Instr.sliceBound,asIntOf,sizeOf,typeInfo,hi1,hi2,h1]
  |some q=>
   obtain ⟨kk,hq⟩:=hxh;simp [execOp,hs.eval x _ hx,hs.eval q _ hq,hs.eval ql _ hql,Instr.sliceAt,run_underlying ht.out,Instr.slice,Instr.sliceBounds,Instr.sliceBound,asIntOf,sizeOf,typeInfo,hi1,hi2,h1,h2]
end
end Go.SL
