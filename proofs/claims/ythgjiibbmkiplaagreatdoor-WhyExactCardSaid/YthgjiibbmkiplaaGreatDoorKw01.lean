/-
  Lemmas and walks, put together: Sl1 Ce Sl28 Ca Cb Sl2 Sl19 Md Lx Md2 Lx2 Sl3 Sl27 Tr Tr2.
-/
import Derived.Deep.LoopGhost
import Derived.Deep.Quiet
import Derived.Laws.OwnMore
import Derived.Maps.AppendAt
import Derived.WalkKit
import Derived.Great.BuildSlice
import Derived.WalkSpells
import Derived.Laws.IdiomRangeMap
import Derived.Laws.Pointers
import Derived.Laws.Slices
import Derived.LoopN
import Derived.OrdersIn
import Derived.RangeFuncOwn
import Derived.RangeFuncRecord
import Derived.RangeFuncSeq
import Derived.Recover
import Derived.Scope
import Derived.Test.YthgjiibbmkiplaaGreatDoorChecked
set_option linter.unusedSimpArgs false
set_option linter.unusedVariables false
set_option maxRecDepth 20000
namespace Go.SL
theorem Xa:type_of% @List.length_append:=@List.length_append
theorem Xb:type_of% @List.mem_cons_self:=@List.mem_cons_self
theorem Xc:type_of% @List.cons_append:=@List.cons_append
theorem Xd:type_of% @List.nil_append:=@List.nil_append
theorem Xe:type_of% @List.length_singleton:=@List.length_singleton
theorem Xf:type_of% @List.getElem?_eq_getElem:=@List.getElem?_eq_getElem
theorem Xk:type_of% @List.take_succ_eq_append_getElem:=@List.take_succ_eq_append_getElem
theorem Xl:type_of% @List.mem_singleton:=@List.mem_singleton
theorem Xm:type_of% @List.append_nil:=@List.append_nil
theorem Xn:type_of% @Nat.zero_le:=@Nat.zero_le
theorem Xo:type_of% @Bool.and_eq_true:=@Bool.and_eq_true
theorem Xp:type_of% @List.mem_cons_of_mem:=@List.mem_cons_of_mem
theorem Xq:type_of% @List.length_map:=@List.length_map
theorem Xr:type_of% @List.mem_append:=@List.mem_append
theorem Xs:type_of% @List.length_cons:=@List.length_cons
theorem Xt:type_of% @List.mem_cons:=@List.mem_cons
theorem Xu:type_of% @List.mem_map:=@List.mem_map
theorem Xv:type_of% @Nat.zero_add:=@Nat.zero_add
theorem Xw:type_of% @List.mem_append_left:=@List.mem_append_left
theorem Xx:type_of% @List.flatMap_cons:=@List.flatMap_cons
theorem Xy:type_of% @Nat.le_refl:=@Nat.le_refl
theorem Xz:type_of% @List.flatMap_append:=@List.flatMap_append
theorem XA:type_of% @List.length_take:=@List.length_take
theorem XB:type_of% @List.mem_append_right:=@List.mem_append_right
theorem XC:type_of% @List.drop_eq_getElem_cons:=@List.drop_eq_getElem_cons
theorem XD:type_of% @List.map_cons:=@List.map_cons
theorem XE:type_of% @List.append_assoc:=@List.append_assoc
theorem XF:type_of% @List.take_length:=@List.take_length
theorem XG:type_of% @List.pairwise_cons:=@List.pairwise_cons
theorem XH:type_of% @List.append_eq:=@List.append_eq
theorem XI:type_of% @List.map_append:=@List.map_append
theorem XJ:type_of% @List.getElem?_eq_some_iff:=@List.getElem?_eq_some_iff
theorem XK:type_of% @Array.getElem?_eq_some_iff:=@Array.getElem?_eq_some_iff
theorem XL:type_of% @List.mem_flatMap:=@List.mem_flatMap
theorem XM:type_of% @List.mem_filter:=@List.mem_filter
theorem XN:type_of% @List.getElem?_map:=@List.getElem?_map
theorem XO:type_of% @List.getElem_mem:=@List.getElem_mem
theorem XP:type_of% @List.flatMap_nil:=@List.flatMap_nil
theorem XQ:type_of% @List.any_eq_true:=@List.any_eq_true
theorem XR:type_of% @List.map_nil:=@List.map_nil
theorem XS:type_of% @List.length_filter_le:=@List.length_filter_le
theorem XT:type_of% @Bool.true_and:=@Bool.true_and
theorem XU:type_of% @Nat.le_trans:=@Nat.le_trans
theorem XV:type_of% @List.mapM_cons:=@List.mapM_cons
theorem XW:type_of% @List.getElem?_append_left:=@List.getElem?_append_left
theorem XX:type_of% @Bool.false_and:=@Bool.false_and
theorem XY:type_of% @Bool.eq_iff_iff:=@Bool.eq_iff_iff
theorem XZ:type_of% @Array.getD_eq_getD_getElem?:=@Array.getD_eq_getD_getElem?
theorem X0:type_of% @List.drop_length:=@List.drop_length
theorem X3:type_of% @Bool.false_eq_true:=@Bool.false_eq_true
theorem X4:type_of% @List.getElem?_toArray:=@List.getElem?_toArray
theorem X5:type_of% @List.mapM_nil:=@List.mapM_nil
theorem X6:type_of% @List.perm_append_comm:=@List.perm_append_comm
theorem X7:type_of% @Nat.eq_of_beq_eq_true:=@Nat.eq_of_beq_eq_true
theorem X8:type_of% @Bool.and_true:=@Bool.and_true
theorem X9:type_of% @Array.size_push:=@Array.size_push
theorem Ya:type_of% @List.length_drop:=@List.length_drop
theorem Yd:type_of% @List.getElem?_append_right:=@List.getElem?_append_right
theorem Ye:type_of% @Bool.and_false:=@Bool.and_false
theorem Yf:type_of% @List.drop_of_length_le:=@List.drop_of_length_le
theorem Yg:type_of% @Nat.blt_eq:=@Nat.blt_eq
theorem Yh:type_of% @List.pairwise_append:=@List.pairwise_append
theorem Yr:type_of% @List.length_pos_iff:=@List.length_pos_iff
theorem Ys:type_of% @Option.map_some:=@Option.map_some
theorem Yt:type_of% @List.all_eq_true:=@List.all_eq_true
theorem Yu:type_of% @List.length_nil:=@List.length_nil
theorem Yv:type_of% @List.pairwise_singleton:=@List.pairwise_singleton
theorem Yw:type_of% @List.ext_getElem?:=@List.ext_getElem?
theorem Yx:type_of% @List.getElem?_eq_none:=@List.getElem?_eq_none
theorem Yy:type_of% @Array.getElem?_append_left:=@Array.getElem?_append_left
theorem Yz:type_of% @Array.getElem?_push:=@Array.getElem?_push
theorem YA:type_of% @List.filter_cons:=@List.filter_cons
theorem YB:type_of% @List.length_eq_zero_iff:=@List.length_eq_zero_iff
theorem YC:type_of% @Nat.sub_zero:=@Nat.sub_zero
theorem YD:type_of% @List.take_append_drop:=@List.take_append_drop
theorem YE:type_of% @List.take_of_length_le:=@List.take_of_length_le
theorem YF:type_of% @List.take_zero:=@List.take_zero
theorem YG:type_of% @List.foldl_append:=@List.foldl_append
theorem YH:type_of% @List.getLast?_eq_some_getLast:=@List.getLast?_eq_some_getLast
theorem YI:type_of% @List.findIdx?_eq_some_iff_getElem:=@List.findIdx?_eq_some_iff_getElem
theorem YJ:type_of% @List.dropLast_concat_getLast:=@List.dropLast_concat_getLast
theorem YK:type_of% @List.nodup_append:=@List.nodup_append
theorem YL:type_of% @List.map_map:=@List.map_map
theorem YM:type_of% @List.eq_nil_iff_forall_not_mem:=@List.eq_nil_iff_forall_not_mem
theorem YN:type_of% @List.getElem_of_mem:=@List.getElem_of_mem
theorem YO:type_of% @Nat.min_eq_left:=@Nat.min_eq_left
theorem YP:type_of% @List.take_append_of_le_length:=@List.take_append_of_le_length
theorem YQ:type_of% @List.not_mem_nil:=@List.not_mem_nil
theorem YR:type_of% @List.size_toArray:=@List.size_toArray
theorem YS:type_of% @Option.map_eq_some_iff:=@Option.map_eq_some_iff
theorem YT:type_of% @Nat.mul_one:=@Nat.mul_one
theorem YU:type_of% @List.map_congr_left:=@List.map_congr_left
theorem YV:type_of% @List.foldl_cons:=@List.foldl_cons
theorem YW:type_of% @List.mem_of_getElem?:=@List.mem_of_getElem?
theorem YX:type_of% @List.filter_append:=@List.filter_append
theorem YY:type_of% @Nat.not_lt_zero:=@Nat.not_lt_zero
theorem YZ:type_of% @List.findIdx?_eq_none_iff:=@List.findIdx?_eq_none_iff
theorem Y0:type_of% @List.map_toArray:=@List.map_toArray
theorem Y1:type_of% @Nat.lt_or_ge:=@Nat.lt_or_ge
theorem Y2:type_of% @Nat.le_of_ble_eq_true:=@Nat.le_of_ble_eq_true
theorem Y3:type_of% @List.any_eq_false:=@List.any_eq_false
theorem Y4:type_of% @Bool.not_eq_true':=@Bool.not_eq_true'
theorem Y5:type_of% @Array.getElem?_modify:=@Array.getElem?_modify
theorem Y6:type_of% @Nat.eq_zero_or_pos:=@Nat.eq_zero_or_pos
theorem Y7:type_of% @Nat.add_mul:=@Nat.add_mul
theorem Y8:type_of% @Nat.add_assoc:=@Nat.add_assoc
theorem Y9:type_of% @List.nodup_cons:=@List.nodup_cons
theorem Zb:type_of% @Int.le_refl:=@Int.le_refl
theorem Zc:type_of% @Nat.mul_le_mul_right:=@Nat.mul_le_mul_right
theorem Zd:type_of% @List.mem_of_mem_take:=@List.mem_of_mem_take
theorem Ze:type_of% @Option.getD_some:=@Option.getD_some
theorem Zf:type_of% @List.getD_eq_getElem?_getD:=@List.getD_eq_getElem?_getD
theorem Zg:type_of% @List.mergeSort_perm:=@List.mergeSort_perm
theorem Zh:type_of% @Int.toNat_natCast:=@Int.toNat_natCast
theorem Zi:type_of% @Array.size_modify:=@Array.size_modify
theorem Zj:type_of% @Array.getElem?_setIfInBounds_ne:=@Array.getElem?_setIfInBounds_ne
theorem Zk:type_of% @List.mem_of_find?_eq_some:=@List.mem_of_find?_eq_some
theorem Zl:type_of% @List.drop_zero:=@List.drop_zero
theorem Zm:type_of% @List.mem_iff_getElem?:=@List.mem_iff_getElem?
theorem Zn:type_of% @Bool.or_eq_true:=@Bool.or_eq_true
theorem Zo:type_of% @List.getElem?_drop:=@List.getElem?_drop
theorem Zp:type_of% @List.getLast?_append:=@List.getLast?_append
theorem Zq:type_of% @Option.map_map:=@Option.map_map
theorem Zr:type_of% @Array.getElem?_eq_none:=@Array.getElem?_eq_none
theorem Zt:type_of% @Nat.zero_mul:=@Nat.zero_mul
theorem Zu:type_of% @Nat.add_comm:=@Nat.add_comm
theorem Zv:type_of% @List.all_cons:=@List.all_cons
theorem Zw:type_of% @List.getLast?_eq_none_iff:=@List.getLast?_eq_none_iff
theorem Zx:type_of% @List.getLast?_eq_getElem?:=@List.getLast?_eq_getElem?
theorem Zy:type_of% @List.drop_drop:=@List.drop_drop
theorem Zz:type_of% @List.mapM_toArray:=@List.mapM_toArray
theorem ZA:type_of% @Array.getElem?_replicate:=@Array.getElem?_replicate
theorem ZB:type_of% @List.toList_toArray:=@List.toList_toArray
theorem ZC:type_of% @List.eq_nil_of_length_eq_zero:=@List.eq_nil_of_length_eq_zero
theorem ZD:type_of% @List.drop_append_of_le_length:=@List.drop_append_of_le_length
theorem ZE:type_of% @Bool.not_eq_true:=@Bool.not_eq_true
theorem ZF:type_of% @Nat.add_sub_cancel:=@Nat.add_sub_cancel
theorem ZG:type_of% @List.set_append_right:=@List.set_append_right
theorem ZH:type_of% @Bool.and_eq_false_iff:=@Bool.and_eq_false_iff
theorem ZI:type_of% @Array.mem_of_getElem?:=@Array.mem_of_getElem?
theorem ZJ:type_of% @List.length_range:=@List.length_range
theorem ZK:type_of% @List.getElem?_modify:=@List.getElem?_modify
theorem ZL:type_of% @List.take_left:=@List.take_left
theorem ZM:type_of% @List.nodup_nil:=@List.nodup_nil
theorem ZN:type_of% @List.mem_range:=@List.mem_range
theorem ZO:type_of% @List.perm_middle:=@List.perm_middle
theorem ZP:type_of% @Nat.add_zero:=@Nat.add_zero
theorem ZQ:type_of% @List.getElem_append_left:=@List.getElem_append_left
theorem ZR:type_of% @Array.setIfInBounds_comm:=@Array.setIfInBounds_comm
theorem ZS:type_of% @List.find?_eq_none:=@List.find?_eq_none
theorem ZT:type_of% @List.flatMap_singleton:=@List.flatMap_singleton
theorem ZU:type_of% @List.drop_eq_nil_of_le:=@List.drop_eq_nil_of_le
theorem ZV:type_of% @List.pairwise_map:=@List.pairwise_map
theorem ZW:type_of% @List.length_replicate:=@List.length_replicate
theorem ZX:type_of% @BitVec.eq_of_toNat_eq:=@BitVec.eq_of_toNat_eq
theorem ZY:type_of% @List.zipIdx_cons:=@List.zipIdx_cons
theorem ZZ:type_of% @List.getElem_map:=@List.getElem_map
theorem Z0:type_of% @List.mem_of_mem_drop:=@List.mem_of_mem_drop
theorem Z1:type_of% @List.mem_iff_getElem:=@List.mem_iff_getElem
theorem Z2:type_of% @List.getElem?_mapIdx:=@List.getElem?_mapIdx
theorem Z3:type_of% @Bool.not_true:=@Bool.not_true
theorem Z4:type_of% @Bool.false_or:=@Bool.false_or
theorem Z5:type_of% @Nat.one_mul:=@Nat.one_mul
theorem Z6:type_of% @List.length_set:=@List.length_set
theorem Z7:type_of% @List.getElem?_range:=@List.getElem?_range
theorem Z8:type_of% @List.find?_some:=@List.find?_some
theorem Z9:type_of% @List.find?_cons:=@List.find?_cons
theorem aaa:type_of% @List.drop_succ_cons:=@List.drop_succ_cons
theorem aab:type_of% @Nat.sub_add_cancel:=@Nat.sub_add_cancel
theorem aac:type_of% @List.all_nil:=@List.all_nil
theorem aad:type_of% @BitVec.getLsbD_and:=@BitVec.getLsbD_and
theorem aae:type_of% @Array.ext_getElem?:=@Array.ext_getElem?
theorem aaf:type_of% @List.pairwise_iff_getElem:=@List.pairwise_iff_getElem
theorem aag:type_of% @Bool.not_false:=@Bool.not_false
theorem aah:type_of% @Array.size_append:=@Array.size_append
theorem aai:type_of% @List.pairwise_mergeSort:=@List.pairwise_mergeSort
theorem aaj:type_of% @List.getElem?_cons_zero:=@List.getElem?_cons_zero
theorem aak:type_of% @BitVec.eq_of_getLsbD_eq:=@BitVec.eq_of_getLsbD_eq
theorem aal:type_of% @Nat.lt_succ_self:=@Nat.lt_succ_self
theorem aam:type_of% @Int.natCast_mul:=@Int.natCast_mul
theorem aan:type_of% @Bool.true_or:=@Bool.true_or
theorem aao:type_of% @Array.getElem?_mapIdx:=@Array.getElem?_mapIdx
open Go Go.RowKit
inductive Blk where
 |box (g:Nat) (ty:TypeId) (xs:List Value)
 |own (A:Option Nat) (ty:TypeId) (size n cap:Nat) (xs:List Value)
 |obj (g:Nat) (o:Obj)
 |byt (g:Nat) (ty:TypeId) (n cap:Nat) (xs:List Value)
def Blk.key:Blk→Option Nat
 | .box g _ _=>some g
 | .own A _ _ _ _ _=>A
 | .obj g _=>some g
 | .byt g _ _ _ _=>some g
def sl (A:Option Nat) (n cap:Nat):Value:= .slice (A.map fun g=>⟨g,0,none⟩) n cap
def Blk.on (w:World):Blk→Prop
 | .box g ty xs=>w.heap[g]? =some (.cells xs.toArray ty (0,0))
 | .own A ty size n cap xs=>xs.length=n*size∧n≤cap∧cap≤maxLen∧
   match A with
   |none=>n=0∧cap=0
   |some g=> ∃ junk:List Value,(xs++junk).length=cap*size∧w.heap[g]? =some (.cells (xs++junk).toArray ty (0,0))
 | .obj g o=>w.heap[g]? =some o
 | .byt g ty n cap xs=>xs.length=n∧n≤cap∧ ∃ junk:List Value,(xs++junk).length=cap∧w.heap[g]? =some (.cells (xs++junk).toArray ty (cap,cap+1))
def Apart (a b:Blk):Prop:= ∀ k,a.key=some k→b.key≠some k
structure Mem (w0 w:World) (H:List Blk):Prop where
 below:Below w0.heap.size w0 w
 on: ∀ b∈H,b.on w∧ ∀ k,b.key=some k→w0.heap.size≤k
 apart:H.Pairwise Apart
theorem Apart.symm {a b:Blk} (h:Apart a b):Apart b a:=fun k hk hk' =>h k hk' hk
abbrev az:=List (Nat × Value)
def look:az→Nat→Option Value
 | [],_=>none
 |(u,v)::r,t=>bif Nat.beq u t then some v else look r t
def ev (s:az):Operand→Option Value
 | .tmp t=>look s t
 | .const v=>some v
 | .global g=>some (.pointer (some ⟨g,0,none⟩))
 | .func f=>some (.func (.func f) #[] #[])
structure Fr where
 sz:Nat
 ds:List Deferred
structure St (n:Fr) (s:az) (a:Act):Prop where
 size:a.tmps.size=n.sz
 defers:a.defers=n.ds
 has: ∀ t v,look s t=some v→a.tmps[t]? =some v
theorem St.eval {n:Fr} {s:az} {a:Act} (h:St n s a): ∀ x v,ev s x=some v→a.eval x=v:=by
 intro x v hx
 cases x with
 |tmp t=>simp only [ev] at hx;simp [Act.eval,XZ,h.has t v hx]
 |const v=>simp only [ev,Option.some.injEq] at hx;exact hx
 |global g=>simp only [ev,Option.some.injEq] at hx;exact hx
 |func f=>simp only [ev,Option.some.injEq] at hx;exact hx
theorem js (s:az) (d t:Nat) (v:Value):look ((d,v)::s) t=if d=t then some v else look s t:=by
 simp only [look]
 cases hb:Nat.beq d t with
 |true=>have h:=X7 hb;simp [h]
 |false=>have h:=Nat.ne_of_beq_eq_false hb;simp [h]
theorem St.put {n:Fr} {s:az} {a:Act} (h:St n s a) {d:Nat} (hd:d<n.sz) (v:Value):St n ((d,v)::s) (a.put (some d) v):=by
 refine ⟨by simp [Act.put,h.size],h.defers,fun t u hu=> ?_⟩;rw [js] at hu;by_cases e:d=t
 ·subst e;simp only [if_true,Option.some.injEq] at hu;subst hu;simp [Act.put,h.size,hd]
 ·rw [if_neg e] at hu;simp only [Act.put];rw [Zj e];exact h.has t u hu
theorem St.put_none {n:Fr} {s:az} {a:Act} (h:St n s a) (v:Value):St n s (a.put none v):=h
def Sub (s1 s2:az):Prop:= ∀ t v,look s1 t=some v→look s2 t=some v
theorem Sub.nil (s:az):Sub [] s:=fun _ _ h=>by simp [look] at h
theorem Sub.cons {s1 s2:az} {t:Nat} {v:Value} (h:look s2 t=some v) (hs:Sub s1 s2):Sub ((t,v)::s1) s2:=by
 intro u x hx;rw [js] at hx;by_cases e:t=u
 ·subst e;rw [if_pos rfl] at hx;rw [h];exact hx
 ·rw [if_neg e] at hx;exact hs u x hx
theorem St.sub {n:Fr} {s1 s2:az} {a:Act} (h:St n s2 a) (hs:Sub s1 s2):St n s1 a:=⟨h.size,h.defers,fun t v ht=>h.has t v (hs t v ht)⟩
abbrev bK:=Exit→az→List Blk→Prop
def post (n:Fr) (w0:World) (Q:bK):Exit→Act→World→Prop:=fun e a w=> ∃ s H,St n s a∧Mem w0 w H∧Q e s H
def W (P:Program) (n:Fr) (w0:World) (c:Code) (Q:bK) (s:az) (H:List Blk):Prop:=
 ∀ a w,St n s a→Mem w0 w H→c.wp P (post n w0 Q) a w
def WL (P:Program) (n:Fr) (w0:World) (ops:Array Oper) (rest:List Oper) (Q:bK) (s:az) (H:List Blk):Prop:=
 ∀ a w,St n s a→Mem w0 w H→wpList P ops (post n w0 Q) rest a w
def thn (K:az→List Blk→Prop) (Q:bK):bK
 | .normal,s,H=>K s H
 |e,s,H=>Q e s H
def blk (id:Nat) (Q:bK):bK
 | .exit id',s,H=>if id' =id then Q .normal s H else Q (.exit id') s H
 |e,s,H=>Q e s H
section
variable {P:Program} {n:Fr} {w0:World} {Q:bK} {s:az} {H:List Blk}
theorem NA {c:Code} {Q' :bK} (hq: ∀ e s H,Q e s H→Q' e s H) (h:W P n w0 c Q s H):W P n w0 c Q' s H:=
 fun a w hs hm=>wp_mono (h a w hs hm) fun _ _ _ ⟨s,H,h1,h2,h3⟩=>⟨s,H,h1,h2,hq _ _ _ h3⟩
theorem U6 {c:Code} {s' :az} (hs:Sub s' s) (h:W P n w0 c Q s' H):W P n w0 c Q s H:=
 fun a w hst hm=>h a w (hst.sub hs) hm
theorem U7 {x y:Code} (h:W P n w0 x (thn (W P n w0 y Q) Q) s H):W P n w0 (.seq x y) Q s H:=by
 intro a w hs hm;refine wp_seq (wp_mono (h a w hs hm) ?_);rintro e a' w' ⟨s',H',h1,h2,h3⟩
 cases e with
 |normal=>exact h3 a' w' h1 h2
 |_=>exact ⟨s',H',h1,h2,h3⟩
theorem TS (h:Q .normal s H):W P n w0 .skip Q s H:=fun _ _ hs hm=>wp_skip ⟨s,H,hs,hm,h⟩
theorem U9 (h:Q .ret s H):W P n w0 .ret Q s H:=fun _ _ hs hm=>wp_ret ⟨s,H,hs,hm,h⟩
theorem TU {id:Nat} (h:Q (.exit id) s H):W P n w0 (.exit id) Q s H:=fun _ _ hs hm=>wp_exit ⟨s,H,hs,hm,h⟩
theorem QU {id:Nat} {c:Code} (h:W P n w0 c (blk id Q) s H):W P n w0 (.block id c) Q s H:=by
 intro a w hs hm;refine wp_block (wp_mono (h a w hs hm) ?_);rintro e a' w' ⟨s',H',h1,h2,h3⟩
 cases e with
 |exit id' =>
  simp only [Exit.inBlock,blk] at h3 ⊢;split
  ·rename_i hid;rw [if_pos hid] at h3;exact ⟨s',H',h1,h2,h3⟩
  ·rename_i hid;rw [if_neg hid] at h3;exact ⟨s',H',h1,h2,h3⟩
 |_=>exact ⟨s',H',h1,h2,h3⟩
theorem EF {c:Operand} {x y:Code} (hc:ev s c=some (.bool true)) (h:W P n w0 x Q s H):W P n w0 (.cond c x y) Q s H:=
 fun a w hs hm=>wp_cond_true (hs.eval c _ hc) (h a w hs hm)
theorem CD {c:Operand} {x y:Code} (hc:ev s c=some (.bool false)) (h:W P n w0 y Q s H):W P n w0 (.cond c x y) Q s H:=
 fun a w hs hm=>wp_cond_false (hs.eval c _ hc) (h a w hs hm)
theorem TW {c:Operand} {x y:Code} {b:Bool} (hc:ev s c=some (.bool b)) (ht:b=true→W P n w0 x Q s H) (hf:b=false→W P n w0 y Q s H):
 W P n w0 (.cond c x y) Q s H:=
 fun a w hs hm=>wp_cond_split (hs.eval c _ hc) (fun e=>ht e a w hs hm) (fun e=>hf e a w hs hm)
end
inductive In (b:Blk):List Blk→Prop
 |hd {T:List Blk}:In b (b::T)
 |tl {x:Blk} {T:List Blk}:In b T→In b (x::T)
inductive Sel (b:Blk):List Blk→List Blk→Prop
 |hd {T:List Blk}:Sel b (b::T) T
 |tl {x:Blk} {T T' :List Blk}:Sel b T T' →Sel b (x::T) (x::T')
theorem In.mem {b:Blk} {H:List Blk} (h:In b H):b∈H:=by
 induction h with
 |hd=>exact Xb
 |tl _ ih=>exact Xp _ ih
theorem Sel.perm {b:Blk} {H T:List Blk} (h:Sel b H T):H.Perm (b::T):=by
 induction h with
 |hd=>exact .refl _
 |tl _ ih=>exact (ih.cons _).trans (.swap _ _ _)
theorem Mem.perm {w0 w:World} {H H' :List Blk} (h:Mem w0 w H) (hp:H.Perm H'):Mem w0 w H' :=
 ⟨h.below,fun b hb=>h.on b (hp.mem_iff.2 hb),(hp.pairwise_iff (fun {_ _} h=>Apart.symm h)).1 h.apart⟩
theorem Mem.sel {w0 w:World} {H T:List Blk} {b:Blk} (h:Mem w0 w H) (hs:Sel b H T):Mem w0 w (b::T):=h.perm hs.perm
theorem Mem.tail {w0 w:World} {T:List Blk} {b:Blk} (h:Mem w0 w (b::T)):Mem w0 w T:=
 ⟨h.below,fun x hx=>h.on x (Xp _ hx),(XG.1 h.apart).2⟩
theorem Mem.left {w0 w:World} {H T:List Blk} (h:Mem w0 w (H++T)):Mem w0 w H:=
 ⟨h.below,fun x hx=>h.on x (Xw _ hx),(Yh.1 h.apart).1⟩
theorem Mem.right {w0 w:World} {H T:List Blk} (h:Mem w0 w (H++T)):Mem w0 w T:=
 ⟨h.below,fun x hx=>h.on x (XB _ hx),(Yh.1 h.apart).2.1⟩
def MSub (H H' :List Blk):Prop:= ∃ T,H'.Perm (H++T)
theorem MSub.use {H H' :List Blk} (h:MSub H H') {w0 w:World} (hm:Mem w0 w H'):Mem w0 w H:=by
 obtain ⟨T,hp⟩:=h;exact (hm.perm hp).left
theorem MSub.refl (H:List Blk):MSub H H:=⟨[],by simp⟩
theorem MSub.nil (H:List Blk):MSub [] H:=⟨H,by simp⟩
theorem MSub.pick {b:Blk} {H H' T:List Blk} (hs:Sel b H' T) (h:MSub H T):MSub (b::H) H' :=by
 obtain ⟨U,hp⟩:=h;exact ⟨U,hs.perm.trans (hp.cons b)⟩
theorem MSub.trans {H H' H'' :List Blk} (h:MSub H H') (k:MSub H' H''):MSub H H'' :=by
 obtain ⟨T,hT⟩:=h;obtain ⟨U,hU⟩:=k;exact ⟨T++U,hU.trans (by rw [← XE];exact hT.append_right U)⟩
theorem MSub.drop {H H' T:List Blk} {b:Blk} (hs:Sel b H' T) (h:MSub H T):MSub H H' :=by
 obtain ⟨U,hp⟩:=h;refine ⟨b::U,hs.perm.trans ((hp.cons b).trans ?_)⟩;exact ZO.symm
section
variable {P:Program} {n:Fr} {w0:World} {Q:bK} {s:az} {H:List Blk}
theorem TT {c:Code} {H' :List Blk} (hH:MSub H' H) (h:W P n w0 c Q s H'):W P n w0 c Q s H:=
 fun a w hst hm=>h a w hst (hH.use hm)
theorem gI {ι:Type} {c:Code} (sI:ι→az) (HI:ι→List Blk) (ok:ι→Prop) (μ:ι→Nat) (i0:ι) (h0:ok i0) (hs0:Sub (sI i0) s) (hH0:MSub (HI i0) H)
 (round: ∀ i,ok i→W P n w0 c (thn (fun s' H' => ∃ i',ok i' ∧μ i' <μ i∧Sub (sI i') s' ∧MSub (HI i') H') Q) (sI i) (HI i)):W P n w0 (.loop c) Q s H:=by
 intro a w hs hm;refine wp_loop_ghost (fun k a' w' => ∃ i,ok i∧μ i=k∧St n (sI i) a' ∧Mem w0 w' (HI i)) (μ i0) ⟨i0,h0,rfl,hs.sub hs0,hH0.use hm⟩ ?_;rintro k a1 w1 ⟨i,hi,rfl,hs1,hm1⟩;refine wp_mono (round i hi a1 w1 hs1 hm1) ?_;rintro e a' w' ⟨s',H',h1,h2,h3⟩
 cases e with
 |normal=>
  obtain ⟨i',hi',hlt,hsub,hms⟩:=h3;exact ⟨μ i',hlt,i',hi',rfl,h1.sub hsub,hms.use h2⟩
 |_=>exact ⟨s',H',h1,h2,h3⟩
end
theorem Blk.on_of_block {w w' :World} {b:Blk} (h:b.on w) (hk: ∀ k,b.key=some k→w'.heap[k]? =w.heap[k]?):b.on w' :=by
 cases b with
 |box g ty xs=>simp only [Blk.on] at h ⊢;rw [hk g rfl];exact h
 |obj g o=>simp only [Blk.on] at h ⊢;rw [hk g rfl];exact h
 |byt g ty m cap xs=>simp only [Blk.on] at h ⊢;rw [hk g rfl];exact h
 |own A ty size m cap xs=>
  simp only [Blk.on] at h ⊢;refine ⟨h.1,h.2.1,h.2.2.1,?_⟩;have h4:=h.2.2.2
  cases A with
  |none=>exact h4
  |some g=>
   obtain ⟨junk,hl,hg⟩:=h4;exact ⟨junk,hl,(hk g rfl).trans hg⟩
theorem Blk.key_lt {w:World} {b:Blk} (h:b.on w) {k:Nat} (hk:b.key=some k):k<w.heap.size:=by
 have: ∃ o,w.heap[k]? =some o:=by
  cases b with
  |box g ty xs=>simp only [Blk.key,Option.some.injEq] at hk;subst hk;exact ⟨_,h⟩
  |obj g o=>simp only [Blk.key,Option.some.injEq] at hk;subst hk;exact ⟨_,h⟩
  |byt g ty m cap xs=>simp only [Blk.key,Option.some.injEq] at hk;subst hk;obtain ⟨_,_,junk,_,hg⟩:=h;exact ⟨_,hg⟩
  |own A ty size m cap xs=>
   simp only [Blk.key] at hk;subst hk;obtain ⟨_,_,_,junk,_,hg⟩:=h;exact ⟨_,hg⟩
 obtain ⟨o,ho⟩:=this;exact (XK.1 ho).1
theorem Mem.refl (w:World):Mem w w []:=⟨.refl _ _,(fun _ h=>by cases h),List.Pairwise.nil⟩
theorem Mem.drew {w0 w:World} {H:List Blk} (h:Mem w0 w H):Mem w0 { w with drawn:=w.drawn+1 } H:=
 ⟨h.below.drew,fun b hb=>⟨Blk.on_of_block (h.on b hb).1 fun _ _=>rfl,(h.on b hb).2⟩,h.apart⟩
theorem Mem.upd {w0 w w' :World} {b b' :Blk} {T:List Blk} (h:Mem w0 w (b::T)) (hg:w.grownBy w' b.key) (hb:b'.on w')
 (hk: ∀ k,b'.key=some k→b.key=some k∨w.heap.size≤k):Mem w0 w' (b' ::T):=by
 have hap:=XG.1 h.apart;have hrow: ∀ k,b.key=some k→w0.heap.size≤k:=(h.on b Xb).2;have hsz:w0.heap.size≤w.heap.size:=h.below.size;have hlt: ∀ x∈T,∀ k,x.key=some k→k<w.heap.size:=fun x hx k hxk=>Blk.key_lt (h.on x (Xp _ hx)).1 hxk;refine ⟨h.below.grown hg hsz hrow,fun x hx=> ?_,XG.2 ⟨fun x hx k hk1 hk2=> ?_,hap.2⟩⟩
 ·rcases Xt.1 hx with rfl|hx
  ·refine ⟨hb,fun k hk1=> ?_⟩;rcases hk k hk1 with h1|h1
   ·exact hrow k h1
   ·omega
  ·refine ⟨Blk.on_of_block (h.on x (Xp _ hx)).1 fun k hxk=> ?_,(h.on x (Xp _ hx)).2⟩;exact hg.block k (hlt x hx k hxk) fun e=>hap.1 x hx k e.symm hxk
 ·rcases hk k hk1 with h1|h1
  ·exact hap.1 x hx k h1 hk2
  ·have:=hlt x hx k hk2;omega
theorem Mem.new {w0 w w' :World} {b:Blk} {T:List Blk} (h:Mem w0 w T) (hg:w.grownBy w' none) (hb:b.on w') (hk: ∀ k,b.key=some k→w.heap.size≤k):Mem w0 w' (b::T):=by
 have h0:Mem w0 w (.own none 0 0 0 0 []::T):=
  ⟨h.below,fun x hx=>by
   rcases Xt.1 hx with rfl|hx
   ·exact ⟨⟨by simp,Xy _,Xn _,rfl,rfl⟩,(fun k hk=>by cases hk)⟩
   ·exact h.on x hx,XG.2 ⟨(fun x _ k hk=>by cases hk),h.apart⟩⟩
 exact h0.upd (b:= .own none 0 0 0 0 []) hg hb fun k h1=> .inr (hk k h1)
theorem Mem.call {w0 w w' :World} {H H' :List Blk} (h:Mem w0 w H) (h' :Mem w w' H'):Mem w0 w' (H' ++H):=by
 have hsz:w0.heap.size≤w.heap.size:=h.below.size;have hold: ∀ x∈H,∀ k,x.key=some k→k<w.heap.size:=fun x hx k hxk=>Blk.key_lt (h.on x hx).1 hxk;refine ⟨h.below.trans (h'.below.mono hsz),fun x hx=> ?_,Yh.2 ⟨h'.apart,h.apart,fun x hx y hy k hk1 hk2=> ?_⟩⟩
 ·rcases Xr.1 hx with hx|hx
  ·exact ⟨(h'.on x hx).1,fun k hk=>XU hsz ((h'.on x hx).2 k hk)⟩
  ·exact ⟨Blk.on_of_block (h.on x hx).1 fun k hk=>h'.below.block k (hold x hx k hk),(h.on x hx).2⟩
 ·have h1:=(h'.on x hx).2 k hk1;have h2:=hold y hy k hk2;omega
def atN (L:List Nat) (i:Nat):Nat:=(L[i]?).getD 0
def swapN (L:List Nat) (i j:Nat):List Nat:=(L.set i (atN L j)).set j (atN L i)
section
variable {P:Program} {n:Fr} {w0:World} {Q:bK} {s:az} {H:List Blk} {ops:Array Oper} {l:List Oper}
theorem cJ (H' :List Blk) (hs:MSub H' H) (h:WL P n w0 ops l Q s H'):WL P n w0 ops l Q s H:=fun a w h1 h2=>h a w h1 (hs.use h2)
end
abbrev Nx:=List (List Nat)
def Kf (X:Nx) (i:Nat):List Nat:=(X[i]?).getD []
inductive Rch (X:Nx):Nat→Nat→Prop
 |refl (i:Nat):Rch X i i
 |step {i k j:Nat} (h:k∈Kf X i) (r:Rch X k j):Rch X i j
structure Tj where
 num:List Nat
 low:List Nat
 on:List Bool
 stk:List Nat
 out:List (List Nat)
 cnt:Nat
def onC (X:Nx) (v:Nat):Prop:= ∃ k∈Kf X v,Rch X k v
def VOp (P:Program) (w0:World) (s:az) (H:List Blk) (op:Op) (ty:TypeId) (v:Value):Prop:=
 ∀ (ρ:Operand→Value) (w:World) (d:Option Tmp) (p:String) (af:Array Edge) (g:Option (Nat × Bool)),
  (∀ x u,ev s x=some u→ρ x=u)→Mem w0 w H→(execOp ρ ⟨d,op,ty,p,af,g⟩).run P w= .ok (.value v) w
section
variable {P:Program} {n:Fr} {w0:World} {Q:bK} {s:az} {H:List Blk} {ops:Array Oper} {rest:List Oper} {ty:TypeId} {p:String} {af:Array Edge}
theorem oo (h:Q .normal s H):WL P n w0 ops [] Q s H:=fun _ _ hs hm=>wpList_nil ⟨s,H,hs,hm,h⟩
theorem Nz {id:Nat} {l:List Oper} (h:WL P n w0 l.toArray l Q s H):W P n w0 (.region id l.toArray false) Q s H:=
 fun a w hs hm=>wp_region_lit (h a w hs hm)
theorem wQ {o:Oper} {v:Value} (hg:Region.wanted o=fun _=>true) (d:Nat) (hd:o.dst=some d) (hn:Nat.blt d n.sz=true)
 (h: ∀ a w,St n s a→Mem w0 w H→(execOp a.eval o).run P w= .ok (.value v) w)
 (k:WL P n w0 ops rest Q ((d,v)::s) H):WL P n w0 ops (o::rest) Q s H:=by
 intro a w hs hm;refine wpList_step fun K hK=> ?_;rw [hg,if_pos rfl];simp only [Oper.wp,h a w hs hm,Oper.upon,hd];exact hK _ _ (k _ _ (hs.put (Yg ▸ hn) v) hm)
theorem ak {op:Op} {d:Nat} {v:Value} (hn:Nat.blt d n.sz=true) (hv:VOp P w0 s H op ty v) (k:WL P n w0 ops rest Q ((d,v)::s) H):
 WL P n w0 ops (⟨some d,op,ty,p,af,none⟩::rest) Q s H:=
 wQ rfl d rfl hn (fun _ _ hs hm=>hv _ _ _ _ _ _ hs.eval hm) k
class One (P:Program) (t:TypeId):Prop where
 out: ∃ d,P.underlying t=some d∧(match d with| .struct _| .array _ _=>false|_=>true)=true
class Agg (P:Program) (t:TypeId) (m:outParam Nat):Prop where
 out: ∃ d i,P.underlying t=some d∧(match d with| .struct _| .array _ _=>true|_=>false)=true∧P.info? t=some i∧i.size=m
class Size (P:Program) (t:TypeId) (m:outParam Nat):Prop where
 out: ∃ i,P.info? t=some i∧i.size=m
class Und (P:Program) (t:TypeId) (d:outParam TypeDesc):Prop where
 out:P.underlying t=some d
class Fld (P:Program) (t:TypeId) (f:Nat) (o:outParam Nat):Prop where
 out: ∃ fs fl i,P.underlying t=some (.struct fs)∧fs[f]? =some fl∧fl.offset=o∧P.info? fl.type=some i∧i.size≠0
class Zero (P:Program) (t:TypeId) (z:outParam Value):Prop where
 out: ∃ i,P.info? t=some i∧i.zero=some z
class Elem (P:Program) (t:TypeId) (size bytes:outParam Nat):Prop where
 out: ∃ i z,P.info? t=some i∧i.size=size∧i.bytes=bytes∧i.zero=some z∧z.cells.size=size∧0<size
class Callable (P:Program) (f:FuncId):Prop where
 out: ∀ args w,(callFunc f args).run P w= .ok (.enter f args) w
theorem Ua {x:Operand} {v:Value} (hx:ev s x=some v):VOp P w0 s H (.move x) ty v:=fun ρ w _ _ _ _ hρ _=>by
 simp [execOp,hρ x v hx]
theorem eY {x:Operand} {v:Value} (hx:ev s x=some v):VOp P w0 s H (.assign x) ty v:=fun ρ w _ _ _ _ hρ _=>by
 simp [execOp,hρ x v hx]
theorem NJ {c a b:Operand} {v:Value} (hc:ev s c=some (.bool true)) (ha:ev s a=some v):VOp P w0 s H (.pick c a b) ty v:=fun ρ w _ _ _ _ hρ _=>by
 simp [execOp,hρ c _ hc,hρ a v ha,asBool]
theorem NK {c a b:Operand} {v:Value} (hc:ev s c=some (.bool false)) (hb:ev s b=some v):VOp P w0 s H (.pick c a b) ty v:=fun ρ w _ _ _ _ hρ _=>by
 simp [execOp,hρ c _ hc,hρ b v hb,asBool]
section aD
variable {x y:Operand} {k:IntKind} {a b:Int} {t t' :TypeId}
theorem Vi (hx:ev s x=some (.int k a)) (hy:ev s y=some (.int k b)):VOp P w0 s H (.binOp .lss t x y t') ty (.bool (decide (a<b))):=fun ρ w _ _ _ _ hρ _=>by
 simp [execOp,hρ x _ hx,hρ y _ hy,eqGuard,binOp,Op.intCmp]
theorem Vj (hx:ev s x=some (.int k a)) (hy:ev s y=some (.int k b)):VOp P w0 s H (.binOp .leq t x y t') ty (.bool (decide (a≤b))):=fun ρ w _ _ _ _ hρ _=>by
 simp [execOp,hρ x _ hx,hρ y _ hy,eqGuard,binOp,Op.intCmp]
theorem Vm (hx:ev s x=some (.int k a)) (hy:ev s y=some (.int k b)):VOp P w0 s H (.binOp .gtr t x y t') ty (.bool (decide (b<a))):=fun ρ w _ _ _ _ hρ _=>by
 simp [execOp,hρ x _ hx,hρ y _ hy,eqGuard,binOp,Op.intCmp]
theorem Vn (hx:ev s x=some (.int k a)) (hy:ev s y=some (.int k b)):VOp P w0 s H (.binOp .geq t x y t') ty (.bool (decide (b≤a))):=fun ρ w _ _ _ _ hρ _=>by
 simp [execOp,hρ x _ hx,hρ y _ hy,eqGuard,binOp,Op.intCmp]
theorem Vo (hx:ev s x=some (.int k a)) (hy:ev s y=some (.int k b)):VOp P w0 s H (.binOp .eql t x y t') ty (.bool (decide (a=b))):=fun ρ w _ _ _ _ hρ _=>by
 simp [execOp,hρ x _ hx,hρ y _ hy,eqGuard,binOp,Op.intCmp];rw [XY];simp
theorem Vg (hx:ev s x=some (.int k a)) (hy:ev s y=some (.int k b)):VOp P w0 s H (.binOp .neq t x y t') ty (.bool (decide (a≠b))):=fun ρ w _ _ _ _ hρ _=>by
 simp [execOp,hρ x _ hx,hρ y _ hy,eqGuard,binOp,Op.intCmp,bne];rw [XY];simp
def I64 (z:Int):Prop:= -9223372036854775808≤z∧z≤9223372036854775807
theorem I64.wrap {z:Int} (h:I64 z):IntKind.i64.wrap z=z:=by
 rw [IntKind.wrap_i64];obtain ⟨h1,h2⟩:=h;omega
theorem AE (hx:ev s x=some (.int .i64 a)) (hy:ev s y=some (.int .i64 b)) (h:I64 (a+b)):VOp P w0 s H (.binOp .add t x y t') ty (.int .i64 (a+b)):=fun ρ w _ _ _ _ hρ _=>by
 simp [execOp,hρ x _ hx,hρ y _ hy,eqGuard,binOp,Op.intArith,h.wrap]
theorem Ti (hx:ev s x=some (.int .i64 a)) (hy:ev s y=some (.int .i64 b)) (h:I64 (a - b)):VOp P w0 s H (.binOp .sub t x y t') ty (.int .i64 (a - b)):=fun ρ w _ _ _ _ hρ _=>by
 simp [execOp,hρ x _ hx,hρ y _ hy,eqGuard,binOp,Op.intArith,h.wrap]
theorem Tm (hx:ev s x=some (.int .i64 a)) (hy:ev s y=some (.int .i64 b)) (h:I64 (a*b)):VOp P w0 s H (.binOp .mul t x y t') ty (.int .i64 (a*b)):=fun ρ w _ _ _ _ hρ _=>by
 simp [execOp,hρ x _ hx,hρ y _ hy,eqGuard,binOp,Op.intArith,h.wrap]
theorem CI (hx:ev s x=some (.int k a)) (hy:ev s y=some (.int k b)):VOp P w0 s H (.binOp .add t x y t') ty (.int k (k.wrap (a+b))):=fun ρ w _ _ _ _ hρ _=>by
 simp [execOp,hρ x _ hx,hρ y _ hy,eqGuard,binOp,Op.intArith]
theorem TY (hx:ev s x=some (.int k a)) (hy:ev s y=some (.int k b)):VOp P w0 s H (.binOp .sub t x y t') ty (.int k (k.wrap (a - b))):=fun ρ w _ _ _ _ hρ _=>by
 simp [execOp,hρ x _ hx,hρ y _ hy,eqGuard,binOp,Op.intArith]
theorem Vh (hx:ev s x=some (.int .i64 a)) (h:I64 (-a)):VOp P w0 s H (.unOp .neg t x) ty (.int .i64 (-a)):=fun ρ w _ _ _ _ hρ _=>by
 simp [execOp,hρ x _ hx,Op.unary,Op.intArith,h.wrap]
theorem NS {k' :IntKind} {d:TypeDesc} [hs:Und P t d] [hd:Und P t' (.int k')] (hx:ev s x=some (.int k a)):VOp P w0 s H (.convert t t' x) ty (.int k' (k'.wrap a)):=fun ρ w _ _ _ _ hρ _=>by
 simp [execOp,hρ x _ hx,convert,run_underlying hs.out,run_underlying hd.out,Conv.intToInt]
end aD
section bools
variable {x y:Operand} {a b:Bool} {t t' :TypeId}
theorem Ve (hx:ev s x=some (.bool a)):VOp P w0 s H (.unOp .not t x) ty (.bool (!a)):=fun ρ w _ _ _ _ hρ _=>by
 simp [execOp,hρ x _ hx,Op.unary]
theorem Ue [ht:Und P t .bool] (hx:ev s x=some (.bool a)) (hy:ev s y=some (.bool b)):VOp P w0 s H (.binOp .eql t x y t') ty (.bool (a==b)):=fun ρ w _ _ _ _ hρ _=>by
 simp [execOp,hρ x _ hx,hρ y _ hy,eqGuard,run_eql_bool w t a b ht.out]
end bools
section strings
variable {x y:Operand} {a b:ByteArray} {t t' :TypeId}
theorem DE (a b:ByteArray):(a.toList==b.toList)=decide (a=b):=by
 rw [← beq_toListBytes];obtain ⟨⟨x⟩⟩:=a;obtain ⟨⟨y⟩⟩:=b;show ((⟨x⟩:Array UInt8)==⟨y⟩)=_;rw [XY];simp
theorem Ud (hx:ev s x=some (.string a)) (hy:ev s y=some (.string b)):VOp P w0 s H (.binOp .eql t x y t') ty (.bool (decide (a=b))):=fun ρ w _ _ _ _ hρ _=>by
 simp [execOp,hρ x _ hx,hρ y _ hy,eqGuard,binOp,Op.stringOp,DE]
theorem TZ (hx:ev s x=some (.string a)) (hy:ev s y=some (.string b)):VOp P w0 s H (.binOp .neq t x y t') ty (.bool (decide (a≠b))):=fun ρ w _ _ _ _ hρ _=>by
 simp [execOp,hρ x _ hx,hρ y _ hy,eqGuard,binOp,Op.stringOp,DE]
theorem NP [ht:Und P t .string] (hx:ev s x=some (.string a)):VOp P w0 s H (.call { callee:= .builtin .len,args:= #[x],argTypes:= #[t] }) ty (.int .i64 (a.size:Int)):=fun ρ w _ _ _ _ hρ _=>by
 simp [execOp,hρ x _ hx,resolve,invoke,builtin,Builtin.len_,run_underlying ht.out,goInt]
end strings
theorem Vk {x:Operand} {A:Option Addr} {m c:Nat} {t e:TypeId} [ht:Und P t (.slice e)] (hx:ev s x=some (.slice A m c)):
 VOp P w0 s H (.call { callee:= .builtin .len,args:= #[x],argTypes:= #[t] }) ty (.int .i64 (m:Int)):=fun ρ w _ _ _ _ hρ _=>by
 simp [execOp,hρ x _ hx,resolve,invoke,builtin,Builtin.len_,run_underlying ht.out,goInt]
theorem J7 {x y:Operand} {a b:Int} {ts:Array TypeId} (hx:ev s x=some (.int .i64 a)) (hy:ev s y=some (.int .i64 b)):
 VOp P w0 s H (.call { callee:= .builtin .max,args:= #[x,y],argTypes:=ts }) ty (.int .i64 (if a<b then b else a)):=fun ρ w _ _ _ _ hρ _=>by
 simp [execOp,hρ x _ hx,hρ y _ hy,resolve,invoke,builtin,run_max_int2]
theorem Aj {x y:Operand} {a b:Int} {ts:Array TypeId} (hx:ev s x=some (.int .i64 a)) (hy:ev s y=some (.int .i64 b)):
 VOp P w0 s H (.call { callee:= .builtin .min,args:= #[x,y],argTypes:=ts }) ty (.int .i64 (if b<a then b else a)):=fun ρ w _ _ _ _ hρ _=>by
 simp [execOp,hρ x _ hx,hρ y _ hy,resolve,invoke,builtin,run_min_int2]
theorem Ld {x:Operand} {vs:List Value} {i:Nat} {v:Value} (hx:ev s x=some (.tuple vs.toArray)) (hi:vs[i]? =some v):VOp P w0 s H (.extract x i) ty v:=fun ρ w _ _ _ _ hρ _=>by
 have hi' :vs.toArray[i]? =some v:=by rw [X4];exact hi
 simp [execOp,hρ x _ hx,Instr.extract,hi]
theorem x7 {w:World} {g o off:Nat} {fl:Field} {i:TypeInfo} (ho:fl.offset=o) (hi:P.info? fl.type=some i) (hz:i.size≠0):
 (fieldPlace ⟨g,off,none⟩ fl).run P w= .ok ⟨g,off+o,none⟩ w:=by
 have hz' :(if i.size=0 then true else false)=false:=by simp [hz]
 simp [fieldPlace,sizeOf,typeInfo,hi,hz,Addr.add,ho];try (intro h;rw [h])
theorem EQ {x:Operand} {t f o g off:Nat} [hf:Fld P t f o] (hx:ev s x=some (.pointer (some ⟨g,off,none⟩))):
 VOp P w0 s H (.fieldAddr t x f) ty (.pointer (some ⟨g,off+o,none⟩)):=fun ρ w _ _ _ _ hρ _=>by
 obtain ⟨fs,fl,i,h1,h2,h3,h4,h5⟩:=hf.out;simp [execOp,hρ x _ hx,Instr.fieldAt,run_underlying h1,h2,Instr.sureAddr,x7 h3 h4 h5]
theorem ai {x ix:Operand} {t e g off m c j sz:Nat} {k:IntKind} [ht:Und P t (.slice e)] [hs:Size P e sz] (hx:ev s x=some (.slice (some ⟨g,off,none⟩) m c)) (hi:ev s ix=some (.int k (j:Nat)))
 (hj:j<m):VOp P w0 s H (.indexAddr t x ix) ty (.pointer (some ⟨g,off+j*sz,none⟩)):=fun ρ w _ _ _ _ hρ _=>by
 obtain ⟨i,h1,h2⟩:=hs.out;have hj' :(j:Int)<(m:Int):=by omega
 have h0:(0:Int)≤(j:Int):=by omega
 have hadd:(⟨g,off,none⟩:Addr).add (j*sz)=⟨g,off+j*sz,none⟩:=by
  unfold Addr.add;split<;>simp_all
 simp [execOp,hρ x _ hx,hρ ix _ hi,Instr.indexAt,run_underlying ht.out,asIntOf,sizeOf,typeInfo,h1,h2,hadd];omega
def Cells (w:World) (g off:Nat) (xs:List Value):Prop:= ∀ j v,xs[j]? =some v→w.cell? ⟨g,off+j,none⟩=some v
theorem cH (g off j:Nat):(⟨g,off,none⟩:Addr).add j=⟨g,off+j,none⟩:=by
 unfold Addr.add;split<;>simp_all
theorem gj {w:World} {t:TypeId} {g off:Nat} {v:Value} [h:One P t] (hc:w.cell? ⟨g,off,none⟩=some v):(loadVar t ⟨g,off,none⟩).run P w= .ok v w:=by
 obtain ⟨d,hd,ho⟩:=h.out;cases d<;>simp_all [loadVar,isAgg,run_underlying hd]
theorem gy {w:World} {t:TypeId} {g off m:Nat} {xs:List Value} [h:Agg P t m] (hl:xs.length=m) (hc:Cells w g off xs):(loadVar t ⟨g,off,none⟩).run P w= .ok (.agg xs.toArray) w:=by
 obtain ⟨d,i,hd,ho,hi,hs⟩:=h.out;have h1:=run_loadCells_list (P:=P) w ⟨g,off,none⟩ xs (fun j v hv=>by rw [cH];exact hc j v hv);rw [hl] at h1;cases d<;>simp_all [loadVar,isAgg,run_underlying hd,sizeOf,typeInfo]
theorem Mem.cells_box {w w0:World} {H:List Blk} {g:Nat} {t:TypeId} {xs:List Value} (h:Mem w0 w H) (hi:In (.box g t xs) H):Cells w g 0 xs:=by
 have h1:=(h.on _ hi.mem).1;simp only [Blk.on] at h1;intro j v hv;rw [Xv,cell_of_row w g j _ t (0,0) h1];simpa using hv
theorem Mem.cells_own {w w0:World} {H:List Blk} {g m c sz:Nat} {t:TypeId} {xs:List Value} (h:Mem w0 w H) (hi:In (.own (some g) t sz m c xs) H):Cells w g 0 xs:=by
 obtain ⟨hl,_,_,junk,_,h1⟩:=(h.on _ hi.mem).1;intro j v hv;rw [Xv,cell_of_row w g j _ t (0,0) h1];have hlt:=(XJ.1 hv).1;rw [X4,XW hlt];exact hv
structure Ro (w0:World) (g off:Nat) (xs:List Value):Prop where
 lt:g<w0.heap.size
 cells:Cells w0 g off xs
theorem Ro.later {w w0:World} {H:List Blk} {g off:Nat} {xs:List Value} (h:Ro w0 g off xs) (hm:Mem w0 w H):Cells w g off xs:=
 fun j v hv=>(hm.below.cell (p:=⟨g,off+j,none⟩) h.lt).trans (h.cells j v hv)
theorem Cells.drop {w:World} {g off k:Nat} {xs:List Value} (h:Cells w g off xs):Cells w g (off+k) (xs.drop k):=fun j v hv=>by
 rw [Zo] at hv;rw [Y8];exact h _ v hv
theorem Cells.take {w:World} {g off k:Nat} {xs:List Value} (h:Cells w g off xs):Cells w g off (xs.take k):=fun j v hv=>by
 rw [List.getElem?_take] at hv;split at hv
 ·exact h _ v hv
 ·cases hv
theorem ik {x:Operand} {t T g off:Nat} {xs:List Value} {v:Value} [One P t] (hx:ev s x=some (.pointer (some ⟨g,off,none⟩))) (hi:In (.box g T xs) H) (hv:xs[off]? =some v):
 VOp P w0 s H (.load t x) ty v:=fun ρ w _ _ _ _ hρ hm=>by
 have hc:=hm.cells_box hi off v hv;rw [Xv] at hc;simp [execOp,hρ x _ hx,Instr.loadAt,Instr.sureAddr,gj (P:=P) hc]
theorem bB {x:Operand} {t T g off m c sz:Nat} {xs:List Value} {v:Value} [One P t] (hx:ev s x=some (.pointer (some ⟨g,off,none⟩))) (hi:In (.own (some g) T sz m c xs) H) (hv:xs[off]? =some v):
 VOp P w0 s H (.load t x) ty v:=fun ρ w _ _ _ _ hρ hm=>by
 have hc:=hm.cells_own hi off v hv;rw [Xv] at hc;simp [execOp,hρ x _ hx,Instr.loadAt,Instr.sureAddr,gj (P:=P) hc]
theorem bu {x:Operand} {t g o off:Nat} {xs:List Value} {v:Value} [One P t] (hr:Ro w0 g o xs) (hx:ev s x=some (.pointer (some ⟨g,o+off,none⟩))) (hv:xs[off]? =some v):
 VOp P w0 s H (.load t x) ty v:=fun ρ w _ _ _ _ hρ hm=>by
 simp [execOp,hρ x _ hx,Instr.loadAt,Instr.sureAddr,gj (P:=P) (hr.later hm off v hv)]
theorem oF {x:Operand} {t T g off m:Nat} {xs ys:List Value} [Agg P t m] (hx:ev s x=some (.pointer (some ⟨g,off,none⟩))) (hi:In (.box g T xs) H) (hv:(xs.drop off).take m=ys) (hl:ys.length=m):
 VOp P w0 s H (.load t x) ty (.agg ys.toArray):=fun ρ w _ _ _ _ hρ hm=>by
 subst hv;have hc:Cells w g off ((xs.drop off).take m):=by
  have:=((hm.cells_box hi).drop (k:=off)).take (k:=m);rwa [Xv] at this
 simp [execOp,hρ x _ hx,Instr.loadAt,Instr.sureAddr,gy (P:=P) hl hc]
theorem au {x:Operand} {t T g off m n' c sz:Nat} {xs ys:List Value} [Agg P t m] (hx:ev s x=some (.pointer (some ⟨g,off,none⟩))) (hi:In (.own (some g) T sz n' c xs) H) (hv:(xs.drop off).take m=ys) (hl:ys.length=m):
 VOp P w0 s H (.load t x) ty (.agg ys.toArray):=fun ρ w _ _ _ _ hρ hm=>by
 subst hv;have hc:Cells w g off ((xs.drop off).take m):=by
  have:=((hm.cells_own hi).drop (k:=off)).take (k:=m);rwa [Xv] at this
 simp [execOp,hρ x _ hx,Instr.loadAt,Instr.sureAddr,gy (P:=P) hl hc]
theorem m6 {x:Operand} {t g o off m:Nat} {xs ys:List Value} [Agg P t m] (hr:Ro w0 g o xs) (hx:ev s x=some (.pointer (some ⟨g,o+off,none⟩))) (hv:(xs.drop off).take m=ys) (hl:ys.length=m):
 VOp P w0 s H (.load t x) ty (.agg ys.toArray):=fun ρ w _ _ _ _ hρ hm=>by
 subst hv;have hc:Cells w g (o+off) ((xs.drop off).take m):=((hr.later hm).drop (k:=off)).take (k:=m);simp [execOp,hρ x _ hx,Instr.loadAt,Instr.sureAddr,gy (P:=P) hl hc]
end
section
variable {P:Program} {n:Fr} {w0:World} {Q:bK} {s:az} {H:List Blk} {l rest:List Oper} {ty:TypeId} {p:String} {af:Array Edge}
theorem Ii {t lo hi:Nat} {a:ByteArray} {x q r:Operand} {k k' :IntKind} [ht:Und P t .string] (hx:ev s x=some (.string a)) (hr:ev s r=some (.int k' (lo:Nat))) (hq:ev s q=some (.int k (hi:Nat))) (h1:lo≤hi) (h2:hi≤a.size):
 VOp P w0 s H (.slice t x (some r) (some q) none) ty (.string (a.extract lo hi)):=fun ρ w _ _ _ _ hρ _=>by
 simp [execOp,hρ x _ hx,hρ q _ hq,hρ r _ hr,Instr.sliceAt,run_underlying ht.out,Instr.slice,Instr.sliceBounds,Instr.sliceBound,asIntOf,h2,h1]
theorem xL {t lo:Nat} {a:ByteArray} {x r:Operand} {k' :IntKind} [ht:Und P t .string] (hx:ev s x=some (.string a)) (hr:ev s r=some (.int k' (lo:Nat))) (h1:lo≤a.size):
 VOp P w0 s H (.slice t x (some r) none none) ty (.string (a.extract lo a.size)):=fun ρ w _ _ _ _ hρ _=>by
 simp [execOp,hρ x _ hx,hρ r _ hr,Instr.sliceAt,run_underlying ht.out,Instr.slice,Instr.sliceBounds,Instr.sliceBound,asIntOf,h1]
theorem Uh {x y:Operand} {a b:ByteArray} {t t' :TypeId} (hx:ev s x=some (.string a)) (hy:ev s y=some (.string b)) (h:a.size+b.size≤maxLen):VOp P w0 s H (.binOp .add t x y t') ty (.string (a++b)):=fun ρ w _ _ _ _ hρ _=>by
 simp only [maxLen] at h;simp [execOp,hρ x _ hx,hρ y _ hy,eqGuard,binOp,Op.stringOp];omega
theorem EL {x:Operand} {t:TypeId} {v:Value} {d:TypeDesc} [ht:Und P t d] (hd: ∀ m,d≠ .interface m) (hx:ev s x=some v):VOp P w0 s H (.makeInterface t x) ty (.iface t v):=fun ρ w _ _ _ _ hρ _=>by
 cases d<;>first|exact absurd rfl (hd _)|simp [execOp,hρ x _ hx,Instr.makeInterface,run_underlying ht.out]
end
structure Rct where
 c1:Int
 r1:Int
 c2:Int
 r2:Int
structure Vl where
 kind:Int
 num:Int
 text:ByteArray
structure Nd where
 kind:Int
 v:Vl
 rect:Rct
 op:Int
 fn:Int
 n:Int
def ay (r:Rct):List Value:= [.int .i64 r.c1,.int .i64 r.r1,.int .i64 r.c2,.int .i64 r.r2]
def fp (v:Vl):List Value:= [.int .u8 v.kind,.int .i64 v.num,.string v.text]
def gW (n:Nd):List Value:=
 [.int .u8 n.kind,.int .u8 n.v.kind,.int .i64 n.v.num,.string n.v.text,.int .i64 n.rect.c1,.int .i64 n.rect.r1,.int .i64 n.rect.c2,.int .i64 n.rect.r2,.int .i64 n.op,.int .u8 n.fn,.int .i64 n.n]
def valid (c r:Int):Bool:=decide (1≤c) && decide (c≤1024) && decide (1≤r) && decide (r≤1024)
def aA (r:Rct):Bool:=valid r.c1 r.r1 && valid r.c2 r.r2 && decide (r.c1≤r.c2) && decide (r.r1≤r.r2)
def bY (r:Rct):Int:=bif aA r then 0 else 3
def uC (b:ByteArray):Bool:=b.data.toList.all fun c=>decide (32≤c.toNat) && decide (c.toNat≤126)
def uQ (b:ByteArray):Int:=bif decide (256<b.size) then 5 else bif uC b then 0 else 4
def aS:ByteArray:=⟨#[]⟩
def NF (v:Vl):Bool:=
 bif decide (v.kind=0) then decide (v.num=0) && decide (v.text=aS)
 else bif decide (v.kind=1) then decide (v.text=aS) && decide (v.num≠ -9223372036854775808)
 else bif decide (v.kind=2) then decide (v.text=aS) && decide (v.num / 2=0)
 else bif decide (v.kind=3) then decide (v.num=0) && decide (uQ v.text=0)
 else bif decide (v.kind=4) then decide (v.text=aS) && decide (1≤v.num) && decide (v.num≤6)
 else false
def H6 (v:Vl):Int:=bif NF v then 0 else 2
def Dd (fn:Int):Bool:=decide (1≤fn) && decide (fn≤50)
def mh (fn:Int):Bool:=decide (46≤fn) && decide (fn≤50)
def iO (fn:Int):Int × Int × Int:=
 if fn=5∨fn=6∨fn=7∨fn=25∨fn=39∨fn=40∨fn=18∨fn=19∨fn=45∨fn=44 then (2,2,0)
 else if fn=20∨fn=41∨fn=43 then (2,3,0)
 else if fn=32∨fn=33 then (1,2,0)
 else if fn=34 then (3,3,0)
 else if fn=21∨fn=22∨fn=23∨fn=38∨fn=9∨fn=10∨fn=11∨fn=12∨fn=14∨fn=15∨fn=16∨fn=17 then (1,16,0)
 else if fn=30 then (2,16,0)
 else if Dd fn then (1,1,0) else (0,0,10)
def sm (fn i:Int):Bool × Int:=
 if (iO fn).2.2≠0 then (false,(iO fn).2.2)
 else if i<0∨(iO fn).2.1≤i then (false,3)
 else if fn=9∨fn=10∨fn=11∨fn=12∨fn=14∨fn=15∨fn=16∨fn=17 then (true,0)
 else if fn=44 then (decide (i=1),0)
 else if fn=18∨fn=19∨fn=45∨fn=43∨fn=13 then (decide (i=0),0)
 else (mh fn,0)
def below (n:Nd):Int:=
 if n.kind=4∨n.kind=5 then 1 else if n.kind=6 then 2 else if n.kind=7 then n.n else 0
def bU:Rct:=⟨0,0,0,0⟩
def cU:Vl:=⟨0,0,aS⟩
def dg (n:Nd):Nd:=
 if n.kind=1 then ⟨n.kind,n.v,bU,0,0,0⟩
 else if n.kind=2∨n.kind=3 then ⟨n.kind,cU,n.rect,0,0,0⟩
 else if n.kind=6 then ⟨n.kind,cU,bU,n.op,0,0⟩
 else if n.kind=7 then ⟨n.kind,cU,bU,0,n.fn,n.n⟩
 else ⟨n.kind,cU,bU,0,0,0⟩
def Tx (v:Vl):Bool:=
 (if v.kind=0 then false else if v.kind=1 then decide (0≤v.num) else if v.kind=4 then decide (1≤v.num) && decide (v.num≤5) else true) && decide (H6 v=0)
def VM (r:Rct):Bool:=decide (r.c1=r.c2) && decide (r.r1=r.r2)
def oY (n:Nd):Bool:=
 if n.kind=1 then Tx n.v
 else if n.kind=2∨n.kind=3 then decide (bY n.rect=0) && (VM n.rect==decide (n.kind=2))
 else if n.kind=4∨n.kind=5 then true
 else if n.kind=6 then decide (1≤n.op) && decide (n.op≤12)
 else if n.kind=7 then decide (0≤n.n)
 else false
def eqV (a b:Vl):Bool:=decide (a.kind=b.kind) && (decide (a.num=b.num) && decide (a.text=b.text))
def eqR (a b:Rct):Bool:=decide (a.c1=b.c1) && (decide (a.r1=b.r1) && (decide (a.c2=b.c2) && decide (a.r2=b.r2)))
def eqN (a b:Nd):Bool:=decide (a.kind=b.kind) && (eqV a.v b.v && (eqR a.rect b.rect && (decide (a.op=b.op) && (decide (a.fn=b.fn) && decide (a.n=b.n)))))
theorem Sl {a b:Vl}:eqV a b=true↔a=b:=by
 obtain ⟨a1,a2,a3⟩:=a;obtain ⟨b1,b2,b3⟩:=b;simp [eqV]
theorem nK {a b:Rct}:eqR a b=true↔a=b:=by
 obtain ⟨a1,a2,a3,a4⟩:=a;obtain ⟨b1,b2,b3,b4⟩:=b;simp [eqR]
theorem Sn {a b:Nd}:eqN a b=true↔a=b:=by
 obtain ⟨a1,a2,a3,a4,a5,a6⟩:=a;obtain ⟨b1,b2,b3,b4,b5,b6⟩:=b;simp [eqN,Sl,nK]
theorem JA (a b:Int):(a==b)=decide (a=b):=by rw [XY];simp
def dU (n:Nd):Int:=
 if oY n=false∨eqN n (dg n)=false then 2
 else if n.kind≠7 then 0
 else if (iO n.fn).2.2≠0 then (iO n.fn).2.2
 else if n.n<(iO n.fn).1∨(iO n.fn).2.1<n.n then 11
 else 0
structure Pt where
 root:Nat
 depth:Nat
 wide:Bool
def uU (p:Pt):List Value:= [.int .i64 (p.root:Int),.int .i64 (p.depth:Int),.bool p.wide]
theorem lu (n:Nd):(gW n).length=11:=rfl
theorem pq (p:Pt):(uU p).length=3:=rfl
def uK (L:List Nd) (i:Nat):Int:=((L[i]?).map Nd.kind).getD 0
def Kw (n:Nd) (i:Int):Bool:=if n.kind=7 then (sm n.fn i).1 else false
def Py (L:List Nd) (n:Nd) (i:Int) (p:Pt):Bool:=
 !(p.wide && !Kw n i) && !(decide (n.kind=7) && mh n.fn && decide (uK L p.root≠2) && decide (uK L p.root≠3))
def lc (L:List Nd) (n:Nd):Int→List Pt→Bool
 |_,[]=>true
 |i,p::r=>Py L n i p && lc L n (i+1) r
def cI (st:List Pt) (k:Nat):List Pt:=st.drop (st.length - k)
def dH (top:List Pt):Nat:=top.foldl (fun d p=>max d (p.depth+1)) 1
def E5 (L:List Nd) (n:Nd) (i:Nat) (st:List Pt):Int ⊕ (List Pt × List Nat × Nat):=
 if dU n≠0 then .inl (dU n)
 else if (st.length:Int)<below n∨lc L n 0 (cI st (below n).toNat)=false then .inl 4
 else if 32<dH (cI st (below n).toNat) then .inl 9
 else .inr (st.take (st.length - (below n).toNat)++ [⟨i,dH (cI st (below n).toNat),decide (n.kind=3)⟩],(cI st (below n).toNat).map Pt.root,dH (cI st (below n).toNat))
abbrev qZ:=List Nat × Nat
def lG (L:List Nd):List Nd→Nat→List Pt→List qZ→Int × List qZ
 | [],_,st,vs=>(if st.length=1 then 0 else 4,vs)
 |n::r,i,st,vs=>match E5 L n i st with
  | .inl e=>(e,vs)
  | .inr (st',kids,d)=>lG L r (i+1) st' (vs++ [(kids,d)])
def bX (c:Int):Bool:=decide (48≤c) && decide (c≤57)
def j8 (c:Int):Bool:=(decide (65≤c) && decide (c≤90))||(decide (97≤c) && decide (c≤122))
def fk (c:Int):Bool:=j8 c||bX c
def upC (c:Int):Int:=if 97≤c∧c≤122 then c - 32 else c
def bO (p:Int→Bool):List Int→Nat
 | []=>0
 |c::r=>if p c then bO p r+1 else 0
def fD:List Int→Int→Int
 | [],v=>v
 |c::r,v=>fD r (10*v+(c - 48))
def jL:Int:=9223372036854775807
def mkB (l:List Int):ByteArray:=⟨(l.map fun n=>UInt8.ofNat n.toNat).toArray⟩
def eM (l:List Int):Nat:=match l with
 |46::r=>bO bX r
 |_=>0
def dB:List Int→Int→Int
 | [],v=>v
 |c::r,v=>dB r (min (26*v+(upC c - 64)) 1025)
def wI:List Int→Int→Int
 | [],v=>v
 |c::r,v=>wI r (min (10*v+(c - 48)) 1025)
def fV (l:List Int):Int × Int × Int:=
 let a:=l.takeWhile j8;let d:=l.dropWhile j8
 if a= []∨d= []∨d.head? =some 48∨d.all bX=false then (0,0,4)
 else if 1024<dB a 0∨1024<wI d 0 then (0,0,3)
 else (dB a 0,wI d 0,0)
def cE (c r:Int):Rct:=⟨c,r,c,r⟩
def ll:List (List Int):= [[35,68,73,86,47,48,33],[35,86,65,76,85,69,33],[35,78,85,77,33],[35,78,47,65],[35,82,69,70,33]]
def vT (l:List Int):List (List Int)→Int→Option (Int × Nat)
 | [],_=>none
 |s::r,code=>if (l.take s.length).map upC=s then some (code,s.length) else vT l r (code+1)
def j5:List (List Int × Int):= [([60,62],8),([60,61],10),([62,61],12),([43],1),([45],2),([42],3),([47],4),([94],5),([38],6),([61],7),([60],9),([62],11),([37],13)]
def opL (l:List Int):List (List Int × Int)→Option (Int × Nat)
 | []=>none
 |(s,k)::r=>if l.take s.length=s then some (k,s.length) else opL l r
def eL (c:Int):Bool:=decide (32≤c) && decide (c≤126)
def aD (b:ByteArray):List Int:=b.data.toList.map fun c=>(c.toNat:Int)
theorem aH (b:ByteArray):(aD b).length=b.size:=by simp [aD]
theorem tC (b:ByteArray) (i:Nat) (h:i<b.size):(aD b)[i]'(by rw [aH];exact h)=(b[i].toNat:Int):=by
 simp [aD];rfl
instance iN1:DecidableEq Rct:=fun a b=>decidable_of_iff (eqR a b=true) nK
instance iN2:DecidableEq Nd:=fun a b=>decidable_of_iff (eqN a b=true) Sn
theorem w9 (a b:Rct):eqR a b=decide (a=b):=by rw [XY,nK];simp
structure Rf where
 col:Int
 row:Int
def aq (a:Rf):List Value:= [.int .i64 a.col,.int .i64 a.row]
theorem bD (a:Rf):(aq a).length=2:=rfl
def eqF (a b:Rf):Bool:=decide (a.col=b.col) && decide (a.row=b.row)
theorem xa {a b:Rf}:eqF a b=true↔a=b:=by
 obtain ⟨a1,a2⟩:=a;obtain ⟨b1,b2⟩:=b;simp [eqF]
instance iN3:DecidableEq Rf:=fun a b=>decidable_of_iff (eqF a b=true) xa
theorem Dq (a b:Rf):eqF a b=decide (a=b):=by rw [XY,xa];simp
def Rf.valid (a:Rf):Bool:=Go.SL.valid a.col a.row
structure Us where
 rect:Rct
 node:Int
 fn:Int
def bP (u:Us):List Value:= [.int .i64 u.rect.c1,.int .i64 u.rect.r1,.int .i64 u.rect.c2,.int .i64 u.rect.r2,.int .i64 u.node,.int .u8 u.fn]
theorem lp (u:Us):(bP u).length=6:=rfl
def eqU (a b:Us):Bool:=eqR a.rect b.rect && (decide (a.node=b.node) && decide (a.fn=b.fn))
theorem Sm {a b:Us}:eqU a b=true↔a=b:=by
 obtain ⟨a1,a2,a3⟩:=a;obtain ⟨b1,b2,b3⟩:=b;simp [eqU,nK]
instance iN4:DecidableEq Us:=fun a b=>decidable_of_iff (eqU a b=true) Sm
structure Tk where
 kind:Int
 num:Int
 text:ByteArray
 rect:Rct
 at_:Int
def fg (t:Tk):List Value:= [.int .u8 t.kind,.int .i64 t.num,.string t.text,.int .i64 t.rect.c1,.int .i64 t.rect.r1,.int .i64 t.rect.c2,.int .i64 t.rect.r2,.int .i64 t.at_]
theorem MB (t:Tk):(fg t).length=8:=rfl
def rk:Tk:=⟨0,0,aS,⟨0,0,0,0⟩,0⟩
theorem Df (b:ByteArray) (i j:Nat):aD (b.extract i j)=((aD b).drop i).take (j - i):=by
 simp only [aD,ByteArray.data_extract,Array.toList_extract,List.extract_eq_take_drop,List.map_take,List.map_drop]
def jb (l:List Int):Prop:= ∀ c∈l,0≤c∧c<256
theorem qo (b:ByteArray):jb (aD b):=by
 intro c hc;simp only [aD,Xu] at hc;obtain ⟨u,_,rfl⟩:=hc;have:=u.toNat_lt;omega
theorem o3 {l:List Int} (h:jb l):aD (mkB l)=l:=by
 simp only [aD,mkB,YL];conv=>rhs;rw [← List.map_id l]
 apply YU;intro c hc;have:=h c hc;simp only [Function.comp,id_eq,UInt8.toNat_ofNat'];omega
theorem FT (b:ByteArray):mkB (aD b)=b:=by
 apply ByteArray.ext;apply Array.ext';simp only [mkB,aD,YL];conv=>rhs;rw [← List.map_id b.data.toList]
 apply YU;intro c _;simp [Function.comp]
theorem F7 {a b:ByteArray} (h:aD a=aD b):a=b:=by rw [← FT a,← FT b,h]
theorem fC (p:Int→Bool): ∀ l,bO p l≤l.length
 | []=>Xy _
 |c::r=>by
  simp only [bO];split
  ·have:=fC p r;simp;omega
  ·exact Xn _
theorem Fj {p:Int→Bool}: ∀ (l:List Int) (i:Nat) (c:Int),i<bO p l→l[i]? =some c→p c=true
 | [],i,c,h,_=>by simp [bO] at h
 |a::r,i,c,h,hc=>by
  simp only [bO] at h;split at h
  ·rename_i ha
   cases i with
   |zero=>simp at hc;subst hc;exact ha
   |succ i=>exact Fj r i c (by omega) (by simpa using hc)
  ·omega
section
variable {P:Program} {n:Fr} {w0:World} {Q:bK} {s:az} {H:List Blk} {l rest:List Oper} {ty:TypeId} {p:String} {af:Array Edge}
def gd:List Oper→Nat→Option Nat
 | [],_=>none
 |o::_,0=>o.dst
 |_::r,j+1=>gd r j
theorem VR (l:List Oper) (j:Nat):(l.toArray[j]?).bind (·.dst)=gd l j:=by
 rw [X4]
 induction l generalizing j with
 |nil=>simp [gd]
 |cons o l ih=>cases j with
  |zero=>simp [gd]
  |succ j=>simpa [gd] using ih j
def lz:Value→Option Bool
 | .bool b=>some b
 |_=>none
theorem ia {a:Act} {j d:Nat} {v:Value} (hs:St n s a) (hj:gd l j=some d) (hv:look s d=some v):
 yielded l.toArray a.tmps j=lz v:=by
 unfold yielded;rw [VR,hj];simp [hs.has d v hv];cases v<;>rfl
theorem QK {op:Op} {dst:Option Tmp} {j d:Nat} {dg:Bool} (hj:gd l j=some d) (hv:look s d=some (.bool dg))
 (k:WL P n w0 l.toArray (⟨dst,op,ty,p,af,none⟩::rest) Q s H):WL P n w0 l.toArray (⟨dst,op,ty,p,af,some (j,dg)⟩::rest) Q s H:=by
 intro a w hs hm;have h:=k a w hs hm;have hy:=ia hs hj hv;simp only [wpList,Region.wanted,if_true] at h;simp only [wpList,Region.wanted,hy,lz,beq_self_eq_true,if_true];exact h
theorem Nq {op:Op} {dst j d:Nat} {dg:Bool} {v:Value} (hj:gd l j=some d) (hv:look s d=some v) (hw:lz v≠some dg) (hn:Nat.blt dst n.sz=true)
 (k:WL P n w0 l.toArray rest Q ((dst,undef)::s) H):WL P n w0 l.toArray (⟨some dst,op,ty,p,af,some (j,dg)⟩::rest) Q s H:=by
 intro a w hs hm;have hy:=ia hs hj hv;have:(yielded l.toArray a.tmps j==some dg)=false:=by rw [hy];simpa using hw
 simp only [wpList,Region.wanted,this];exact k _ _ (hs.put (Yg ▸ hn) _) hm
theorem St.shadow {a:Act} {d:Nat} {v:Value} (hs:St n s a) (hv:look s d=some v):St n ((d,v)::s) a:=
 ⟨hs.size,hs.defers,fun t u hu=>by
  rw [js] at hu;by_cases e:d=t
  ·subst e;rw [if_pos rfl] at hu;exact hs.has d u (hv.trans hu)
  ·rw [if_neg e] at hu;exact hs.has t u hu⟩
theorem KY {op:Op} {dst:Option Tmp} {j d:Nat} {dg b:Bool} (_hj:gd l j=some d) (hv:look s d=some (.bool b))
 (k1:b=true→WL P n w0 l.toArray (⟨dst,op,ty,p,af,some (j,dg)⟩::rest) Q ((d,.bool true)::s) H)
 (k2:b=false→WL P n w0 l.toArray (⟨dst,op,ty,p,af,some (j,dg)⟩::rest) Q ((d,.bool false)::s) H):
 WL P n w0 l.toArray (⟨dst,op,ty,p,af,some (j,dg)⟩::rest) Q s H:=by
 intro a w hs hm
 cases b with
 |true=>exact k1 rfl a w (hs.shadow hv) hm
 |false=>exact k2 rfl a w (hs.shadow hv) hm
theorem sj {op:Op} {H' :List Blk} {ops:Array Oper} (h: ∀ a w,St n s a→Mem w0 w H→ ∃ w',(execOp a.eval ⟨none,op,ty,p,af,none⟩).run P w= .ok .skip w' ∧Mem w0 w' H')
 (k:WL P n w0 ops rest Q s H'):WL P n w0 ops (⟨none,op,ty,p,af,none⟩::rest) Q s H:=by
 intro a w hs hm;obtain ⟨w',hr,hm'⟩:=h a w hs hm;refine wpList_plain rfl fun K hK=> ?_;simp only [Oper.wp,hr,Oper.upon];exact hK _ _ (k _ _ (hs.put_none _) hm')
theorem f9 {w:World} {t T g off:Nat} {cur:Array Value} {v:Value} {vs:List Value} {m:Nat} [hz:Size P t m] (hv:v.cells=vs.toArray) (hl:vs.length=m) (h1: ∀ u∈vs,u.oneCell' =true)
 (hg:w.heap[g]? =some (.cells cur T (0,0))) (hfit:off+m≤cur.size):
 (storeVar t ⟨g,off,none⟩ v).run P w= .ok () (w.setRow g (cur.toList.take off++vs++cur.toList.drop (off+m)).toArray):=by
 obtain ⟨i,hi,hs⟩:=hz.out;have hst:=run_storeCells_at P g off T vs 0 cur w hg (by simpa [hl] using hfit) h1;simp only [ZP,hl] at hst;have hsz:v.cells.size=i.size:=by rw [hv,hs,← hl];simp
 have hsz' :vs.length=i.size:=hl.trans hs.symm;simp [storeVar,sizeOf,typeInfo,hi,hsz',hv,hst]
theorem dP (w:World) (g:Nat) (cs:Array Value):w.grownBy (w.setRow g cs) (some g):=
 ⟨rfl,rfl,rfl,by simp,fun k _ hk=>setRow_other w g k _ (fun e=>hk (by rw [e]))⟩
theorem xp {ops:Array Oper} {t T g off m:Nat} {x a:Operand} {xs vs:List Value} {v:Value} {R:List Blk} [Size P t m] (ha:ev s a=some (.pointer (some ⟨g,off,none⟩))) (hx:ev s x=some v)
 (hsel:Sel (.box g T xs) H R) (hv:v.cells=vs.toArray) (hl:vs.length=m) (h1: ∀ u∈vs,u.oneCell' =true) (hfit:off+m≤xs.length)
 (k:WL P n w0 ops rest Q s (.box g T (xs.take off++vs++xs.drop (off+m))::R)):WL P n w0 ops (⟨none,.store t a x,ty,p,af,none⟩::rest) Q s H:=by
 refine sj (fun a' w hs hm=> ?_) k;have hm' :=hm.sel hsel;have hb:=(hm'.on _ Xb).1;simp only [Blk.on] at hb;have hr:=f9 (P:=P) (t:=t) (off:=off) hv hl h1 hb (by simpa using hfit);simp only at hr;refine ⟨_,?_,hm'.upd (dP _ _ _) (b' := .box g T (xs.take off++vs++xs.drop (off+m))) (setRow_heap _ _ _ _ _ _ hb) fun k hk=> .inl hk⟩;simp [execOp,hs.eval a _ ha,hs.eval x _ hx,Instr.storeAt,Instr.sureAddr,hr]
theorem oI (xs:List Value) (off:Nat) (v:Value) (h:off<xs.length):xs.take off++ [v]++xs.drop (off+1)=xs.set off v:=by
 rw [List.set_eq_take_append_cons_drop,if_pos h];simp
theorem B6 {ops:Array Oper} {t T g off:Nat} {x a:Operand} {xs:List Value} {v:Value} {R:List Blk} [Size P t 1] (ha:ev s a=some (.pointer (some ⟨g,off,none⟩))) (hx:ev s x=some v)
 (hsel:Sel (.box g T xs) H R) (hv:v.oneCell' =true) (hfit:Nat.blt off xs.length=true)
 (k:WL P n w0 ops rest Q s (.box g T (xs.set off v)::R)):WL P n w0 ops (⟨none,.store t a x,ty,p,af,none⟩::rest) Q s H:=by
 have hf:off<xs.length:=by simpa using hfit
 refine xp (m:=1) ha hx hsel (vs:= [v]) (by cases v<;>first|rfl|cases hv) rfl (by simpa using hv) (by omega) ?_;rw [oI _ _ _ hf];exact k
theorem xo {ops:Array Oper} {t T g off m sz n' c:Nat} {x a:Operand} {xs vs:List Value} {v:Value} {R:List Blk} [Size P t m] (ha:ev s a=some (.pointer (some ⟨g,off,none⟩))) (hx:ev s x=some v)
 (hsel:Sel (.own (some g) T sz n' c xs) H R) (hv:v.cells=vs.toArray) (hl:vs.length=m) (h1: ∀ u∈vs,u.oneCell' =true) (hfit:off+m≤xs.length)
 (k:WL P n w0 ops rest Q s (.own (some g) T sz n' c (xs.take off++vs++xs.drop (off+m))::R)):WL P n w0 ops (⟨none,.store t a x,ty,p,af,none⟩::rest) Q s H:=by
 refine sj (fun a' w hs hm=> ?_) k;have hm' :=hm.sel hsel;obtain ⟨h2,h3,h4,junk,h5,hb⟩:=(hm'.on _ Xb).1;have hr:=f9 (P:=P) (t:=t) (off:=off) hv hl h1 hb (by simp;omega);simp only at hr;have he:(xs++junk).take off++vs++(xs++junk).drop (off+m)=(xs.take off++vs++xs.drop (off+m))++junk:=by
  rw [YP (by omega),ZD hfit];simp
 rw [he] at hr;have hlen:(xs.take off++vs++xs.drop (off+m)).length=xs.length:=by simp;omega
 refine ⟨_,?_,hm'.upd (dP _ _ _) (b' := .own (some g) T sz n' c (xs.take off++vs++xs.drop (off+m)))
  ⟨hlen.trans h2,h3,h4,junk,by rw [Xa,hlen,← Xa];exact h5,setRow_heap _ _ _ _ _ _ hb⟩ fun k hk=> .inl hk⟩
 simp [execOp,hs.eval a _ ha,hs.eval x _ hx,Instr.storeAt,Instr.sureAddr,hr]
theorem eF {ops:Array Oper} {t T g off sz n' c:Nat} {x a:Operand} {xs:List Value} {v:Value} {R:List Blk} [Size P t 1] (ha:ev s a=some (.pointer (some ⟨g,off,none⟩))) (hx:ev s x=some v)
 (hsel:Sel (.own (some g) T sz n' c xs) H R) (hv:v.oneCell' =true) (hfit:off<xs.length)
 (k:WL P n w0 ops rest Q s (.own (some g) T sz n' c (xs.set off v)::R)):WL P n w0 ops (⟨none,.store t a x,ty,p,af,none⟩::rest) Q s H:=by
 refine xo (m:=1) ha hx hsel (vs:= [v]) (by cases v<;>first|rfl|cases hv) rfl (by simpa using hv) (by omega) ?_;rw [oI _ _ _ hfit];exact k
theorem oq {op:Op} {d:Nat} {ops:Array Oper} (hn:Nat.blt d n.sz=true) {B:Nat→Blk} {v:Nat→Value}
 (h: ∀ a w,St n s a→Mem w0 w H→ ∃ w',(execOp a.eval ⟨some d,op,ty,p,af,none⟩).run P w= .ok (.value (v w.heap.size)) w' ∧w.grownBy w' none∧(B w.heap.size).on w' ∧(B w.heap.size).key=some w.heap.size)
 (k: ∀ g,WL P n w0 ops rest Q ((d,v g)::s) (B g::H)):WL P n w0 ops (⟨some d,op,ty,p,af,none⟩::rest) Q s H:=by
 intro a w hs hm;obtain ⟨w',hr,hg,hb,hk⟩:=h a w hs hm;refine wpList_plain rfl fun K hK=> ?_;simp only [Oper.wp,hr,Oper.upon];refine hK _ _ (k w.heap.size _ _ (hs.put (Yg ▸ hn) _) (hm.new hg hb fun k hk' => ?_));rw [hk] at hk';injection hk' with hk';omega
class ZeroC (P:Program) (t:TypeId) (zs:outParam (List Value)):Prop where
 out: ∃ i z,P.info? t=some i∧i.zero=some z∧z.cells=zs.toArray
theorem Nt {d t:Nat} {zs:List Value} {ops:Array Oper} [hz:ZeroC P t zs] (hn:Nat.blt d n.sz=true)
 (k: ∀ g,WL P n w0 ops rest Q ((d,.pointer (some ⟨g,0,none⟩))::s) (.box g t zs::H)):WL P n w0 ops (⟨some d,.alloc t,ty,p,af,none⟩::rest) Q s H:=by
 refine oq (B:=fun g=> .box g t zs) (v:=fun g=> .pointer (some ⟨g,0,none⟩)) hn (fun a w hs hm=> ?_) k;obtain ⟨i,z,h1,h2,h3⟩:=hz.out;refine ⟨w.alloc (.cells z.cells t),?_,World.grownBy_alloc w _ none,?_,rfl⟩
 ·simp [execOp,Instr.alloc,zeroValue,typeInfo,h1,h2,newVar,newRow]
 ·simp only [Blk.on,← h3];exact heap_alloc_new w _
theorem Ns {d t:Nat} {x:Operand} {v:Value} {vs:List Value} {ops:Array Oper} (hn:Nat.blt d n.sz=true) (hx:ev s x=some v) (hv:v.cells=vs.toArray)
 (k: ∀ g,WL P n w0 ops rest Q ((d,.pointer (some ⟨g,0,none⟩))::s) (.box g t vs::H)):WL P n w0 ops (⟨some d,.box t x,ty,p,af,none⟩::rest) Q s H:=by
 refine oq (B:=fun g=> .box g t vs) (v:=fun g=> .pointer (some ⟨g,0,none⟩)) hn (fun a w hs hm=> ?_) k;refine ⟨w.alloc (.cells v.cells t),?_,World.grownBy_alloc w _ none,?_,rfl⟩
 ·simp [execOp,hs.eval x _ hx,Instr.box,newVar,newRow]
 ·simp only [Blk.on,← hv];exact heap_alloc_new w _
theorem QL {d t:Nat} {x:Operand} {vs:List Value} {ops:Array Oper} (hn:Nat.blt d n.sz=true) (hx:ev s x=some (.agg vs.toArray))
 (k: ∀ g,WL P n w0 ops rest Q ((d,.pointer (some ⟨g,0,none⟩))::s) (.box g t vs::H)):WL P n w0 ops (⟨some d,.box t x,ty,p,af,none⟩::rest) Q s H:=
 Ns hn hx rfl k
theorem QM {d t:Nat} {x:Operand} {v:Value} {ops:Array Oper} (hn:Nat.blt d n.sz=true) (hx:ev s x=some v) (hv:v.oneCell' =true)
 (k: ∀ g,WL P n w0 ops rest Q ((d,.pointer (some ⟨g,0,none⟩))::s) (.box g t [v]::H)):WL P n w0 ops (⟨some d,.box t x,ty,p,af,none⟩::rest) Q s H:=
 Ns hn hx (by cases v<;>first|rfl|cases hv) k
theorem Blk.own_of {w:World} {g e sz m c:Nat} {xs:List Value} (hg:w.heap[g]? =some (.cells xs.toArray e (0,0))) (hl:xs.length=m*sz) (hc:m=c) (hm:c≤maxLen):(Blk.own (some g) e sz m c xs).on w:=by
 subst hc;exact ⟨hl,Xy _,hm,[],by simpa using hl,by simpa using hg⟩
def wK:List Value→Option (List Value)
 | []=>some []
 |x::r=>match wK r with
  |some r' =>some (x::r')
  |none=>none
theorem jD: ∀ {xs ys:List Value},wK xs=some ys→ys=xs
 | [],ys,h=>by simp only [wK,Option.some.injEq] at h;exact h.symm
 |x::r,ys,h=>by
  simp only [wK] at h;split at h
  ·rename_i r' hr;simp only [Option.some.injEq] at h;rw [← h,jD hr]
  ·cases h
def evd (s:az):List (Nat × Operand)→Nat→Option (List Value)
 | [],_=>some []
 |(i,x)::r,k=>bif Nat.beq i k then (match ev s x,evd s r (k+1) with|some v,some vs=>some (v::vs)|_,_=>none) else none
theorem w8 {a:Act} (hs:St n s a): ∀ {ps:List (Nat × Operand)} {vs:List Value} {k:Nat},evd s ps k=some vs→(ps.map fun (x:Nat × Operand)=>(x.1,a.eval x.2))=(vs.zipIdx k).map fun x=>(x.2,x.1)
 | [],vs,k,h=>by simp only [evd,Option.some.injEq] at h;simp [← h]
 |(i,x)::r,vs,k,h=>by
  simp only [evd] at h
  cases hb:Nat.beq i k with
  |false=>rw [hb] at h;cases h
  |true=>
   have hik:=X7 hb;rw [hb] at h;simp only [cond_true] at h;split at h
   ·rename_i v vs' hv hvs;simp only [Option.some.injEq] at h;rw [← h,XD,w8 hs hvs,ZY,XD,hs.eval x v hv,hik]
   ·cases h
def rS (vs:List Value):List Value:=vs.flatMap fun v=>v.cells.toList
def AP (sz:Nat):List Value→Bool
 | []=>true
 |v::r=>Nat.beq v.cells.size sz && AP sz r
theorem p9 {sz:Nat}: ∀ {vs:List Value},AP sz vs=true→ ∀ v∈vs,v.cells.size=sz
 | [],_,v,hv=>by cases hv
 |u::r,h,v,hv=>by
  simp only [AP,Xo] at h;rcases Xt.1 hv with rfl|hv
  ·exact X7 h.1
  ·exact p9 h.2 v hv
theorem vQ {sz:Nat}: ∀ {vs:List Value},(∀ v∈vs,v.cells.size=sz)→(rS vs).length=vs.length*sz
 | [],_=>by simp [rS]
 |v::r,h=>by
  have ih:=vQ (vs:=r) (fun u hu=>h u (Xp _ hu));have hv:=h v Xb;simp only [rS,Xx,Xa,Array.length_toList,Xs,Y7,Z5] at ih ⊢;omega
theorem zE {d t e m sz by_:Nat} {ps:List (Nat × Operand)} {vs xs:List Value} {ops:Array Oper} [ht:Und P t (.slice e)] [he:Elem P e sz by_] (hn:Nat.blt d n.sz=true) (hps:evd s ps 0=some vs)
 (hl:vs.length=m) (hsz:AP sz vs=true) (hx:wK (rS vs)=some xs) (hm0:Nat.blt 0 m=true) (hsm:Nat.ble (m*sz) 16777216=true)
 (k: ∀ g,WL P n w0 ops rest Q ((d,.slice (some ⟨g,0,none⟩) m m)::s) (.own (some g) e sz m m xs::H)):WL P n w0 ops (⟨some d,.buildSlice t m ps.toArray,ty,p,af,none⟩::rest) Q s H:=by
 refine oq (B:=fun g=> .own (some g) e sz m m xs) (v:=fun g=> .slice (some ⟨g,0,none⟩) m m) hn (fun a w hs hm=> ?_) k;obtain ⟨i,z,h1,h2,h3,h4,h5,h6⟩:=he.out;have hm1:0<m:=by simpa using hm0
 have hsm1:m*sz≤16777216:=by simpa using hsm
 have hall:=p9 hsz;have hlen:xs.length=m*sz:=by rw [jD hx,vQ hall,hl]
 have hfill:=Great.fill_whole h6 vs ((Array.range (m*i.size)).map (z.cells[· % z.cells.size]!)) hall (by simp [hl,h2]);rw [← w8 hs hps] at hfill;have hr:=run_buildSlice (P:=P) w t e m (ps.map fun x=>(x.1,a.eval x.2)).toArray _ i z ht.out h1 h4 (by rw [h2];omega) (by rw [h2];exact Nat.ne_of_gt (Nat.mul_pos hm1 h6)) (by rw [h2] at hfill ⊢;exact hfill);refine ⟨_,?_,World.grownBy_alloc w _ none,Blk.own_of (e:=e) (xs:=xs) (by rw [jD hx];exact heap_alloc_new w _) hlen rfl ?_,rfl⟩
 ·simp only [execOp,Y0];simp only [Sem.run_bind,hr,Result.andThen_ok,Sem.run_pure,rS]
 ·have:m≤m*sz:=Nat.le_mul_of_pos_right m h6;simp only [maxLen];omega
theorem aN {d t e n' c m c' g2 o2 sz by_:Nat} {A:Option Nat} {x y:Operand} {xs news:List Value} {R:List Blk} {ops:Array Oper} [ht:Und P t (.slice e)] [he:Elem P e sz by_] (hn:Nat.blt d n.sz=true)
 (hx:ev s x=some (sl A n' c)) (hy:ev s y=some (.slice (some ⟨g2,o2,none⟩) m c')) (hsel:Sel (.own A e sz n' c xs) H R)
 (hnews: ∀ w,Mem w0 w H→Cells w g2 o2 news) (hl:news.length=m*sz) (h1: ∀ u∈news,u.oneCell' =true) (hby:(n' +m)*by_≤140737488355328) (h63:n' +m≤maxLen)
 (k: ∀ A' cap',(0<n' +m→ ∃ g,A' =some g)→WL P n w0 ops rest Q ((d,sl A' (n' +m) cap')::s) (.own A' e sz (n' +m) cap' (xs++news)::R)):
 WL P n w0 ops (⟨some d,.call { callee:= .builtin .append,args:= #[x,y],argTypes:= #[t,t] },ty,p,af,none⟩::rest) Q s H:=by
 intro a w hs hm;have hm' :=hm.sel hsel;obtain ⟨i,z,i1,i2,i3,i4,i5,i6⟩:=he.out;have hb:=(hm'.on _ Xb);have hown:w.ownsRow w0.heap.size e sz (sl A n' c) n' xs:=by
  obtain ⟨⟨b1,b2,b3,b4⟩,b5⟩:=hb;refine ⟨b1,?_⟩
  cases A with
  |none=>obtain ⟨rfl,rfl⟩:=b4;exact .inl ⟨rfl,rfl⟩
  |some g=>
   obtain ⟨junk,j1,j2⟩:=b4;refine .inr ⟨g,c,_,rfl,b5 g rfl,j2,b2,b3,by simpa using j1,?_⟩;simp only [ZB];rw [← b1,ZL]
 obtain ⟨v',w',hr,h2,h3,h4,h5⟩:=run_append_own_at (P:=P) w w0.heap.size t ty e i z sz by_ ht.out i1 i4 i2 i3 i5 i6 (sl A n' c) n' xs hown ⟨g2,o2,none⟩ m c' news hl
  (fun j u hu=>by rw [cH];exact hnews w hm j u hu) h1 h63 hby hm.below.size
 have hsh: ∃ A' cap',v' =sl A' (n' +m) cap' ∧(Blk.own A' e sz (n' +m) cap' (xs++news)).on w' ∧(0<n' +m→ ∃ g,A' =some g):=by
  obtain ⟨q1,q2⟩:=h2;rcases q2 with ⟨rfl,q3⟩|⟨g,cap,cur,rfl,_,q4,q5,q6,q7,q8⟩
  ·refine ⟨none,0,by rw [q3];rfl,⟨q1,by omega,Xn _,q3,rfl⟩,fun h=>by omega⟩
  ·refine ⟨some g,cap,rfl,⟨q1,q5,q6,cur.toList.drop ((n' +m)*sz),?_,?_⟩,fun _=>⟨g,rfl⟩⟩
   ·rw [← q8,YD];simpa using q7
   ·rw [← q8,YD];simpa using q4
 obtain ⟨A',cap',rfl,hon,hsome⟩:=hsh;refine wpList_plain rfl fun K hK=> ?_;unfold Oper.wp execOp;simp only [resolve,invoke,builtin,Sem.run_bind,Sem.run_pure,Result.andThen_ok,Y0,XD,XR,hs.eval x _ hx,hs.eval y _ hy,hr,Oper.upon];have hkey: ∀ (B:Option Nat) (q r:Nat),(sl B q r).ownBlock=B:=fun B q r=>by cases B<;>rfl
 rw [hkey] at h3;refine hK _ _ (k A' cap' hsome _ _ (hs.put (Yg ▸ hn) _) (hm'.upd h3 hon fun j hj=> ?_));rw [hkey,hkey] at h5;simp only [Blk.key] at hj ⊢;rcases h5 with h5|h5
 ·left;rw [← h5];exact hj
 ·right;rw [h5] at hj;injection hj with hj;omega
theorem aF {c:Code} (e sz:Nat) (k:W P n w0 c Q s (.own none e sz 0 0 []::H)):W P n w0 c Q s H:=fun a w hs hm=>
 k a w hs (hm.new (b:= .own none e sz 0 0 []) ⟨rfl,rfl,rfl,Xy _,fun _ _ _=>rfl⟩ ⟨by simp,Xy _,Xn _,rfl,rfl⟩ (fun k hk=>by cases hk))
theorem Cg {ops:Array Oper} {H' :List Blk} (hH:MSub H' H) (h:WL P n w0 ops rest Q s H'):WL P n w0 ops rest Q s H:=
 fun a w hst hm=>h a w hst (hH.use hm)
theorem Nl {d t e lo hi m c sz:Nat} {A:Option Addr} {x:Operand} {xl xh:Option Operand} {ops:Array Oper} [ht:Und P t (.slice e)] [hz:Size P e sz] (hn:Nat.blt d n.sz=true) (hx:ev s x=some (.slice A m c))
 (hxl:match xl with|none=>lo=0|some q=> ∃ k,ev s q=some (.int k (lo:Nat))) (hxh:match xh with|none=>hi=m|some q=> ∃ k,ev s q=some (.int k (hi:Nat))) (h1:lo≤hi) (h2:hi≤c)
 (k: ∀ B,(B=if c=lo then A else A.map (·.add (lo*sz)))→WL P n w0 ops rest Q ((d,.slice B (hi - lo) (c - lo))::s) H):WL P n w0 ops (⟨some d,.slice t x xl xh none,ty,p,af,none⟩::rest) Q s H:=by
 refine wQ rfl d rfl hn (fun a w hs hm=> ?_) (k _ rfl);obtain ⟨i,hi1,hi2⟩:=hz.out;have e1:((lo:Nat):Int)≤((hi:Nat):Int):=by omega
 have e2:((hi:Nat):Int)≤((c:Nat):Int):=by omega
 have e3:((0:Nat):Int)≤((hi:Nat):Int):=by omega
 cases xl with
 |none=>
  cases xh with
  |none=>
   simp only at hxl hxh;subst hxl hxh;simp [execOp,hs.eval x _ hx,Instr.sliceAt,run_underlying ht.out,Instr.slice,Instr.sliceBounds,sizeOf,typeInfo,hi1]
  |some q=>
   simp only at hxl hxh;subst hxl;obtain ⟨kk,hq⟩:=hxh;simp [execOp,hs.eval x _ hx,hs.eval q _ hq,Instr.sliceAt,run_underlying ht.out,Instr.slice,Instr.sliceBounds,Instr.sliceBound,asIntOf,sizeOf,typeInfo,hi1,h2]
 |some ql=>
  obtain ⟨kl,hql⟩:=hxl
  cases xh with
  |none=>
   simp only at hxh;subst hxh;simp [execOp,hs.eval x _ hx,hs.eval ql _ hql,Instr.sliceAt,run_underlying ht.out,Instr.slice,Instr.sliceBounds,Instr.sliceBound,asIntOf,sizeOf,typeInfo,hi1,hi2,h1]
  |some q=>
   obtain ⟨kk,hq⟩:=hxh;simp [execOp,hs.eval x _ hx,hs.eval q _ hq,hs.eval ql _ hql,Instr.sliceAt,run_underlying ht.out,Instr.slice,Instr.sliceBounds,Instr.sliceBound,asIntOf,sizeOf,typeInfo,hi1,hi2,h1,h2]
end
theorem GA {s:az} {ρ:Operand→Value} (hρ: ∀ x u,ev s x=some u→ρ x=u): ∀ {ps:List (Nat × Operand)} {vs:List Value} {k:Nat},evd s ps k=some vs→(ps.map fun (x:Nat × Operand)=>(x.1,ρ x.2))=(vs.zipIdx k).map fun x=>(x.2,x.1)
 | [],vs,k,h=>by simp only [evd,Option.some.injEq] at h;simp [← h]
 |(i,x)::r,vs,k,h=>by
  simp only [evd] at h
  cases hb:Nat.beq i k with
  |false=>rw [hb] at h;cases h
  |true=>
   have hik:=X7 hb;rw [hb] at h;simp only [cond_true] at h;split at h
   ·rename_i v vs' hv hvs;simp only [Option.some.injEq] at h;rw [← h,XD,GA hρ hvs,ZY,XD,hρ x v hv,hik]
   ·cases h
theorem pX {P:Program} {w0:World} {s:az} {H:List Blk} {ty:TypeId} {t e m sz:Nat} {ps:List (Nat × Operand)} {vs xs zs:List Value} [ht:Und P t (.array m e)] [he:Size P e sz] [hz:ZeroC P t zs] (hps:evd s ps 0=some vs)
 (hs0:Nat.blt 0 sz=true) (hl:Nat.beq (vs.length*sz) zs.length=true) (h1:AP sz vs=true) (hx:wK (rS vs)=some xs):VOp P w0 s H (.build t ps.toArray) ty (.agg xs.toArray):=fun ρ w _ _ _ _ hρ _=>by
 obtain ⟨it,z,i1,i2,i3⟩:=hz.out;obtain ⟨ie,j1,j2⟩:=he.out;have hall:=p9 h1;have hlen:=X7 hl;have hfill:=Great.fill_whole (s:=sz) (by simpa using hs0) vs z.cells hall (by rw [i3];simp [hlen]);rw [← GA hρ hps] at hfill;have hb:P.built t (ps.map fun (x:Nat × Operand)=>(x.1,ρ x.2))=some (rS vs).toArray:=by
  unfold Program.built;simp only [i1,ht.out,i2,j1,j2];exact hfill
 have hr:=run_build (P:=P) w t (ps.map fun (x:Nat × Operand)=>(x.1,ρ x.2)).toArray (rS vs).toArray (by simpa using hb);rw [jD hx];simp only [execOp,Y0];simp only [Sem.run_bind,hr,Result.andThen_ok,Sem.run_pure]
structure STree where
 ns:List Nd
 d:Nat
def STree.kind (S:STree):Int:=((S.ns.getLast?).map Nd.kind).getD 0
def WN (n:Nd) (i:Int) (k:Int):Bool:= !(decide (k=3) && !Kw n i) && !(decide (n.kind=7) && mh n.fn && decide (k≠2) && decide (k≠3))
def Pw (n:Nd):Int→List STree→Bool
 |_,[]=>true
 |i,S::r=>WN n i S.kind && Pw n (i+1) r
def Pa (st:List STree) (k:Nat):List STree:=st.drop (st.length - k)
def Jq (top:List STree):Nat:=top.foldl (fun d S=>max d (S.d+1)) 1
def Bw (st:List STree):List Nd:=st.flatMap STree.ns
def Ku (n:Nd) (top:List STree):STree:=⟨Bw top++ [n],Jq top⟩
def VA (n:Nd) (st:List STree):Int ⊕ (List STree × List STree):=
 if dU n≠0 then .inl (dU n)
 else if (st.length:Int)<below n∨Pw n 0 (Pa st (below n).toNat)=false then .inl 4
 else if 32<Jq (Pa st (below n).toNat) then .inl 9
 else .inr (st.take (st.length - (below n).toNat),Pa st (below n).toNat)
abbrev JO:=List (List STree × STree)
def SZ:List Nd→List STree→JO→Int × List STree × JO
 | [],st,h=>(if st.length=1 then 0 else 4,st,h)
 |n::r,st,h=>match VA n st with
  | .inl e=>(e,st,h)
  | .inr (lo,top)=>SZ r (lo++ [Ku n top]) (h++ [(top,Ku n top)])
inductive Good:STree→Prop
 |mk (n:Nd) (top:List STree) (hg: ∀ S∈top,Good S) (hf:dU n=0) (hb:(top.length:Int)=Go.SL.below n) (hfit:Pw n 0 top=true) (hd:Jq top≤32):Good (Ku n top)
def mf:Nat→List STree→List Nat
 |_,[]=> []
 |o,S::r=>(o+S.ns.length - 1)::mf (o+S.ns.length) r
def lo (i:Nat) (x:List STree × STree):Nat:=i+1 - x.2.ns.length
def yI (i:Nat) (x:List STree × STree):List Nat:=mf (lo i x) x.1
structure Inv (dn:List Nd) (st:List STree) (h:JO):Prop where
 rS:Bw st=dn
 good: ∀ S∈st,Good S
 len:h.length=dn.length
 node: ∀ i x,h[i]? =some x→ ∃ n,dn[i]? =some n∧x.2=Ku n x.1∧(∀ T∈x.1,Good T)∧Good x.2∧x.2.ns.length≤i+1∧(dn.take (i+1)).drop (lo i x)=x.2.ns
 deep: ∀ x∈h,∃ S∈st,x.2.d≤S.d
 cut: ∀ a b,st=a++b→ ∀ j x,h[j]? =some x→(Bw a).length≤j→(Bw a).length≤lo j x
 lam: ∀ i j x y,h[i]? =some x→h[j]? =some y→j≤i→lo i x≤j→lo i x≤lo j y
 mid: ∀ i j x y,h[i]? =some x→h[j]? =some y→ ∀ k∈yI j y,k<i→i<j→k<lo i x
 up: ∀ k<h.length,k∈mf 0 st∨ ∃ j y,h[j]? =some y∧k∈yI j y
 apart: ∀ j y,h[j]? =some y→ ∀ k∈yI j y,k∉mf 0 st
 one: ∀ i j x y,h[i]? =some x→h[j]? =some y→ ∀ k,k∈yI i x→k∈yI j y→i=j
structure RootOk (st:List STree) (h:JO):Prop where
 root: ∀ a S b,st=a++S::b→ ∃ top,h[(Bw a).length+S.ns.length - 1]? =some (top,S)
 kid: ∀ j y,h[j]? =some y→ ∀ a S b,y.1=a++S::b→ ∃ top,h[lo j y+(Bw a).length+S.ns.length - 1]? =some (top,S)
def Um (o:List Int) (ks:List Nat) (v:Int):List Int:=ks.foldl (fun o k=>o.set k v) o
def RM (o:List Int) (x:(List STree × STree) × Nat):List Int:=Um (o++ [-1]) (yI x.2 x.1) (x.2:Int)
def Uu (h:JO):List Int:=h.zipIdx.foldl RM []
structure ParOk (st:List STree) (h:JO):Prop where
 len:(Uu h).length=h.length
 kid: ∀ j y,h[j]? =some y→ ∀ k∈yI j y,(Uu h)[k]? =some (j:Int)
 root: ∀ k∈mf 0 st,(Uu h)[k]? =some (-1)
structure Whole (L:List Nd) (S:STree) (h:JO):Prop where
 walk:SZ L [] []=(0,[S],h)
 ns:S.ns=L
 good:Good S
 inv:Inv L [S] h
 rootOk:RootOk [S] h
 parOk:ParOk [S] h
 pos:0<L.length
 last: ∃ top,h[L.length - 1]? =some (top,S)
end Go.SL
