/-
  Lemmas and walks, put together: Sl1 Pg Bt Sl28 Rb Cq Sl2 Sl16 Sl19 Md S5 Md2 Lx S6 Lx2 Sl3 Sl27.
-/
import Derived.Deep.LoopGhost
import Derived.Deep.Quiet
import Derived.Laws.OwnMore
import Derived.Maps.AppendAt
import Derived.WalkKit
import Derived.Deep.AppendSrc
import Derived.Great.BuildSlice
import Derived.Laws.Bits64
import Derived.Laws.IdiomRangeMap
import Derived.Laws.Pointers
import Derived.Laws.Slices
import Derived.LoopN
import Derived.OrdersIn
import Derived.RangeFuncOwn
import Derived.RangeFuncRecord
import Derived.RangeFuncSeq
import Derived.Recover
import Derived.Scope
import Derived.Test.YtpoafcnhplbkmaaGreatDoorChecked
import Derived.WalkSpells
import Derived.ChangeKeysEq
import Derived.Shelf.SlSortCmp.NoneTotal
import Derived.Deep.RegionHeld3
set_option linter.unusedSimpArgs false
set_option linter.unusedVariables false
set_option maxRecDepth 20000
namespace Go.SL
theorem QT:type_of% @List.length_append:=@List.length_append
theorem QU:type_of% @List.getElem?_eq_getElem:=@List.getElem?_eq_getElem
theorem QV:type_of% @List.cons_append:=@List.cons_append
theorem QW:type_of% @List.nil_append:=@List.nil_append
theorem QX:type_of% @List.length_singleton:=@List.length_singleton
theorem QY:type_of% @List.mem_cons_self:=@List.mem_cons_self
theorem QZ:type_of% @Nat.zero_le:=@Nat.zero_le
theorem Ra:type_of% @List.take_succ_eq_append_getElem:=@List.take_succ_eq_append_getElem
theorem Rc:type_of% @List.append_nil:=@List.append_nil
theorem Rd:type_of% @List.mem_singleton:=@List.mem_singleton
theorem Re:type_of% @List.append_eq:=@List.append_eq
theorem Rg:type_of% @Nat.le_refl:=@Nat.le_refl
theorem Rh:type_of% @List.mem_cons_of_mem:=@List.mem_cons_of_mem
theorem Rj:type_of% @List.getElem?_map:=@List.getElem?_map
theorem Rk:type_of% @List.length_cons:=@List.length_cons
theorem Rl:type_of% @List.flatMap_cons:=@List.flatMap_cons
theorem Rm:type_of% @List.getElem?_eq_some_iff:=@List.getElem?_eq_some_iff
theorem Rn:type_of% @List.drop_eq_getElem_cons:=@List.drop_eq_getElem_cons
theorem Rp:type_of% @List.flatMap_append:=@List.flatMap_append
theorem Rv:type_of% @Nat.zero_add:=@Nat.zero_add
theorem Rx:type_of% @List.append_assoc:=@List.append_assoc
theorem Ry:type_of% @List.getElem?_eq_none:=@List.getElem?_eq_none
theorem Rz:type_of% @List.mem_append:=@List.mem_append
theorem RA:type_of% @List.length_map:=@List.length_map
theorem RB:type_of% @Bool.and_eq_true:=@Bool.and_eq_true
theorem RC:type_of% @List.getElem?_append_left:=@List.getElem?_append_left
theorem RD:type_of% @Nat.le_trans:=@Nat.le_trans
theorem RE:type_of% @List.length_drop:=@List.length_drop
theorem RF:type_of% @List.mem_cons:=@List.mem_cons
theorem RG:type_of% @List.mem_map:=@List.mem_map
theorem RH:type_of% @List.mem_range:=@List.mem_range
theorem RI:type_of% @List.length_take:=@List.length_take
theorem RJ:type_of% @List.getD_eq_getElem?_getD:=@List.getD_eq_getElem?_getD
theorem RK:type_of% @List.drop_of_length_le:=@List.drop_of_length_le
theorem RL:type_of% @List.getElem_mem:=@List.getElem_mem
theorem RM:type_of% @List.getElem?_append_right:=@List.getElem?_append_right
theorem RN:type_of% @List.flatMap_nil:=@List.flatMap_nil
theorem RO:type_of% @List.perm_append_comm:=@List.perm_append_comm
theorem RP:type_of% @List.map_cons:=@List.map_cons
theorem RQ:type_of% @Array.getElem?_eq_some_iff:=@Array.getElem?_eq_some_iff
theorem RS:type_of% @List.take_length:=@List.take_length
theorem RT:type_of% @List.getElem?_range:=@List.getElem?_range
theorem RU:type_of% @List.findIdx?_eq_some_iff_getElem:=@List.findIdx?_eq_some_iff_getElem
theorem RV:type_of% @Nat.mul_one:=@Nat.mul_one
theorem RX:type_of% @List.getElem?_toArray:=@List.getElem?_toArray
theorem RY:type_of% @Bool.false_eq_true:=@Bool.false_eq_true
theorem RZ:type_of% @Array.getD_eq_getD_getElem?:=@Array.getD_eq_getD_getElem?
theorem R0:type_of% @Nat.eq_of_beq_eq_true:=@Nat.eq_of_beq_eq_true
theorem Sa:type_of% @Nat.blt_eq:=@Nat.blt_eq
theorem Sc:type_of% @Bool.eq_iff_iff:=@Bool.eq_iff_iff
theorem Sd:type_of% @List.take_append_drop:=@List.take_append_drop
theorem Se:type_of% @List.mapM_cons:=@List.mapM_cons
theorem Sf:type_of% @List.take_of_length_le:=@List.take_of_length_le
theorem Sg:type_of% @List.length_range:=@List.length_range
theorem Sh:type_of% @List.map_append:=@List.map_append
theorem Si:type_of% @List.mem_append_left:=@List.mem_append_left
theorem Sj:type_of% @List.mem_append_right:=@List.mem_append_right
theorem Sk:type_of% @List.mapM_nil:=@List.mapM_nil
theorem Sl:type_of% @List.eq_nil_of_length_eq_zero:=@List.eq_nil_of_length_eq_zero
theorem Sn:type_of% @List.drop_length:=@List.drop_length
theorem Sq:type_of% @Option.map_some:=@Option.map_some
theorem Sr:type_of% @Option.map_eq_some_iff:=@Option.map_eq_some_iff
theorem Ss:type_of% @Bool.true_and:=@Bool.true_and
theorem Su:type_of% @List.length_set:=@List.length_set
theorem Sw:type_of% @List.getElem?_drop:=@List.getElem?_drop
theorem Sx:type_of% @List.map_congr_left:=@List.map_congr_left
theorem Sy:type_of% @List.findIdx?_eq_none_iff:=@List.findIdx?_eq_none_iff
theorem Sz:type_of% @List.ext_getElem?:=@List.ext_getElem?
theorem SA:type_of% @List.take_succ_cons:=@List.take_succ_cons
theorem SB:type_of% @List.foldl_cons:=@List.foldl_cons
theorem SC:type_of% @Nat.add_assoc:=@Nat.add_assoc
theorem SD:type_of% @Bool.and_true:=@Bool.and_true
theorem SE:type_of% @List.map_nil:=@List.map_nil
theorem SF:type_of% @List.mem_of_mem_take:=@List.mem_of_mem_take
theorem SG:type_of% @Bool.false_and:=@Bool.false_and
theorem SH:type_of% @Array.getElem?_append_left:=@Array.getElem?_append_left
theorem SI:type_of% @List.all_eq_true:=@List.all_eq_true
theorem SJ:type_of% @List.pairwise_cons:=@List.pairwise_cons
theorem SK:type_of% @List.take_zero:=@List.take_zero
theorem SM:type_of% @List.mem_iff_getElem:=@List.mem_iff_getElem
theorem SN:type_of% @List.perm_append_comm_assoc:=@List.perm_append_comm_assoc
theorem SP:type_of% @List.drop_zero:=@List.drop_zero
theorem SQ:type_of% @Bool.and_false:=@Bool.and_false
theorem SR:type_of% @List.length_filter_le:=@List.length_filter_le
theorem SS:type_of% @Nat.lt_irrefl:=@Nat.lt_irrefl
theorem ST:type_of% @List.mem_filter:=@List.mem_filter
theorem SU:type_of% @List.headD_cons:=@List.headD_cons
theorem SV:type_of% @List.drop_drop:=@List.drop_drop
theorem SW:type_of% @Nat.lt_or_ge:=@Nat.lt_or_ge
theorem SX:type_of% @List.pairwise_append:=@List.pairwise_append
theorem SY:type_of% @Nat.eq_zero_or_pos:=@Nat.eq_zero_or_pos
theorem SZ:type_of% @List.map_map:=@List.map_map
theorem S9:type_of% @List.length_replicate:=@List.length_replicate
theorem Ta:type_of% @List.length_nil:=@List.length_nil
theorem Tb:type_of% @List.getElem_of_mem:=@List.getElem_of_mem
theorem Tc:type_of% @Bool.and_eq_false_iff:=@Bool.and_eq_false_iff
theorem Td:type_of% @Nat.sub_zero:=@Nat.sub_zero
theorem Te:type_of% @List.nodup_cons:=@List.nodup_cons
theorem Tf:type_of% @Array.size_push:=@Array.size_push
theorem Tg:type_of% @Nat.add_mul:=@Nat.add_mul
theorem Th:type_of% @Nat.add_comm:=@Nat.add_comm
theorem Ti:type_of% @List.size_toArray:=@List.size_toArray
theorem Tl:type_of% @List.getElem?_take_of_lt:=@List.getElem?_take_of_lt
theorem Tm:type_of% @Nat.min_eq_left:=@Nat.min_eq_left
theorem Tn:type_of% @Nat.mul_le_mul_right:=@Nat.mul_le_mul_right
theorem Tp:type_of% @List.map_toArray:=@List.map_toArray
theorem Tq:type_of% @List.filter_cons:=@List.filter_cons
theorem Tt:type_of% @List.flatMap_singleton:=@List.flatMap_singleton
theorem Tu:type_of% @Array.getElem?_setIfInBounds_ne:=@Array.getElem?_setIfInBounds_ne
theorem Tv:type_of% @Array.getElem?_push:=@Array.getElem?_push
theorem Tw:type_of% @Nat.add_zero:=@Nat.add_zero
theorem Tx:type_of% @List.range_succ:=@List.range_succ
theorem Tz:type_of% @Nat.lt_succ_self:=@Nat.lt_succ_self
theorem TA:type_of% @List.take_append_of_le_length:=@List.take_append_of_le_length
theorem TB:type_of% @List.perm_middle:=@List.perm_middle
theorem TC:type_of% @List.mem_of_mem_drop:=@List.mem_of_mem_drop
theorem TD:type_of% @List.length_eq_zero_iff:=@List.length_eq_zero_iff
theorem TE:type_of% @List.getElem?_replicate:=@List.getElem?_replicate
theorem TF:type_of% @Nat.not_lt_zero:=@Nat.not_lt_zero
theorem TG:type_of% @Int.le_refl:=@Int.le_refl
theorem TH:type_of% @Bool.or_eq_true:=@Bool.or_eq_true
theorem TI:type_of% @Array.getElem?_eq_none:=@Array.getElem?_eq_none
theorem TJ:type_of% @Option.getD_some:=@Option.getD_some
theorem TK:type_of% @List.not_mem_nil:=@List.not_mem_nil
theorem TL:type_of% @List.filter_append:=@List.filter_append
theorem TM:type_of% @ByteArray.size_append:=@ByteArray.size_append
theorem TN:type_of% @Array.getElem?_modify:=@Array.getElem?_modify
theorem TP:type_of% @Nat.le_succ:=@Nat.le_succ
theorem TQ:type_of% @List.take_left:=@List.take_left
theorem TR:type_of% @List.pairwise_iff_getElem:=@List.pairwise_iff_getElem
theorem TS:type_of% @List.nodup_append:=@List.nodup_append
theorem TT:type_of% @Nat.one_mul:=@Nat.one_mul
theorem TU:type_of% @List.replicate_succ:=@List.replicate_succ
theorem TV:type_of% @List.mergeSort_perm:=@List.mergeSort_perm
theorem TW:type_of% @List.length_pos_iff:=@List.length_pos_iff
theorem TX:type_of% @List.mem_flatMap:=@List.mem_flatMap
theorem TY:type_of% @List.nodup_nil:=@List.nodup_nil
theorem TZ:type_of% @Nat.add_sub_cancel:=@Nat.add_sub_cancel
theorem T9:type_of% @List.filter_nil:=@List.filter_nil
theorem Ua:type_of% @Nat.le_succ_of_le:=@Nat.le_succ_of_le
theorem Ub:type_of% @List.getElem_take:=@List.getElem_take
theorem Uc:type_of% @List.getElem?_set:=@List.getElem?_set
theorem Ud:type_of% @Int.toNat_natCast:=@Int.toNat_natCast
theorem Ue:type_of% @Array.size_modify:=@Array.size_modify
theorem Uf:type_of% @List.mem_of_getElem?:=@List.mem_of_getElem?
theorem Ug:type_of% @Option.map_map:=@Option.map_map
theorem Uh:type_of% @List.tail_drop:=@List.tail_drop
theorem Ui:type_of% @List.mem_of_find?_eq_some:=@List.mem_of_find?_eq_some
theorem Uj:type_of% @List.getLast?_eq_getElem?:=@List.getLast?_eq_getElem?
theorem Uk:type_of% @List.any_eq_true:=@List.any_eq_true
theorem Ul:type_of% @List.toList_toArray:=@List.toList_toArray
theorem Um:type_of% @Array.setIfInBounds_comm:=@Array.setIfInBounds_comm
theorem Un:type_of% @Array.getElem?_replicate:=@Array.getElem?_replicate
theorem Uo:type_of% @List.getElem?_take:=@List.getElem?_take
theorem Up:type_of% @List.getElem?_cons_zero:=@List.getElem?_cons_zero
theorem Uq:type_of% @List.getElem?_cons_succ:=@List.getElem?_cons_succ
theorem Ur:type_of% @List.find?_eq_none:=@List.find?_eq_none
theorem Ut:type_of% @List.filter_map:=@List.filter_map
theorem Uu:type_of% @List.all_cons:=@List.all_cons
theorem Uv:type_of% @Int.tmod_lt_of_pos:=@Int.tmod_lt_of_pos
theorem Uw:type_of% @Int.eq_ofNat_of_zero_le:=@Int.eq_ofNat_of_zero_le
theorem Ux:type_of% @Nat.lt_of_succ_lt_succ:=@Nat.lt_of_succ_lt_succ
theorem Uy:type_of% @List.pairwise_map:=@List.pairwise_map
theorem Uz:type_of% @List.mapM_toArray:=@List.mapM_toArray
theorem UA:type_of% @Nat.zero_mul:=@Nat.zero_mul
theorem UB:type_of% @List.pairwise_and_iff:=@List.pairwise_and_iff
theorem UC:type_of% @List.mem_iff_getElem?:=@List.mem_iff_getElem?
theorem UD:type_of% @Array.eq_empty_of_size_eq_zero:=@Array.eq_empty_of_size_eq_zero
theorem UE:type_of% @List.nodup_range:=@List.nodup_range
theorem UF:type_of% @List.length_tail:=@List.length_tail
theorem UG:type_of% @List.getElem_inj:=@List.getElem_inj
theorem UH:type_of% @List.drop_append_of_le_length:=@List.drop_append_of_le_length
theorem UI:type_of% @List.drop_eq_nil_iff:=@List.drop_eq_nil_iff
theorem UJ:type_of% @List.drop_succ_cons:=@List.drop_succ_cons
theorem UK:type_of% @Int.tdiv_eq_ediv_of_nonneg:=@Int.tdiv_eq_ediv_of_nonneg
theorem UL:type_of% @Nat.lt_of_le_of_ne:=@Nat.lt_of_le_of_ne
theorem UM:type_of% @List.set_cons_succ:=@List.set_cons_succ
theorem UN:type_of% @Array.ext_getElem?:=@Array.ext_getElem?
theorem UO:type_of% @Nat.lt_trichotomy:=@Nat.lt_trichotomy
theorem UQ:type_of% @List.foldl_append:=@List.foldl_append
theorem UR:type_of% @List.find?_range_eq_some:=@List.find?_range_eq_some
theorem US:type_of% @List.filter_congr:=@List.filter_congr
theorem UT:type_of% @Bool.not_eq_true':=@Bool.not_eq_true'
theorem UU:type_of% @List.zipIdx_cons:=@List.zipIdx_cons
theorem UV:type_of% @List.getElem_map:=@List.getElem_map
theorem UW:type_of% @List.countP_cons:=@List.countP_cons
theorem UX:type_of% @Option.map_none:=@Option.map_none
theorem UY:type_of% @Nat.le_of_ble_eq_true:=@Nat.le_of_ble_eq_true
theorem UZ:type_of% @List.singleton_append:=@List.singleton_append
theorem U0:type_of% @List.set_getElem_self:=@List.set_getElem_self
theorem U1:type_of% @List.countP_singleton:=@List.countP_singleton
theorem U2:type_of% @Array.getElem?_mapIdx:=@Array.getElem?_mapIdx
end Go.SL
namespace Go.SL
open Go Go.RowKit
inductive Blk where
 |box (g:Nat) (ty:TypeId) (xs:List Value)
 |own (A:Option Nat) (ty:TypeId) (size n cap:Nat) (xs:List Value)
 |obj (g:Nat) (o:Obj)
 |byt (g:Nat) (ty:TypeId) (n cap:Nat) (xs:List Value)
def Blk.key:Blk→Option Nat
 | .box g _ _=>some g
 | .own A _ _ _ _ _=>A
 | .obj g _=>some g
 | .byt g _ _ _ _=>some g
def sl (A:Option Nat) (n cap:Nat):Value:= .slice (A.map fun g=>⟨g,0,none⟩) n cap
def Blk.on (w:World):Blk→Prop
 | .box g ty xs=>w.heap[g]? =some (.cells xs.toArray ty (0,0))
 | .own A ty size n cap xs=>xs.length=n*size∧n≤cap∧cap≤maxLen∧
   match A with
   |none=>n=0∧cap=0
   |some g=> ∃ junk:List Value,(xs++junk).length=cap*size∧w.heap[g]? =some (.cells (xs++junk).toArray ty (0,0))
 | .obj g o=>w.heap[g]? =some o
 | .byt g ty n cap xs=>xs.length=n∧n≤cap∧ ∃ junk:List Value,(xs++junk).length=cap∧w.heap[g]? =some (.cells (xs++junk).toArray ty (cap,cap+1))
def Apart (a b:Blk):Prop:= ∀ k,a.key=some k→b.key≠some k
structure Mem (w0 w:World) (H:List Blk):Prop where
 below:Below w0.heap.size w0 w
 on: ∀ b∈H,b.on w∧ ∀ k,b.key=some k→w0.heap.size≤k
 apart:H.Pairwise Apart
theorem Apart.symm {a b:Blk} (h:Apart a b):Apart b a:=fun k hk hk' =>h k hk' hk
abbrev az:=List (Nat × Value)
def look:az→Nat→Option Value
 | [],_=>none
 |(u,v)::r,t=>bif Nat.beq u t then some v else look r t
def ev (s:az):Operand→Option Value
 | .tmp t=>look s t
 | .const v=>some v
 | .global g=>some (.pointer (some ⟨g,0,none⟩))
 | .func f=>some (.func (.func f) #[] #[])
structure Fr where
 sz:Nat
 ds:List Deferred
structure St (n:Fr) (s:az) (a:Act):Prop where
 size:a.tmps.size=n.sz
 defers:a.defers=n.ds
 has: ∀ t v,look s t=some v→a.tmps[t]? =some v
theorem St.eval {n:Fr} {s:az} {a:Act} (h:St n s a): ∀ x v,ev s x=some v→a.eval x=v:=by
 intro x v hx
 cases x with
 |tmp t=>simp only [ev] at hx;simp [Act.eval,RZ,h.has t v hx]
 |const v=>simp only [ev,Option.some.injEq] at hx;exact hx
 |global g=>simp only [ev,Option.some.injEq] at hx;exact hx
 |func f=>simp only [ev,Option.some.injEq] at hx;exact hx
theorem jk (s:az) (d t:Nat) (v:Value):look ((d,v)::s) t=if d=t then some v else look s t:=by
 simp only [look]
 cases hb:Nat.beq d t with
 |true=>have h:=R0 hb;simp [h]
 |false=>have h:=Nat.ne_of_beq_eq_false hb;simp [h]
theorem St.put {n:Fr} {s:az} {a:Act} (h:St n s a) {d:Nat} (hd:d<n.sz) (v:Value):St n ((d,v)::s) (a.put (some d) v):=by
 refine ⟨by simp [Act.put,h.size],h.defers,fun t u hu=> ?_⟩;rw [jk] at hu;by_cases e:d=t
 ·subst e;simp only [if_true,Option.some.injEq] at hu;subst hu;simp [Act.put,h.size,hd]
 ·rw [if_neg e] at hu;simp only [Act.put];rw [Tu e];exact h.has t u hu
theorem St.put_none {n:Fr} {s:az} {a:Act} (h:St n s a) (v:Value):St n s (a.put none v):=h
def Sub (s1 s2:az):Prop:= ∀ t v,look s1 t=some v→look s2 t=some v
theorem Sub.nil (s:az):Sub [] s:=fun _ _ h=>by simp [look] at h
theorem Sub.cons {s1 s2:az} {t:Nat} {v:Value} (h:look s2 t=some v) (hs:Sub s1 s2):Sub ((t,v)::s1) s2:=by
 intro u x hx;rw [jk] at hx;by_cases e:t=u
 ·subst e;rw [if_pos rfl] at hx;rw [h];exact hx
 ·rw [if_neg e] at hx;exact hs u x hx
theorem St.sub {n:Fr} {s1 s2:az} {a:Act} (h:St n s2 a) (hs:Sub s1 s2):St n s1 a:=⟨h.size,h.defers,fun t v ht=>h.has t v (hs t v ht)⟩
abbrev bS:=Exit→az→List Blk→Prop
def post (n:Fr) (w0:World) (Q:bS):Exit→Act→World→Prop:=fun e a w=> ∃ s H,St n s a∧Mem w0 w H∧Q e s H
def W (P:Program) (n:Fr) (w0:World) (c:Code) (Q:bS) (s:az) (H:List Blk):Prop:=
 ∀ a w,St n s a→Mem w0 w H→c.wp P (post n w0 Q) a w
def WL (P:Program) (n:Fr) (w0:World) (ops:Array Oper) (rest:List Oper) (Q:bS) (s:az) (H:List Blk):Prop:=
 ∀ a w,St n s a→Mem w0 w H→wpList P ops (post n w0 Q) rest a w
def thn (K:az→List Blk→Prop) (Q:bS):bS
 | .normal,s,H=>K s H
 |e,s,H=>Q e s H
def blk (id:Nat) (Q:bS):bS
 | .exit id',s,H=>if id' =id then Q .normal s H else Q (.exit id') s H
 |e,s,H=>Q e s H
section
variable {P:Program} {n:Fr} {w0:World} {Q:bS} {s:az} {H:List Blk}
theorem Kk {c:Code} {Q' :bS} (hq: ∀ e s H,Q e s H→Q' e s H) (h:W P n w0 c Q s H):W P n w0 c Q' s H:=
 fun a w hs hm=>wp_mono (h a w hs hm) fun _ _ _ ⟨s,H,h1,h2,h3⟩=>⟨s,H,h1,h2,hq _ _ _ h3⟩
theorem PX {c:Code} {s' :az} (hs:Sub s' s) (h:W P n w0 c Q s' H):W P n w0 c Q s H:=
 fun a w hst hm=>h a w (hst.sub hs) hm
theorem PY {x y:Code} (h:W P n w0 x (thn (W P n w0 y Q) Q) s H):W P n w0 (.seq x y) Q s H:=by
 intro a w hs hm;refine wp_seq (wp_mono (h a w hs hm) ?_);rintro e a' w' ⟨s',H',h1,h2,h3⟩
 cases e with
 |normal=>exact h3 a' w' h1 h2
 |_=>exact ⟨s',H',h1,h2,h3⟩
theorem OU (h:Q .normal s H):W P n w0 .skip Q s H:=fun _ _ hs hm=>wp_skip ⟨s,H,hs,hm,h⟩
theorem PZ (h:Q .ret s H):W P n w0 .ret Q s H:=fun _ _ hs hm=>wp_ret ⟨s,H,hs,hm,h⟩
theorem OX {id:Nat} (h:Q (.exit id) s H):W P n w0 (.exit id) Q s H:=fun _ _ hs hm=>wp_exit ⟨s,H,hs,hm,h⟩
theorem MP {id:Nat} {c:Code} (h:W P n w0 c (blk id Q) s H):W P n w0 (.block id c) Q s H:=by
 intro a w hs hm;refine wp_block (wp_mono (h a w hs hm) ?_);rintro e a' w' ⟨s',H',h1,h2,h3⟩
 cases e with
 |exit id' =>
  simp only [Exit.inBlock,blk] at h3 ⊢;split
  ·rename_i hid;rw [if_pos hid] at h3;exact ⟨s',H',h1,h2,h3⟩
  ·rename_i hid;rw [if_neg hid] at h3;exact ⟨s',H',h1,h2,h3⟩
 |_=>exact ⟨s',H',h1,h2,h3⟩
theorem BJ {c:Operand} {x y:Code} (hc:ev s c=some (.bool true)) (h:W P n w0 x Q s H):W P n w0 (.cond c x y) Q s H:=
 fun a w hs hm=>wp_cond_true (hs.eval c _ hc) (h a w hs hm)
theorem zS {c:Operand} {x y:Code} (hc:ev s c=some (.bool false)) (h:W P n w0 y Q s H):W P n w0 (.cond c x y) Q s H:=
 fun a w hs hm=>wp_cond_false (hs.eval c _ hc) (h a w hs hm)
theorem OY {c:Operand} {x y:Code} {b:Bool} (hc:ev s c=some (.bool b)) (ht:b=true→W P n w0 x Q s H) (hf:b=false→W P n w0 y Q s H):
 W P n w0 (.cond c x y) Q s H:=
 fun a w hs hm=>wp_cond_split (hs.eval c _ hc) (fun e=>ht e a w hs hm) (fun e=>hf e a w hs hm)
end
inductive In (b:Blk):List Blk→Prop
 |hd {T:List Blk}:In b (b::T)
 |tl {x:Blk} {T:List Blk}:In b T→In b (x::T)
inductive Sel (b:Blk):List Blk→List Blk→Prop
 |hd {T:List Blk}:Sel b (b::T) T
 |tl {x:Blk} {T T' :List Blk}:Sel b T T' →Sel b (x::T) (x::T')
theorem In.mem {b:Blk} {H:List Blk} (h:In b H):b∈H:=by
 induction h with
 |hd=>exact QY
 |tl _ ih=>exact Rh _ ih
theorem Sel.perm {b:Blk} {H T:List Blk} (h:Sel b H T):H.Perm (b::T):=by
 induction h with
 |hd=>exact .refl _
 |tl _ ih=>exact (ih.cons _).trans (.swap _ _ _)
theorem Mem.perm {w0 w:World} {H H' :List Blk} (h:Mem w0 w H) (hp:H.Perm H'):Mem w0 w H' :=
 ⟨h.below,fun b hb=>h.on b (hp.mem_iff.2 hb),(hp.pairwise_iff (fun {_ _} h=>Apart.symm h)).1 h.apart⟩
theorem Mem.sel {w0 w:World} {H T:List Blk} {b:Blk} (h:Mem w0 w H) (hs:Sel b H T):Mem w0 w (b::T):=h.perm hs.perm
theorem Mem.tail {w0 w:World} {T:List Blk} {b:Blk} (h:Mem w0 w (b::T)):Mem w0 w T:=
 ⟨h.below,fun x hx=>h.on x (Rh _ hx),(SJ.1 h.apart).2⟩
theorem Mem.left {w0 w:World} {H T:List Blk} (h:Mem w0 w (H++T)):Mem w0 w H:=
 ⟨h.below,fun x hx=>h.on x (Si _ hx),(SX.1 h.apart).1⟩
theorem Mem.right {w0 w:World} {H T:List Blk} (h:Mem w0 w (H++T)):Mem w0 w T:=
 ⟨h.below,fun x hx=>h.on x (Sj _ hx),(SX.1 h.apart).2.1⟩
def MSub (H H' :List Blk):Prop:= ∃ T,H'.Perm (H++T)
theorem MSub.use {H H' :List Blk} (h:MSub H H') {w0 w:World} (hm:Mem w0 w H'):Mem w0 w H:=by
 obtain ⟨T,hp⟩:=h;exact (hm.perm hp).left
theorem MSub.refl (H:List Blk):MSub H H:=⟨[],by simp⟩
theorem MSub.nil (H:List Blk):MSub [] H:=⟨H,by simp⟩
theorem MSub.pick {b:Blk} {H H' T:List Blk} (hs:Sel b H' T) (h:MSub H T):MSub (b::H) H' :=by
 obtain ⟨U,hp⟩:=h;exact ⟨U,hs.perm.trans (hp.cons b)⟩
theorem MSub.trans {H H' H'' :List Blk} (h:MSub H H') (k:MSub H' H''):MSub H H'' :=by
 obtain ⟨T,hT⟩:=h;obtain ⟨U,hU⟩:=k;exact ⟨T++U,hU.trans (by rw [← Rx];exact hT.append_right U)⟩
theorem MSub.drop {H H' T:List Blk} {b:Blk} (hs:Sel b H' T) (h:MSub H T):MSub H H' :=by
 obtain ⟨U,hp⟩:=h;refine ⟨b::U,hs.perm.trans ((hp.cons b).trans ?_)⟩;exact TB.symm
section
variable {P:Program} {n:Fr} {w0:World} {Q:bS} {s:az} {H:List Blk}
theorem OV {c:Code} {H' :List Blk} (hH:MSub H' H) (h:W P n w0 c Q s H'):W P n w0 c Q s H:=
 fun a w hst hm=>h a w hst (hH.use hm)
theorem fR {ι:Type} {c:Code} (sI:ι→az) (HI:ι→List Blk) (ok:ι→Prop) (μ:ι→Nat) (i0:ι) (h0:ok i0) (hs0:Sub (sI i0) s) (hH0:MSub (HI i0) H)
 (round: ∀ i,ok i→W P n w0 c (thn (fun s' H' => ∃ i',ok i' ∧μ i' <μ i∧Sub (sI i') s' ∧MSub (HI i') H') Q) (sI i) (HI i)):W P n w0 (.loop c) Q s H:=by
 intro a w hs hm;refine wp_loop_ghost (fun k a' w' => ∃ i,ok i∧μ i=k∧St n (sI i) a' ∧Mem w0 w' (HI i)) (μ i0) ⟨i0,h0,rfl,hs.sub hs0,hH0.use hm⟩ ?_;rintro k a1 w1 ⟨i,hi,rfl,hs1,hm1⟩;refine wp_mono (round i hi a1 w1 hs1 hm1) ?_;rintro e a' w' ⟨s',H',h1,h2,h3⟩
 cases e with
 |normal=>
  obtain ⟨i',hi',hlt,hsub,hms⟩:=h3;exact ⟨μ i',hlt,i',hi',rfl,h1.sub hsub,hms.use h2⟩
 |_=>exact ⟨s',H',h1,h2,h3⟩
end
theorem Blk.on_of_block {w w' :World} {b:Blk} (h:b.on w) (hk: ∀ k,b.key=some k→w'.heap[k]? =w.heap[k]?):b.on w' :=by
 cases b with
 |box g ty xs=>simp only [Blk.on] at h ⊢;rw [hk g rfl];exact h
 |obj g o=>simp only [Blk.on] at h ⊢;rw [hk g rfl];exact h
 |byt g ty m cap xs=>simp only [Blk.on] at h ⊢;rw [hk g rfl];exact h
 |own A ty size m cap xs=>
  simp only [Blk.on] at h ⊢;refine ⟨h.1,h.2.1,h.2.2.1,?_⟩;have h4:=h.2.2.2
  cases A with
  |none=>exact h4
  |some g=>
   obtain ⟨junk,hl,hg⟩:=h4;exact ⟨junk,hl,(hk g rfl).trans hg⟩
theorem Blk.key_lt {w:World} {b:Blk} (h:b.on w) {k:Nat} (hk:b.key=some k):k<w.heap.size:=by
 have: ∃ o,w.heap[k]? =some o:=by
  cases b with
  |box g ty xs=>simp only [Blk.key,Option.some.injEq] at hk;subst hk;exact ⟨_,h⟩
  |obj g o=>simp only [Blk.key,Option.some.injEq] at hk;subst hk;exact ⟨_,h⟩
  |byt g ty m cap xs=>simp only [Blk.key,Option.some.injEq] at hk;subst hk;obtain ⟨_,_,junk,_,hg⟩:=h;exact ⟨_,hg⟩
  |own A ty size m cap xs=>
   simp only [Blk.key] at hk;subst hk;obtain ⟨_,_,_,junk,_,hg⟩:=h;exact ⟨_,hg⟩
 obtain ⟨o,ho⟩:=this;exact (RQ.1 ho).1
theorem Mem.refl (w:World):Mem w w []:=⟨.refl _ _,(fun _ h=>by cases h),List.Pairwise.nil⟩
theorem Mem.drew {w0 w:World} {H:List Blk} (h:Mem w0 w H):Mem w0 { w with drawn:=w.drawn+1 } H:=
 ⟨h.below.drew,fun b hb=>⟨Blk.on_of_block (h.on b hb).1 fun _ _=>rfl,(h.on b hb).2⟩,h.apart⟩
theorem Mem.upd {w0 w w' :World} {b b' :Blk} {T:List Blk} (h:Mem w0 w (b::T)) (hg:w.grownBy w' b.key) (hb:b'.on w')
 (hk: ∀ k,b'.key=some k→b.key=some k∨w.heap.size≤k):Mem w0 w' (b' ::T):=by
 have hap:=SJ.1 h.apart;have hrow: ∀ k,b.key=some k→w0.heap.size≤k:=(h.on b QY).2;have hsz:w0.heap.size≤w.heap.size:=h.below.size;have hlt: ∀ x∈T,∀ k,x.key=some k→k<w.heap.size:=fun x hx k hxk=>Blk.key_lt (h.on x (Rh _ hx)).1 hxk;refine ⟨h.below.grown hg hsz hrow,fun x hx=> ?_,SJ.2 ⟨fun x hx k hk1 hk2=> ?_,hap.2⟩⟩
 ·rcases RF.1 hx with rfl|hx
  ·refine ⟨hb,fun k hk1=> ?_⟩;rcases hk k hk1 with h1|h1
   ·exact hrow k h1
   ·omega
  ·refine ⟨Blk.on_of_block (h.on x (Rh _ hx)).1 fun k hxk=> ?_,(h.on x (Rh _ hx)).2⟩;exact hg.block k (hlt x hx k hxk) fun e=>hap.1 x hx k e.symm hxk
 ·rcases hk k hk1 with h1|h1
  ·exact hap.1 x hx k h1 hk2
  ·have:=hlt x hx k hk2;omega
theorem Mem.new {w0 w w' :World} {b:Blk} {T:List Blk} (h:Mem w0 w T) (hg:w.grownBy w' none) (hb:b.on w') (hk: ∀ k,b.key=some k→w.heap.size≤k):Mem w0 w' (b::T):=by
 have h0:Mem w0 w (.own none 0 0 0 0 []::T):=
  ⟨h.below,fun x hx=>by
   rcases RF.1 hx with rfl|hx
   ·exact ⟨⟨by simp,Rg _,QZ _,rfl,rfl⟩,(fun k hk=>by cases hk)⟩
   ·exact h.on x hx,SJ.2 ⟨(fun x _ k hk=>by cases hk),h.apart⟩⟩
 exact h0.upd (b:= .own none 0 0 0 0 []) hg hb fun k h1=> .inr (hk k h1)
theorem Mem.call {w0 w w' :World} {H H' :List Blk} (h:Mem w0 w H) (h' :Mem w w' H'):Mem w0 w' (H' ++H):=by
 have hsz:w0.heap.size≤w.heap.size:=h.below.size;have hold: ∀ x∈H,∀ k,x.key=some k→k<w.heap.size:=fun x hx k hxk=>Blk.key_lt (h.on x hx).1 hxk;refine ⟨h.below.trans (h'.below.mono hsz),fun x hx=> ?_,SX.2 ⟨h'.apart,h.apart,fun x hx y hy k hk1 hk2=> ?_⟩⟩
 ·rcases Rz.1 hx with hx|hx
  ·exact ⟨(h'.on x hx).1,fun k hk=>RD hsz ((h'.on x hx).2 k hk)⟩
  ·exact ⟨Blk.on_of_block (h.on x hx).1 fun k hk=>h'.below.block k (hold x hx k hk),(h.on x hx).2⟩
 ·have h1:=(h'.on x hx).2 k hk1;have h2:=hold y hy k hk2;omega
end Go.SL
namespace Go.SL
open Go
def qI (l:List Int):List Int:=l.mergeSort fun x y=>decide (x≤y)
theorem E3 (l:List Int):(qI l).Perm l:=TV _ _
end Go.SL
namespace Go.SL
open Go Go.RowKit
def xR (x:Int):Value:= .int .i64 x
section
variable {P:Program} {n:Fr} {w0:World} {Q:bS} {s:az} {H:List Blk} {ops:Array Oper} {l:List Oper}
theorem jJ {c:Code} (H' :List Blk) (hs:MSub H' H) (h:W P n w0 c Q s H'):W P n w0 c Q s H:=fun a w h1 h2=>h a w h1 (hs.use h2)
theorem mN (H' :List Blk) (hs:MSub H' H) (h:WL P n w0 ops l Q s H'):WL P n w0 ops l Q s H:=fun a w h1 h2=>h a w h1 (hs.use h2)
end
end Go.SL
namespace Go.SL
open Go Go.Proofs
structure Qu where
 g:Nat
 off:Nat
 k:Nat
 n:Nat
 c:Nat
 ys:List Value
def Qu.v (q:Qu):Value:= .slice (some ⟨q.g,q.off,none⟩) (q.n - q.k) (q.c - q.k)
structure Qu.ok {α:Type} (q:Qu) (enc:α→List Value) (sz:Nat) (L:List α):Prop where
 le:q.k≤q.n
 off:q.k<q.c→q.off=q.k*sz
 len:q.n - q.k=L.length
 cells:q.ys.drop (q.k*sz)=L.flatMap enc
def Qu.pop (q:Qu) (sz:Nat):Qu:={ q with off:=if q.c - q.k=1 then q.off else q.off+1*sz,k:=q.k+1 }
theorem Qu.ok.pop {α:Type} {q:Qu} {enc:α→List Value} {sz:Nat} {a:α} {L:List α} (h:q.ok enc sz (a::L)) (he:(enc a).length=sz) (hc:q.n≤q.c):(q.pop sz).ok enc sz L:=by
 have hl:=h.len;rw [Rk] at hl;have h0:=h.off (by omega);refine ⟨by simp only [Qu.pop];omega,fun hk=> ?_,by simp only [Qu.pop];omega,?_⟩
 ·simp only [Qu.pop] at hk ⊢;rw [if_neg (by omega),h0,Tg]
 ·have h1:=h.cells;simp only [Qu.pop];rw [Tg,TT,← SV,h1,Rl,← he,List.drop_left]
end Go.SL
namespace Go.SL
open Go
theorem Gn: ∀ {l m:List Nat},l.Pairwise (· < ·)→m.Pairwise (· < ·)→(∀ v,v∈l↔v∈m)→l=m
 | [],[],_,_,_=>rfl
 | [],b::m,_,_,h=>by have:=(h b).2 QY;cases this
 |a::l,[],_,_,h=>by have:=(h a).1 QY;cases this
 |a::l,b::m,h1,h2,h=>by
  rw [SJ] at h1 h2;have e:a=b:=by
   have ha:=(h a).1 QY;have hb:=(h b).2 QY;rcases RF.1 ha with e|ha
   ·exact e
   ·rcases RF.1 hb with e|hb
    ·exact e.symm
    ·have x1:=h2.1 a ha;have x2:=h1.1 b hb;omega
  subst e;have:l=m:=Gn h1.2 h2.2 fun v=>by
   have hv:=h v;rw [RF,RF] at hv;constructor
   ·intro hl;have:=h1.1 v hl;exact (hv.1 (.inr hl)).resolve_left (by omega)
   ·intro hm;have:=h2.1 v hm;exact (hv.2 (.inr hm)).resolve_left (by omega)
  rw [this]
theorem si (n:Nat) (p:Nat→Bool):((List.range n).filter p).Pairwise (· < ·):=(List.pairwise_lt_range).filter _
theorem Gm {l:List Nat} {n:Nat} {p:Nat→Bool} (h:l.Pairwise (· < ·)) (hm: ∀ v,v∈l↔v<n∧p v=true):l=(List.range n).filter p:=
 Gn h (si n p) fun v=>by rw [hm,ST,RH]
end Go.SL
namespace Go.SL
open Go Go.RowKit
def VOp (P:Program) (w0:World) (s:az) (H:List Blk) (op:Op) (ty:TypeId) (v:Value):Prop:=
 ∀ (ρ:Operand→Value) (w:World) (d:Option Tmp) (p:String) (af:Array Edge) (g:Option (Nat × Bool)),
  (∀ x u,ev s x=some u→ρ x=u)→Mem w0 w H→(execOp ρ ⟨d,op,ty,p,af,g⟩).run P w= .ok (.value v) w
section
variable {P:Program} {n:Fr} {w0:World} {Q:bS} {s:az} {H:List Blk} {ops:Array Oper} {rest:List Oper} {ty:TypeId} {p:String} {af:Array Edge}
theorem pV (h:Q .normal s H):WL P n w0 ops [] Q s H:=fun _ _ hs hm=>wpList_nil ⟨s,H,hs,hm,h⟩
theorem Ki {id:Nat} {l:List Oper} (h:WL P n w0 l.toArray l Q s H):W P n w0 (.region id l.toArray false) Q s H:=
 fun a w hs hm=>wp_region_lit (h a w hs hm)
theorem uF {o:Oper} {v:Value} (hg:Region.wanted o=fun _=>true) (d:Nat) (hd:o.dst=some d) (hn:Nat.blt d n.sz=true)
 (h: ∀ a w,St n s a→Mem w0 w H→(execOp a.eval o).run P w= .ok (.value v) w)
 (k:WL P n w0 ops rest Q ((d,v)::s) H):WL P n w0 ops (o::rest) Q s H:=by
 intro a w hs hm;refine wpList_step fun K hK=> ?_;rw [hg,if_pos rfl];simp only [Oper.wp,h a w hs hm,Oper.upon,hd];exact hK _ _ (k _ _ (hs.put (Sa ▸ hn) v) hm)
theorem ai {op:Op} {d:Nat} {v:Value} (hn:Nat.blt d n.sz=true) (hv:VOp P w0 s H op ty v) (k:WL P n w0 ops rest Q ((d,v)::s) H):
 WL P n w0 ops (⟨some d,op,ty,p,af,none⟩::rest) Q s H:=
 uF rfl d rfl hn (fun _ _ hs hm=>hv _ _ _ _ _ _ hs.eval hm) k
class One (P:Program) (t:TypeId):Prop where
 out: ∃ d,P.underlying t=some d∧(match d with| .struct _| .array _ _=>false|_=>true)=true
class Agg (P:Program) (t:TypeId) (m:outParam Nat):Prop where
 out: ∃ d i,P.underlying t=some d∧(match d with| .struct _| .array _ _=>true|_=>false)=true∧P.info? t=some i∧i.size=m
class Size (P:Program) (t:TypeId) (m:outParam Nat):Prop where
 out: ∃ i,P.info? t=some i∧i.size=m
class Und (P:Program) (t:TypeId) (d:outParam TypeDesc):Prop where
 out:P.underlying t=some d
class Fld (P:Program) (t:TypeId) (f:Nat) (o:outParam Nat):Prop where
 out: ∃ fs fl i,P.underlying t=some (.struct fs)∧fs[f]? =some fl∧fl.offset=o∧P.info? fl.type=some i∧i.size≠0
class Zero (P:Program) (t:TypeId) (z:outParam Value):Prop where
 out: ∃ i,P.info? t=some i∧i.zero=some z
class Elem (P:Program) (t:TypeId) (size bytes:outParam Nat):Prop where
 out: ∃ i z,P.info? t=some i∧i.size=size∧i.bytes=bytes∧i.zero=some z∧z.cells.size=size∧0<size
class Callable (P:Program) (f:FuncId):Prop where
 out: ∀ args w,(callFunc f args).run P w= .ok (.enter f args) w
theorem O3 {x:Operand} {v:Value} (hx:ev s x=some v):VOp P w0 s H (.move x) ty v:=fun ρ w _ _ _ _ hρ _=>by
 simp [execOp,hρ x v hx]
theorem vB {x:Operand} {v:Value} (hx:ev s x=some v):VOp P w0 s H (.assign x) ty v:=fun ρ w _ _ _ _ hρ _=>by
 simp [execOp,hρ x v hx]
theorem Km {c a b:Operand} {v:Value} (hc:ev s c=some (.bool true)) (ha:ev s a=some v):VOp P w0 s H (.pick c a b) ty v:=fun ρ w _ _ _ _ hρ _=>by
 simp [execOp,hρ c _ hc,hρ a v ha,asBool]
theorem Kn {c a b:Operand} {v:Value} (hc:ev s c=some (.bool false)) (hb:ev s b=some v):VOp P w0 s H (.pick c a b) ty v:=fun ρ w _ _ _ _ hρ _=>by
 simp [execOp,hρ c _ hc,hρ b v hb,asBool]
section ap
variable {x y:Operand} {k:IntKind} {a b:Int} {t t' :TypeId}
theorem P8 (hx:ev s x=some (.int k a)) (hy:ev s y=some (.int k b)):VOp P w0 s H (.binOp .lss t x y t') ty (.bool (decide (a<b))):=fun ρ w _ _ _ _ hρ _=>by
 simp [execOp,hρ x _ hx,hρ y _ hy,eqGuard,binOp,Op.intCmp]
theorem P9 (hx:ev s x=some (.int k a)) (hy:ev s y=some (.int k b)):VOp P w0 s H (.binOp .leq t x y t') ty (.bool (decide (a≤b))):=fun ρ w _ _ _ _ hρ _=>by
 simp [execOp,hρ x _ hx,hρ y _ hy,eqGuard,binOp,Op.intCmp]
theorem Qb (hx:ev s x=some (.int k a)) (hy:ev s y=some (.int k b)):VOp P w0 s H (.binOp .gtr t x y t') ty (.bool (decide (b<a))):=fun ρ w _ _ _ _ hρ _=>by
 simp [execOp,hρ x _ hx,hρ y _ hy,eqGuard,binOp,Op.intCmp]
theorem Qc (hx:ev s x=some (.int k a)) (hy:ev s y=some (.int k b)):VOp P w0 s H (.binOp .geq t x y t') ty (.bool (decide (b≤a))):=fun ρ w _ _ _ _ hρ _=>by
 simp [execOp,hρ x _ hx,hρ y _ hy,eqGuard,binOp,Op.intCmp]
theorem Qd (hx:ev s x=some (.int k a)) (hy:ev s y=some (.int k b)):VOp P w0 s H (.binOp .eql t x y t') ty (.bool (decide (a=b))):=fun ρ w _ _ _ _ hρ _=>by
 simp [execOp,hρ x _ hx,hρ y _ hy,eqGuard,binOp,Op.intCmp];rw [Sc];simp
theorem Oy (hx:ev s x=some (.int k a)) (hy:ev s y=some (.int k b)):VOp P w0 s H (.binOp .neq t x y t') ty (.bool (decide (a≠b))):=fun ρ w _ _ _ _ hρ _=>by
 simp [execOp,hρ x _ hx,hρ y _ hy,eqGuard,binOp,Op.intCmp,bne];rw [Sc];simp
def I64 (z:Int):Prop:= -9223372036854775808≤z∧z≤9223372036854775807
theorem I64.wrap {z:Int} (h:I64 z):IntKind.i64.wrap z=z:=by
 rw [IntKind.wrap_i64];obtain ⟨h1,h2⟩:=h;omega
theorem lh (hx:ev s x=some (.int .i64 a)) (hy:ev s y=some (.int .i64 b)) (h:I64 (a+b)):VOp P w0 s H (.binOp .add t x y t') ty (.int .i64 (a+b)):=fun ρ w _ _ _ _ hρ _=>by
 simp [execOp,hρ x _ hx,hρ y _ hy,eqGuard,binOp,Op.intArith,h.wrap]
theorem yt (hx:ev s x=some (.int .i64 a)) (hy:ev s y=some (.int .i64 b)) (h:I64 (a - b)):VOp P w0 s H (.binOp .sub t x y t') ty (.int .i64 (a - b)):=fun ρ w _ _ _ _ hρ _=>by
 simp [execOp,hρ x _ hx,hρ y _ hy,eqGuard,binOp,Op.intArith,h.wrap]
theorem yw (hx:ev s x=some (.int .i64 a)) (hy:ev s y=some (.int .i64 b)) (h:I64 (a*b)):VOp P w0 s H (.binOp .mul t x y t') ty (.int .i64 (a*b)):=fun ρ w _ _ _ _ hρ _=>by
 simp [execOp,hρ x _ hx,hρ y _ hy,eqGuard,binOp,Op.intArith,h.wrap]
theorem vD (hx:ev s x=some (.int k a)) (hy:ev s y=some (.int k b)):VOp P w0 s H (.binOp .add t x y t') ty (.int k (k.wrap (a+b))):=fun ρ w _ _ _ _ hρ _=>by
 simp [execOp,hρ x _ hx,hρ y _ hy,eqGuard,binOp,Op.intArith]
theorem OZ (hx:ev s x=some (.int k a)) (hy:ev s y=some (.int k b)):VOp P w0 s H (.binOp .sub t x y t') ty (.int k (k.wrap (a - b))):=fun ρ w _ _ _ _ hρ _=>by
 simp [execOp,hρ x _ hx,hρ y _ hy,eqGuard,binOp,Op.intArith]
theorem P5 (hx:ev s x=some (.int k a)) (hy:ev s y=some (.int k b)) (h:b≠0):VOp P w0 s H (.binOp .rem t x y t') ty (.int k (a.tmod b)):=fun ρ w _ _ _ _ hρ _=>by
 simp [execOp,hρ x _ hx,hρ y _ hy,eqGuard,binOp,Op.intDiv,h]
theorem Oz (hx:ev s x=some (.int .i64 a)) (h:I64 (-a)):VOp P w0 s H (.unOp .neg t x) ty (.int .i64 (-a)):=fun ρ w _ _ _ _ hρ _=>by
 simp [execOp,hρ x _ hx,Op.unary,Op.intArith,h.wrap]
theorem EO {k' :IntKind} {d:TypeDesc} [hs:Und P t d] [hd:Und P t' (.int k')] (hx:ev s x=some (.int k a)):VOp P w0 s H (.convert t t' x) ty (.int k' (k'.wrap a)):=fun ρ w _ _ _ _ hρ _=>by
 simp [execOp,hρ x _ hx,convert,run_underlying hs.out,run_underlying hd.out,Conv.intToInt]
end ap
section bools
variable {x y:Operand} {a b:Bool} {t t' :TypeId}
theorem P7 (hx:ev s x=some (.bool a)):VOp P w0 s H (.unOp .not t x) ty (.bool (!a)):=fun ρ w _ _ _ _ hρ _=>by
 simp [execOp,hρ x _ hx,Op.unary]
theorem O5 [ht:Und P t .bool] (hx:ev s x=some (.bool a)) (hy:ev s y=some (.bool b)):VOp P w0 s H (.binOp .eql t x y t') ty (.bool (a==b)):=fun ρ w _ _ _ _ hρ _=>by
 simp [execOp,hρ x _ hx,hρ y _ hy,eqGuard,run_eql_bool w t a b ht.out]
theorem O1 [ht:Und P t .bool] (hx:ev s x=some (.bool a)) (hy:ev s y=some (.bool b)):VOp P w0 s H (.binOp .neq t x y t') ty (.bool (!(a==b))):=fun ρ w _ _ _ _ hρ _=>by
 simp [execOp,hρ x _ hx,hρ y _ hy,eqGuard,run_neq_bool w t a b ht.out]
end bools
section strings
variable {x y:Operand} {a b:ByteArray} {t t' :TypeId}
theorem Gj (a b:ByteArray):(a.toList==b.toList)=decide (a=b):=by
 rw [← beq_toListBytes];obtain ⟨⟨x⟩⟩:=a;obtain ⟨⟨y⟩⟩:=b;show ((⟨x⟩:Array UInt8)==⟨y⟩)=_;rw [Sc];simp
theorem EL (hx:ev s x=some (.string a)) (hy:ev s y=some (.string b)):VOp P w0 s H (.binOp .eql t x y t') ty (.bool (decide (a=b))):=fun ρ w _ _ _ _ hρ _=>by
 simp [execOp,hρ x _ hx,hρ y _ hy,eqGuard,binOp,Op.stringOp,Gj]
theorem O0 (hx:ev s x=some (.string a)) (hy:ev s y=some (.string b)):VOp P w0 s H (.binOp .neq t x y t') ty (.bool (decide (a≠b))):=fun ρ w _ _ _ _ hρ _=>by
 simp [execOp,hρ x _ hx,hρ y _ hy,eqGuard,binOp,Op.stringOp,Gj]
theorem Kr [ht:Und P t .string] (hx:ev s x=some (.string a)):VOp P w0 s H (.call { callee:= .builtin .len,args:= #[x],argTypes:= #[t] }) ty (.int .i64 (a.size:Int)):=fun ρ w _ _ _ _ hρ _=>by
 simp [execOp,hρ x _ hx,resolve,invoke,builtin,Builtin.len_,run_underlying ht.out,goInt]
end strings
theorem Qa {x:Operand} {A:Option Addr} {m c:Nat} {t e:TypeId} [ht:Und P t (.slice e)] (hx:ev s x=some (.slice A m c)):
 VOp P w0 s H (.call { callee:= .builtin .len,args:= #[x],argTypes:= #[t] }) ty (.int .i64 (m:Int)):=fun ρ w _ _ _ _ hρ _=>by
 simp [execOp,hρ x _ hx,resolve,invoke,builtin,Builtin.len_,run_underlying ht.out,goInt]
theorem iY {x y:Operand} {a b:Int} {ts:Array TypeId} (hx:ev s x=some (.int .i64 a)) (hy:ev s y=some (.int .i64 b)):
 VOp P w0 s H (.call { callee:= .builtin .max,args:= #[x,y],argTypes:=ts }) ty (.int .i64 (if a<b then b else a)):=fun ρ w _ _ _ _ hρ _=>by
 simp [execOp,hρ x _ hx,hρ y _ hy,resolve,invoke,builtin,run_max_int2]
theorem iX {x y:Operand} {a b:Int} {ts:Array TypeId} (hx:ev s x=some (.int .i64 a)) (hy:ev s y=some (.int .i64 b)):
 VOp P w0 s H (.call { callee:= .builtin .min,args:= #[x,y],argTypes:=ts }) ty (.int .i64 (if b<a then b else a)):=fun ρ w _ _ _ _ hρ _=>by
 simp [execOp,hρ x _ hx,hρ y _ hy,resolve,invoke,builtin,run_min_int2]
theorem H9 {x:Operand} {vs:List Value} {i:Nat} {v:Value} (hx:ev s x=some (.tuple vs.toArray)) (hi:vs[i]? =some v):VOp P w0 s H (.extract x i) ty v:=fun ρ w _ _ _ _ hρ _=>by
 have hi' :vs.toArray[i]? =some v:=by rw [RX];exact hi
 simp [execOp,hρ x _ hx,Instr.extract,hi]
theorem vU {w:World} {g o off:Nat} {fl:Field} {i:TypeInfo} (ho:fl.offset=o) (hi:P.info? fl.type=some i) (hz:i.size≠0):
 (fieldPlace ⟨g,off,none⟩ fl).run P w= .ok ⟨g,off+o,none⟩ w:=by
 have hz' :(if i.size=0 then true else false)=false:=by simp [hz]
 simp [fieldPlace,sizeOf,typeInfo,hi,hz,Addr.add,ho];try (intro h;rw [h])
theorem BP {x:Operand} {t f o g off:Nat} [hf:Fld P t f o] (hx:ev s x=some (.pointer (some ⟨g,off,none⟩))):
 VOp P w0 s H (.fieldAddr t x f) ty (.pointer (some ⟨g,off+o,none⟩)):=fun ρ w _ _ _ _ hρ _=>by
 obtain ⟨fs,fl,i,h1,h2,h3,h4,h5⟩:=hf.out;simp [execOp,hρ x _ hx,Instr.fieldAt,run_underlying h1,h2,Instr.sureAddr,vU h3 h4 h5]
theorem ag {x ix:Operand} {t e g off m c j sz:Nat} {k:IntKind} [ht:Und P t (.slice e)] [hs:Size P e sz] (hx:ev s x=some (.slice (some ⟨g,off,none⟩) m c)) (hi:ev s ix=some (.int k (j:Nat)))
 (hj:j<m):VOp P w0 s H (.indexAddr t x ix) ty (.pointer (some ⟨g,off+j*sz,none⟩)):=fun ρ w _ _ _ _ hρ _=>by
 obtain ⟨i,h1,h2⟩:=hs.out;have hj' :(j:Int)<(m:Int):=by omega
 have h0:(0:Int)≤(j:Int):=by omega
 have hadd:(⟨g,off,none⟩:Addr).add (j*sz)=⟨g,off+j*sz,none⟩:=by
  unfold Addr.add;split<;>simp_all
 simp [execOp,hρ x _ hx,hρ ix _ hi,Instr.indexAt,run_underlying ht.out,asIntOf,sizeOf,typeInfo,h1,h2,hadd];omega
def Cells (w:World) (g off:Nat) (xs:List Value):Prop:= ∀ j v,xs[j]? =some v→w.cell? ⟨g,off+j,none⟩=some v
theorem dr (g off j:Nat):(⟨g,off,none⟩:Addr).add j=⟨g,off+j,none⟩:=by
 unfold Addr.add;split<;>simp_all
theorem dK {w:World} {t:TypeId} {g off:Nat} {v:Value} [h:One P t] (hc:w.cell? ⟨g,off,none⟩=some v):(loadVar t ⟨g,off,none⟩).run P w= .ok v w:=by
 obtain ⟨d,hd,ho⟩:=h.out;cases d<;>simp_all [loadVar,isAgg,run_underlying hd]
theorem iN {w:World} {t:TypeId} {g off m:Nat} {xs:List Value} [h:Agg P t m] (hl:xs.length=m) (hc:Cells w g off xs):(loadVar t ⟨g,off,none⟩).run P w= .ok (.agg xs.toArray) w:=by
 obtain ⟨d,i,hd,ho,hi,hs⟩:=h.out;have h1:=run_loadCells_list (P:=P) w ⟨g,off,none⟩ xs (fun j v hv=>by rw [dr];exact hc j v hv);rw [hl] at h1;cases d<;>simp_all [loadVar,isAgg,run_underlying hd,sizeOf,typeInfo]
theorem Mem.cells_box {w w0:World} {H:List Blk} {g:Nat} {t:TypeId} {xs:List Value} (h:Mem w0 w H) (hi:In (.box g t xs) H):Cells w g 0 xs:=by
 have h1:=(h.on _ hi.mem).1;simp only [Blk.on] at h1;intro j v hv;rw [Rv,cell_of_row w g j _ t (0,0) h1];simpa using hv
theorem Mem.cells_own {w w0:World} {H:List Blk} {g m c sz:Nat} {t:TypeId} {xs:List Value} (h:Mem w0 w H) (hi:In (.own (some g) t sz m c xs) H):Cells w g 0 xs:=by
 obtain ⟨hl,_,_,junk,_,h1⟩:=(h.on _ hi.mem).1;intro j v hv;rw [Rv,cell_of_row w g j _ t (0,0) h1];have hlt:=(Rm.1 hv).1;rw [RX,RC hlt];exact hv
structure Ro (w0:World) (g off:Nat) (xs:List Value):Prop where
 lt:g<w0.heap.size
 cells:Cells w0 g off xs
theorem Ro.later {w w0:World} {H:List Blk} {g off:Nat} {xs:List Value} (h:Ro w0 g off xs) (hm:Mem w0 w H):Cells w g off xs:=
 fun j v hv=>(hm.below.cell (p:=⟨g,off+j,none⟩) h.lt).trans (h.cells j v hv)
theorem Cells.drop {w:World} {g off k:Nat} {xs:List Value} (h:Cells w g off xs):Cells w g (off+k) (xs.drop k):=fun j v hv=>by
 rw [Sw] at hv;rw [SC];exact h _ v hv
theorem Cells.take {w:World} {g off k:Nat} {xs:List Value} (h:Cells w g off xs):Cells w g off (xs.take k):=fun j v hv=>by
 rw [Uo] at hv;split at hv
 ·exact h _ v hv
 ·cases hv
theorem dU {x:Operand} {t T g off:Nat} {xs:List Value} {v:Value} [One P t] (hx:ev s x=some (.pointer (some ⟨g,off,none⟩))) (hi:In (.box g T xs) H) (hv:xs[off]? =some v):
 VOp P w0 s H (.load t x) ty v:=fun ρ w _ _ _ _ hρ hm=>by
 have hc:=hm.cells_box hi off v hv;rw [Rv] at hc;simp [execOp,hρ x _ hx,Instr.loadAt,Instr.sureAddr,dK (P:=P) hc]
theorem aq {x:Operand} {t T g off m c sz:Nat} {xs:List Value} {v:Value} [One P t] (hx:ev s x=some (.pointer (some ⟨g,off,none⟩))) (hi:In (.own (some g) T sz m c xs) H) (hv:xs[off]? =some v):
 VOp P w0 s H (.load t x) ty v:=fun ρ w _ _ _ _ hρ hm=>by
 have hc:=hm.cells_own hi off v hv;rw [Rv] at hc;simp [execOp,hρ x _ hx,Instr.loadAt,Instr.sureAddr,dK (P:=P) hc]
theorem aN {x:Operand} {t g o off:Nat} {xs:List Value} {v:Value} [One P t] (hr:Ro w0 g o xs) (hx:ev s x=some (.pointer (some ⟨g,o+off,none⟩))) (hv:xs[off]? =some v):
 VOp P w0 s H (.load t x) ty v:=fun ρ w _ _ _ _ hρ hm=>by
 simp [execOp,hρ x _ hx,Instr.loadAt,Instr.sureAddr,dK (P:=P) (hr.later hm off v hv)]
theorem tz {x:Operand} {t T g off m:Nat} {xs ys:List Value} [Agg P t m] (hx:ev s x=some (.pointer (some ⟨g,off,none⟩))) (hi:In (.box g T xs) H) (hv:(xs.drop off).take m=ys) (hl:ys.length=m):
 VOp P w0 s H (.load t x) ty (.agg ys.toArray):=fun ρ w _ _ _ _ hρ hm=>by
 subst hv;have hc:Cells w g off ((xs.drop off).take m):=by
  have:=((hm.cells_box hi).drop (k:=off)).take (k:=m);rwa [Rv] at this
 simp [execOp,hρ x _ hx,Instr.loadAt,Instr.sureAddr,iN (P:=P) hl hc]
theorem aO {x:Operand} {t T g off m n' c sz:Nat} {xs ys:List Value} [Agg P t m] (hx:ev s x=some (.pointer (some ⟨g,off,none⟩))) (hi:In (.own (some g) T sz n' c xs) H) (hv:(xs.drop off).take m=ys) (hl:ys.length=m):
 VOp P w0 s H (.load t x) ty (.agg ys.toArray):=fun ρ w _ _ _ _ hρ hm=>by
 subst hv;have hc:Cells w g off ((xs.drop off).take m):=by
  have:=((hm.cells_own hi).drop (k:=off)).take (k:=m);rwa [Rv] at this
 simp [execOp,hρ x _ hx,Instr.loadAt,Instr.sureAddr,iN (P:=P) hl hc]
theorem cD {x:Operand} {t g o off m:Nat} {xs ys:List Value} [Agg P t m] (hr:Ro w0 g o xs) (hx:ev s x=some (.pointer (some ⟨g,o+off,none⟩))) (hv:(xs.drop off).take m=ys) (hl:ys.length=m):
 VOp P w0 s H (.load t x) ty (.agg ys.toArray):=fun ρ w _ _ _ _ hρ hm=>by
 subst hv;have hc:Cells w g (o+off) ((xs.drop off).take m):=((hr.later hm).drop (k:=off)).take (k:=m);simp [execOp,hρ x _ hx,Instr.loadAt,Instr.sureAddr,iN (P:=P) hl hc]
end
section
variable {P:Program} {n:Fr} {w0:World} {Q:bS} {s:az} {H:List Blk} {ty:TypeId}
theorem vv {x ix:Operand} {t e g off m j sz:Nat} {k:IntKind} [ht:Und P t (.array m e)] [hs:Size P e sz] (hx:ev s x=some (.pointer (some ⟨g,off,none⟩))) (hi:ev s ix=some (.int k (j:Nat)))
 (hj:j<m):VOp P w0 s H (.indexAddr t x ix) ty (.pointer (some ⟨g,off+j*sz,none⟩)):=fun ρ w _ _ _ _ hρ _=>by
 obtain ⟨i,h1,h2⟩:=hs.out;have hj' :(j:Int)<(m:Int):=by omega
 have h0:(0:Int)≤(j:Int):=by omega
 have hadd:(⟨g,off,none⟩:Addr).add (j*sz)=⟨g,off+j*sz,none⟩:=by
  unfold Addr.add;split<;>simp_all
 simp [execOp,hρ x _ hx,hρ ix _ hi,Instr.indexAt,run_underlying ht.out,asIntOf,sizeOf,typeInfo,h1,h2,hadd,Instr.sureAddr];try omega
theorem yz {x ix:Operand} {t e g off m sz:Nat} {k:IntKind} [ht:Und P t (.array m e)] [hs:Size P e sz] (hx:ev s x=some (.pointer (some ⟨g,off,none⟩))) (hi:ev s ix=some (.int k 0)) (hj:Nat.blt 0 m=true):
 VOp P w0 s H (.indexAddr t x ix) ty (.pointer (some ⟨g,off,none⟩)):=by
 have h:=vv (P:=P) (w0:=w0) (H:=H) (ty:=ty) (t:=t) (j:=0) hx hi (by simpa using hj);rwa [UA,Tw] at h
theorem yx {x ix:Operand} {t e g off m sz:Nat} {k:IntKind} [ht:Und P t (.array m e)] [hs:Size P e sz] (hx:ev s x=some (.pointer (some ⟨g,off,none⟩))) (hi:ev s ix=some (.int k 1)) (hj:Nat.blt 1 m=true):
 VOp P w0 s H (.indexAddr t x ix) ty (.pointer (some ⟨g,off+sz,none⟩)):=by
 have h:=vv (P:=P) (w0:=w0) (H:=H) (ty:=ty) (t:=t) (j:=1) hx hi (by simpa using hj);rwa [TT] at h
end
section
variable {P:Program} {n:Fr} {w0:World} {Q:bS} {s:az} {H:List Blk} {l rest:List Oper} {ty:TypeId} {p:String} {af:Array Edge}
theorem EN {t lo hi:Nat} {a:ByteArray} {x q r:Operand} {k k' :IntKind} [ht:Und P t .string] (hx:ev s x=some (.string a)) (hr:ev s r=some (.int k' (lo:Nat))) (hq:ev s q=some (.int k (hi:Nat))) (h1:lo≤hi) (h2:hi≤a.size):
 VOp P w0 s H (.slice t x (some r) (some q) none) ty (.string (a.extract lo hi)):=fun ρ w _ _ _ _ hρ _=>by
 simp [execOp,hρ x _ hx,hρ q _ hq,hρ r _ hr,Instr.sliceAt,run_underlying ht.out,Instr.slice,Instr.sliceBounds,Instr.sliceBound,asIntOf,h2,h1]
theorem vw {t lo:Nat} {a:ByteArray} {x r:Operand} {k' :IntKind} [ht:Und P t .string] (hx:ev s x=some (.string a)) (hr:ev s r=some (.int k' (lo:Nat))) (h1:lo≤a.size):
 VOp P w0 s H (.slice t x (some r) none none) ty (.string (a.extract lo a.size)):=fun ρ w _ _ _ _ hρ _=>by
 simp [execOp,hρ x _ hx,hρ r _ hr,Instr.sliceAt,run_underlying ht.out,Instr.slice,Instr.sliceBounds,Instr.sliceBound,asIntOf,h1]
theorem O7 {x y:Operand} {a b:ByteArray} {t t' :TypeId} (hx:ev s x=some (.string a)) (hy:ev s y=some (.string b)) (h:a.size+b.size≤maxLen):VOp P w0 s H (.binOp .add t x y t') ty (.string (a++b)):=fun ρ w _ _ _ _ hρ _=>by
 simp only [maxLen] at h;simp [execOp,hρ x _ hx,hρ y _ hy,eqGuard,binOp,Op.stringOp];omega
theorem fS {x:Operand} {t:TypeId} {v:Value} {d:TypeDesc} [ht:Und P t d] (hd: ∀ m,d≠ .interface m) (hx:ev s x=some v):VOp P w0 s H (.makeInterface t x) ty (.iface t v):=fun ρ w _ _ _ _ hρ _=>by
 cases d<;>first|(exact absurd rfl (hd _))|simp [execOp,hρ x _ hx,Instr.makeInterface,run_underlying ht.out]
end
end Go.SL
namespace Go.SL
open Go
structure Rct where
 c1:Int
 r1:Int
 c2:Int
 r2:Int
structure Vl where
 kind:Int
 num:Int
 text:ByteArray
structure Nd where
 kind:Int
 v:Vl
 rect:Rct
 op:Int
 fn:Int
 n:Int
def jp (r:Rct):List Value:= [.int .i64 r.c1,.int .i64 r.r1,.int .i64 r.c2,.int .i64 r.r2]
def d9 (v:Vl):List Value:= [.int .u8 v.kind,.int .i64 v.num,.string v.text]
def bf (n:Nd):List Value:=
 [.int .u8 n.kind,.int .u8 n.v.kind,.int .i64 n.v.num,.string n.v.text,.int .i64 n.rect.c1,.int .i64 n.rect.r1,.int .i64 n.rect.c2,.int .i64 n.rect.r2,.int .i64 n.op,.int .u8 n.fn,.int .i64 n.n]
def valid (c r:Int):Bool:=decide (1≤c) && decide (c≤1024) && decide (1≤r) && decide (r≤1024)
def dL (r:Rct):Bool:=valid r.c1 r.r1 && valid r.c2 r.r2 && decide (r.c1≤r.c2) && decide (r.r1≤r.r2)
def pI (r:Rct):Int:=bif dL r then 0 else 3
def oq (b:ByteArray):Bool:=b.data.toList.all fun c=>decide (32≤c.toNat) && decide (c.toNat≤126)
def jL (b:ByteArray):Int:=bif decide (256<b.size) then 5 else bif oq b then 0 else 4
def ax:ByteArray:=⟨#[]⟩
def vp (v:Vl):Bool:=
 bif decide (v.kind=0) then decide (v.num=0) && decide (v.text=ax)
 else bif decide (v.kind=1) then decide (v.text=ax) && decide (v.num≠ -9223372036854775808)
 else bif decide (v.kind=2) then decide (v.text=ax) && decide (v.num / 2=0)
 else bif decide (v.kind=3) then decide (v.num=0) && decide (jL v.text=0)
 else bif decide (v.kind=4) then decide (v.text=ax) && decide (1≤v.num) && decide (v.num≤6)
 else false
def pX (v:Vl):Int:=bif vp v then 0 else 2
def cV (fn:Int):Bool:=decide (1≤fn) && decide (fn≤50)
def jf (fn:Int):Bool:=decide (46≤fn) && decide (fn≤50)
def fa (fn:Int):Int × Int × Int:=
 if fn=5∨fn=6∨fn=7∨fn=25∨fn=39∨fn=40∨fn=18∨fn=19∨fn=45∨fn=44 then (2,2,0)
 else if fn=20∨fn=41∨fn=43 then (2,3,0)
 else if fn=32∨fn=33 then (1,2,0)
 else if fn=34 then (3,3,0)
 else if fn=21∨fn=22∨fn=23∨fn=38∨fn=9∨fn=10∨fn=11∨fn=12∨fn=14∨fn=15∨fn=16∨fn=17 then (1,16,0)
 else if fn=30 then (2,16,0)
 else if cV fn then (1,1,0) else (0,0,10)
def kB (fn i:Int):Bool × Int:=
 if (fa fn).2.2≠0 then (false,(fa fn).2.2)
 else if i<0∨(fa fn).2.1≤i then (false,3)
 else if fn=9∨fn=10∨fn=11∨fn=12∨fn=14∨fn=15∨fn=16∨fn=17 then (true,0)
 else if fn=44 then (decide (i=1),0)
 else if fn=18∨fn=19∨fn=45∨fn=43∨fn=13 then (decide (i=0),0)
 else (jf fn,0)
def below (n:Nd):Int:=
 if n.kind=4∨n.kind=5 then 1 else if n.kind=6 then 2 else if n.kind=7 then n.n else 0
def aS:Rct:=⟨0,0,0,0⟩
def bK:Vl:=⟨0,0,ax⟩
def du (n:Nd):Nd:=
 if n.kind=1 then ⟨n.kind,n.v,aS,0,0,0⟩
 else if n.kind=2∨n.kind=3 then ⟨n.kind,bK,n.rect,0,0,0⟩
 else if n.kind=6 then ⟨n.kind,bK,aS,n.op,0,0⟩
 else if n.kind=7 then ⟨n.kind,bK,aS,0,n.fn,n.n⟩
 else ⟨n.kind,bK,aS,0,0,0⟩
def Hn (v:Vl):Bool:=
 (if v.kind=0 then false else if v.kind=1 then decide (0≤v.num) else if v.kind=4 then decide (1≤v.num) && decide (v.num≤5) else true) && decide (pX v=0)
def K7 (r:Rct):Bool:=decide (r.c1=r.c2) && decide (r.r1=r.r2)
def fj (n:Nd):Bool:=
 if n.kind=1 then Hn n.v
 else if n.kind=2∨n.kind=3 then decide (pI n.rect=0) && (K7 n.rect==decide (n.kind=2))
 else if n.kind=4∨n.kind=5 then true
 else if n.kind=6 then decide (1≤n.op) && decide (n.op≤12)
 else if n.kind=7 then decide (0≤n.n)
 else false
def eqV (a b:Vl):Bool:=decide (a.kind=b.kind) && (decide (a.num=b.num) && decide (a.text=b.text))
def eqR (a b:Rct):Bool:=decide (a.c1=b.c1) && (decide (a.r1=b.r1) && (decide (a.c2=b.c2) && decide (a.r2=b.r2)))
def eqN (a b:Nd):Bool:=decide (a.kind=b.kind) && (eqV a.v b.v && (eqR a.rect b.rect && (decide (a.op=b.op) && (decide (a.fn=b.fn) && decide (a.n=b.n)))))
theorem AV {a b:Vl}:eqV a b=true↔a=b:=by
 obtain ⟨a1,a2,a3⟩:=a;obtain ⟨b1,b2,b3⟩:=b;simp [eqV]
theorem HA {a b:Rct}:eqR a b=true↔a=b:=by
 obtain ⟨a1,a2,a3,a4⟩:=a;obtain ⟨b1,b2,b3,b4⟩:=b;simp [eqR]
theorem HB {a b:Nd}:eqN a b=true↔a=b:=by
 obtain ⟨a1,a2,a3,a4,a5,a6⟩:=a;obtain ⟨b1,b2,b3,b4,b5,b6⟩:=b;simp [eqN,AV,HA]
theorem Mj (a b:Int):(a==b)=decide (a=b):=by rw [Sc];simp
def bB (n:Nd):Int:=
 if fj n=false∨eqN n (du n)=false then 2
 else if n.kind≠7 then 0
 else if (fa n.fn).2.2≠0 then (fa n.fn).2.2
 else if n.n<(fa n.fn).1∨(fa n.fn).2.1<n.n then 11
 else 0
structure Pt where
 root:Nat
 depth:Nat
 wide:Bool
def sU (p:Pt):List Value:= [.int .i64 (p.root:Int),.int .i64 (p.depth:Int),.bool p.wide]
theorem cu (n:Nd):(bf n).length=11:=rfl
theorem oM (p:Pt):(sU p).length=3:=rfl
def jm (L:List Nd) (i:Nat):Int:=((L[i]?).map Nd.kind).getD 0
def Dl (n:Nd) (i:Int):Bool:=if n.kind=7 then (kB n.fn i).1 else false
def sK (L:List Nd) (n:Nd) (i:Int) (p:Pt):Bool:=
 !(p.wide && !Dl n i) && !(decide (n.kind=7) && jf n.fn && decide (jm L p.root≠2) && decide (jm L p.root≠3))
def eG (L:List Nd) (n:Nd):Int→List Pt→Bool
 |_,[]=>true
 |i,p::r=>sK L n i p && eG L n (i+1) r
def bn (st:List Pt) (k:Nat):List Pt:=st.drop (st.length - k)
def cg (top:List Pt):Nat:=top.foldl (fun d p=>max d (p.depth+1)) 1
def jC (L:List Nd) (n:Nd) (i:Nat) (st:List Pt):Int ⊕ (List Pt × List Nat × Nat):=
 if bB n≠0 then .inl (bB n)
 else if (st.length:Int)<below n∨eG L n 0 (bn st (below n).toNat)=false then .inl 4
 else if 32<cg (bn st (below n).toNat) then .inl 9
 else .inr (st.take (st.length - (below n).toNat)++ [⟨i,cg (bn st (below n).toNat),decide (n.kind=3)⟩],(bn st (below n).toNat).map Pt.root,cg (bn st (below n).toNat))
abbrev mK:=List Nat × Nat
def fu (L:List Nd):List Nd→Nat→List Pt→List mK→Int × List mK
 | [],_,st,vs=>(if st.length=1 then 0 else 4,vs)
 |n::r,i,st,vs=>match jC L n i st with
  | .inl e=>(e,vs)
  | .inr (st',kids,d)=>fu L r (i+1) st' (vs++ [(kids,d)])
end Go.SL
namespace Go.Proofs
open Go Go.Shelf Go.RowKit Go.Lib Go.Sort Go.SL
def N9 (a b:Int):Int:=if a<b then -1 else if b<a then 1 else 0
def orI (a b c d:Int):Int:=if a≠0 then a else if b≠0 then b else if c≠0 then c else d
def Nr (a b:Rct):Int:=orI (N9 a.r1 b.r1) (N9 a.c1 b.c1) (N9 a.r2 b.r2) (N9 a.c2 b.c2)
end Go.Proofs
namespace Go.SL
open Go
def ap (b:ByteArray):List Int:=b.data.toList.map fun c=>(c.toNat:Int)
theorem av (b:ByteArray):(ap b).length=b.size:=by simp [ap]
theorem ra (b:ByteArray) (i:Nat) (h:i<b.size):(ap b)[i]'(by rw [av];exact h)=(b[i].toNat:Int):=by
 simp [ap];rfl
instance iN1:DecidableEq Vl:=fun a b=>decidable_of_iff (eqV a b=true) AV
instance iN2:DecidableEq Nd:=fun a b=>decidable_of_iff (eqN a b=true) HB
theorem Hy (a b:Vl):eqV a b=decide (a=b):=by rw [Sc,AV];simp
theorem AW (a b:Nd):eqN a b=decide (a=b):=by rw [Sc,HB];simp
structure Rf where
 col:Int
 row:Int
def aB (a:Rf):List Value:= [.int .i64 a.col,.int .i64 a.row]
theorem eW (a:Rf):(aB a).length=2:=rfl
def eqF (a b:Rf):Bool:=decide (a.col=b.col) && decide (a.row=b.row)
theorem HC {a b:Rf}:eqF a b=true↔a=b:=by
 obtain ⟨a1,a2⟩:=a;obtain ⟨b1,b2⟩:=b;simp [eqF]
instance iN3:DecidableEq Rf:=fun a b=>decidable_of_iff (eqF a b=true) HC
theorem o5 (a b:Rf):eqF a b=decide (a=b):=by rw [Sc,HC];simp
def Rf.valid (a:Rf):Bool:=Go.SL.valid a.col a.row
structure Us where
 rect:Rct
 node:Int
 fn:Int
def cP (u:Us):List Value:= [.int .i64 u.rect.c1,.int .i64 u.rect.r1,.int .i64 u.rect.c2,.int .i64 u.rect.r2,.int .i64 u.node,.int .u8 u.fn]
theorem kW (u:Us):(cP u).length=6:=rfl
def eqU (a b:Us):Bool:=eqR a.rect b.rect && (decide (a.node=b.node) && decide (a.fn=b.fn))
theorem Hz {a b:Us}:eqU a b=true↔a=b:=by
 obtain ⟨a1,a2,a3⟩:=a;obtain ⟨b1,b2,b3⟩:=b;simp [eqU,HA]
instance iN4:DecidableEq Us:=fun a b=>decidable_of_iff (eqU a b=true) Hz
theorem NT (a b:Us):eqU a b=decide (a=b):=by rw [Sc,Hz];simp
structure Tk where
 kind:Int
 num:Int
 text:ByteArray
 rect:Rct
 at_:Int
def bh (t:Tk):List Value:= [.int .u8 t.kind,.int .i64 t.num,.string t.text,.int .i64 t.rect.c1,.int .i64 t.rect.r1,.int .i64 t.rect.c2,.int .i64 t.rect.r2,.int .i64 t.at_]
theorem zj (t:Tk):(bh t).length=8:=rfl
def dA:Tk:=⟨0,0,ax,⟨0,0,0,0⟩,0⟩
def aH (c:Int):Bool:=decide (48≤c) && decide (c≤57)
def bT (c:Int):Bool:=(decide (65≤c) && decide (c≤90))||(decide (97≤c) && decide (c≤122))
def cY (c:Int):Bool:=bT c||aH c
def upC (c:Int):Int:=if 97≤c∧c≤122 then c - 32 else c
def aG (p:Int→Bool):List Int→Nat
 | []=>0
 |c::r=>if p c then aG p r+1 else 0
def bE:List Int→Int→Int
 | [],v=>v
 |c::r,v=>bE r (10*v+(c - 48))
def cN:Int:=9223372036854775807
def mkB (l:List Int):ByteArray:=⟨(l.map fun n=>UInt8.ofNat n.toNat).toArray⟩
def bZ (l:List Int):Nat:=match l with
 |46::r=>aG aH r
 |_=>0
def lC (l:List Int):Option (Int × Nat):=
 let w:=aG aH l;let p:=bZ (l.drop w)
 if w=0∨4<p then none
 else
  let v:=bE (l.take w++(l.drop (w+1)).take p++List.replicate (4 - p) 48) 0
  if cN<v then none else some (v,if p=0 then w else w+1+p)
def lj:List Int→Option (List Int × Nat)
 | []=>none
 |c::r=>
  if c≠34 then (lj r).map fun x=>(c::x.1,x.2+1)
  else match r with
   | []=>some ([],1)
   |d::r' =>if d=34 then (lj r').map fun x=>(34::x.1,x.2+2) else some ([],1)
def bu:List Int→Int→Int
 | [],v=>v
 |c::r,v=>bu r (min (26*v+(upC c - 64)) 1025)
def nK:List Int→Int→Int
 | [],v=>v
 |c::r,v=>nK r (min (10*v+(c - 48)) 1025)
def cy (l:List Int):Int × Int × Int:=
 let a:=l.takeWhile bT;let d:=l.dropWhile bT
 if a= []∨d= []∨d.head? =some 48∨d.all aH=false then (0,0,4)
 else if 1024<bu a 0∨1024<nK d 0 then (0,0,3)
 else (bu a 0,nK d 0,0)
def kN (c r:Int):Rct:=⟨c,r,c,r⟩
def eH:List (List Int):= [[35,68,73,86,47,48,33],[35,86,65,76,85,69,33],[35,78,85,77,33],[35,78,47,65],[35,82,69,70,33]]
def kV (l:List Int):List (List Int)→Int→Option (Int × Nat)
 | [],_=>none
 |s::r,code=>if (l.take s.length).map upC=s then some (code,s.length) else kV l r (code+1)
def fK:List (List Int × Int):= [([60,62],8),([60,61],10),([62,61],12),([43],1),([45],2),([42],3),([47],4),([94],5),([38],6),([61],7),([60],9),([62],11),([37],13)]
def opL (l:List Int):List (List Int × Int)→Option (Int × Nat)
 | []=>none
 |(s,k)::r=>if l.take s.length=s then some (k,s.length) else opL l r
def bG (c:Int):Bool:=decide (32≤c) && decide (c≤126)
end Go.SL
namespace Go.Proofs
open Go Go.Shelf Go.RowKit Go.Lib Go.Sort Go.SL
def Tryz.sortRc_ren:Go.Shelf.Ren:=⟨fun|6=>107|15=>86|14=>170|28=>131|29=>132|20=>214|21=>215|22=>216|23=>217|24=>218|25=>219|26=>220|27=>221|46=>266|47=>174|48=>175|49=>267|50=>268|57=>291|n=>n,fun|22=>132|24=>61|25=>183|3=>3|39=>159|0=>0|53=>209|55=>49|4=>4|46=>202|45=>201|50=>76|5=>5|9=>9|66=>245|70=>249|76=>292|77=>293|n=>n,fun|n=>n⟩
theorem Tryz.sortRc:Go.Proofs.SlLaysF0.n6 Tryz.prog Tryz.sortRc_ren:={
 mixed:=by kernel_rfl
 f6:=⟨Tryz.f107.name,by decide,Tryz.func107.trans (congrArg some (by kernel_rfl))⟩
 f14:=⟨Tryz.f170.name,by decide,Tryz.func170.trans (congrArg some (by kernel_rfl))⟩
 f15:=Tryz.func86.trans (congrArg some (by kernel_rfl))
 f20:=⟨Tryz.f214.name,by decide,Tryz.func214.trans (congrArg some (by kernel_rfl))⟩
 f21:=⟨Tryz.f215.name,by decide,Tryz.func215.trans (congrArg some (by kernel_rfl))⟩
 f22:=⟨Tryz.f216.name,by decide,Tryz.func216.trans (congrArg some (by kernel_rfl))⟩
 f23:=⟨Tryz.f217.name,by decide,Tryz.func217.trans (congrArg some (by kernel_rfl))⟩
 f24:=⟨Tryz.f218.name,by decide,Tryz.func218.trans (congrArg some (by kernel_rfl))⟩
 f25:=⟨Tryz.f219.name,by decide,Tryz.func219.trans (congrArg some (by kernel_rfl))⟩
 f26:=⟨Tryz.f220.name,by decide,Tryz.func220.trans (congrArg some (by kernel_rfl))⟩
 f27:=⟨Tryz.f221.name,by decide,Tryz.func221.trans (congrArg some (by kernel_rfl))⟩
 f28:=Tryz.func131.trans (congrArg some (by kernel_rfl))
 f29:=Tryz.func132.trans (congrArg some (by kernel_rfl))
 f46:=⟨Tryz.f266.name,by decide,Tryz.func266.trans (congrArg some (by kernel_rfl))⟩
 f47:=Tryz.func174.trans (congrArg some (by kernel_rfl))
 f48:=Tryz.func175.trans (congrArg some (by kernel_rfl))
 f49:=⟨Tryz.f267.name,by decide,Tryz.func267.trans (congrArg some (by kernel_rfl))⟩
 f50:=⟨Tryz.f268.name,by decide,Tryz.func268.trans (congrArg some (by kernel_rfl))⟩
 f57:=⟨Tryz.f291.name,by decide,Tryz.func291.trans (congrArg some (by kernel_rfl))⟩
 t0:=Tryz.underlying0
 a0:=Tryz.isAgg0
 z0:=Tryz.sizeOf0
 v0:=Tryz.zeroValue0
 t3:=Tryz.underlying3
 a3:=Tryz.isAgg3
 z3:=Tryz.sizeOf3
 v3:=Tryz.zeroValue3
 t4:=Tryz.underlying4
 a4:=Tryz.isAgg4
 z4:=Tryz.sizeOf4
 v4:=Tryz.zeroValue4
 t5:=Tryz.underlying5
 a5:=Tryz.isAgg5
 z5:=Tryz.sizeOf5
 v5:=Tryz.zeroValue5
 t9:=Tryz.underlying9
 a9:=Tryz.isAgg9
 z9:=Tryz.sizeOf9
 v9:=Tryz.zeroValue9
 t22:=Tryz.underlying132
 a22:=Tryz.isAgg132
 z22:=Tryz.sizeOf132
 v22:=Tryz.zeroValue132
 t25:=Tryz.underlying183
 a25:=Tryz.isAgg183
 z25:=Tryz.sizeOf183
 v25:=Tryz.zeroValue183
 t39:=Tryz.underlying159
 a39:=Tryz.isAgg159
 z39:=Tryz.sizeOf159
 v39:=Tryz.zeroValue159
 t45:=Tryz.underlying201
 a45:=Tryz.isAgg201
 z45:=Tryz.sizeOf201
 v45:=Tryz.zeroValue201
 t46:=Tryz.underlying202
 a46:=Tryz.isAgg202
 z46:=Tryz.sizeOf202
 v46:=Tryz.zeroValue202
 t50:=Tryz.underlying76
 a50:=Tryz.isAgg76
 z50:=Tryz.sizeOf76
 v50:=Tryz.zeroValue76
 t53:=Tryz.underlying209
 a53:=Tryz.isAgg209
 z53:=Tryz.sizeOf209
 v53:=Tryz.zeroValue209
 t55:=Tryz.underlying49
 a55:=Tryz.isAgg49
 z55:=Tryz.sizeOf49
 v55:=Tryz.zeroValue49
 t66:=Tryz.underlying245
 a66:=Tryz.isAgg245
 z66:=Tryz.sizeOf245
 v66:=Tryz.zeroValue245
 t70:=Tryz.underlying249
 a70:=Tryz.isAgg249
 z70:=Tryz.sizeOf249
 v70:=Tryz.zeroValue249
 t76:=Tryz.underlying292
 a76:=Tryz.isAgg292
 z76:=Tryz.sizeOf292
 v76:=Tryz.zeroValue292
 t77:=Tryz.underlying293
 a77:=Tryz.isAgg293
 z77:=Tryz.sizeOf293
 v77:=Tryz.zeroValue293 }
end Go.Proofs
namespace Go.SL
open Go Go.Proofs Go.Sort Go.Shelf
def sortRc (L:List Rct):List Rct:=L.mergeSort fun x y=> !(ltOf Nr y x)
end Go.SL
namespace Go.SL
open Go
theorem AC (b:ByteArray) (i j:Nat):ap (b.extract i j)=((ap b).drop i).take (j - i):=by
 simp only [ap,ByteArray.data_extract,Array.toList_extract,List.extract_eq_take_drop,List.map_take,List.map_drop]
def iU (l:List Int):Prop:= ∀ c∈l,0≤c∧c<256
theorem nD (b:ByteArray):iU (ap b):=by
 intro c hc;simp only [ap,RG] at hc;obtain ⟨u,_,rfl⟩:=hc;have:=u.toNat_lt;omega
theorem oG {l:List Int} (h:iU l):ap (mkB l)=l:=by
 simp only [ap,mkB,SZ];conv=>rhs;rw [← List.map_id l]
 apply Sx;intro c hc;have:=h c hc;simp only [Function.comp,id_eq,UInt8.toNat_ofNat'];omega
theorem mi (b:ByteArray):mkB (ap b)=b:=by
 apply ByteArray.ext;apply Array.ext';simp only [mkB,ap,SZ];conv=>rhs;rw [← List.map_id b.data.toList]
 apply Sx;intro c _;simp [Function.comp]
theorem wU {a b:ByteArray} (h:ap a=ap b):a=b:=by rw [← mi a,← mi b,h]
theorem Lm {b:ByteArray} {l:List Int} (h:ap b=l):b=mkB l:=by rw [← h,mi]
theorem bY (p:Int→Bool): ∀ l,aG p l≤l.length
 | []=>Rg _
 |c::r=>by
  simp only [aG];split
  ·have:=bY p r;simp;omega
  ·exact QZ _
theorem qK {p:Int→Bool} {l:List Int} {i:Nat} (h:l.length≤i):aG p (l.drop i)=0:=by
 rw [RK h];rfl
theorem kG {p:Int→Bool}: ∀ (l:List Int) (i:Nat) (c:Int),i<aG p l→l[i]? =some c→p c=true
 | [],i,c,h,_=>by simp [aG] at h
 |a::r,i,c,h,hc=>by
  simp only [aG] at h;split at h
  ·rename_i ha
   cases i with
   |zero=>simp at hc;subst hc;exact ha
   |succ i=>exact kG r i c (by omega) (by simpa using hc)
  ·omega
end Go.SL
namespace Go.SL
open Go Go.RowKit
section
variable {P:Program} {n:Fr} {w0:World} {Q:bS} {s:az} {H:List Blk} {l rest:List Oper} {ty:TypeId} {p:String} {af:Array Edge}
def gd:List Oper→Nat→Option Nat
 | [],_=>none
 |o::_,0=>o.dst
 |_::r,j+1=>gd r j
theorem Qz (l:List Oper) (j:Nat):(l.toArray[j]?).bind (·.dst)=gd l j:=by
 rw [RX]
 induction l generalizing j with
 |nil=>simp [gd]
 |cons o l ih=>cases j with
  |zero=>simp [gd]
  |succ j=>simpa [gd] using ih j
def kY:Value→Option Bool
 | .bool b=>some b
 |_=>none
theorem iq {a:Act} {j d:Nat} {v:Value} (hs:St n s a) (hj:gd l j=some d) (hv:look s d=some v):
 yielded l.toArray a.tmps j=kY v:=by
 unfold yielded;rw [Qz,hj];simp [hs.has d v hv];cases v<;>rfl
theorem MH {op:Op} {dst:Option Tmp} {j d:Nat} {du:Bool} (hj:gd l j=some d) (hv:look s d=some (.bool du))
 (k:WL P n w0 l.toArray (⟨dst,op,ty,p,af,none⟩::rest) Q s H):WL P n w0 l.toArray (⟨dst,op,ty,p,af,some (j,du)⟩::rest) Q s H:=by
 intro a w hs hm;have h:=k a w hs hm;have hy:=iq hs hj hv;simp only [wpList,Region.wanted,if_true] at h;simp only [wpList,Region.wanted,hy,kY,beq_self_eq_true,if_true];exact h
theorem Kd {op:Op} {dst j d:Nat} {du:Bool} {v:Value} (hj:gd l j=some d) (hv:look s d=some v) (hw:kY v≠some du) (hn:Nat.blt dst n.sz=true)
 (k:WL P n w0 l.toArray rest Q ((dst,undef)::s) H):WL P n w0 l.toArray (⟨some dst,op,ty,p,af,some (j,du)⟩::rest) Q s H:=by
 intro a w hs hm;have hy:=iq hs hj hv;have:(yielded l.toArray a.tmps j==some du)=false:=by rw [hy];simpa using hw
 simp only [wpList,Region.wanted,this];exact k _ _ (hs.put (Sa ▸ hn) _) hm
theorem St.shadow {a:Act} {d:Nat} {v:Value} (hs:St n s a) (hv:look s d=some v):St n ((d,v)::s) a:=
 ⟨hs.size,hs.defers,fun t u hu=>by
  rw [jk] at hu;by_cases e:d=t
  ·subst e;rw [if_pos rfl] at hu;exact hs.has d u (hv.trans hu)
  ·rw [if_neg e] at hu;exact hs.has t u hu⟩
theorem HV {op:Op} {dst:Option Tmp} {j d:Nat} {du b:Bool} (_hj:gd l j=some d) (hv:look s d=some (.bool b))
 (k1:b=true→WL P n w0 l.toArray (⟨dst,op,ty,p,af,some (j,du)⟩::rest) Q ((d,.bool true)::s) H)
 (k2:b=false→WL P n w0 l.toArray (⟨dst,op,ty,p,af,some (j,du)⟩::rest) Q ((d,.bool false)::s) H):
 WL P n w0 l.toArray (⟨dst,op,ty,p,af,some (j,du)⟩::rest) Q s H:=by
 intro a w hs hm
 cases b with
 |true=>exact k1 rfl a w (hs.shadow hv) hm
 |false=>exact k2 rfl a w (hs.shadow hv) hm
theorem qA {op:Op} {H' :List Blk} {ops:Array Oper} (h: ∀ a w,St n s a→Mem w0 w H→ ∃ w',(execOp a.eval ⟨none,op,ty,p,af,none⟩).run P w= .ok .skip w' ∧Mem w0 w' H')
 (k:WL P n w0 ops rest Q s H'):WL P n w0 ops (⟨none,op,ty,p,af,none⟩::rest) Q s H:=by
 intro a w hs hm;obtain ⟨w',hr,hm'⟩:=h a w hs hm;refine wpList_plain rfl fun K hK=> ?_;simp only [Oper.wp,hr,Oper.upon];exact hK _ _ (k _ _ (hs.put_none _) hm')
theorem gD {w:World} {t T g off:Nat} {cur:Array Value} {v:Value} {vs:List Value} {m:Nat} [hz:Size P t m] (hv:v.cells=vs.toArray) (hl:vs.length=m) (h1: ∀ u∈vs,u.oneCell' =true)
 (hg:w.heap[g]? =some (.cells cur T (0,0))) (hfit:off+m≤cur.size):
 (storeVar t ⟨g,off,none⟩ v).run P w= .ok () (w.setRow g (cur.toList.take off++vs++cur.toList.drop (off+m)).toArray):=by
 obtain ⟨i,hi,hs⟩:=hz.out;have hst:=run_storeCells_at P g off T vs 0 cur w hg (by simpa [hl] using hfit) h1;simp only [Tw,hl] at hst;have hsz:v.cells.size=i.size:=by rw [hv,hs,← hl];simp
 have hsz' :vs.length=i.size:=hl.trans hs.symm;simp [storeVar,sizeOf,typeInfo,hi,hsz',hv,hst]
theorem gC (w:World) (g:Nat) (cs:Array Value):w.grownBy (w.setRow g cs) (some g):=
 ⟨rfl,rfl,rfl,by simp,fun k _ hk=>setRow_other w g k _ (fun e=>hk (by rw [e]))⟩
theorem uY {ops:Array Oper} {t T g off m:Nat} {x a:Operand} {xs vs:List Value} {v:Value} {R:List Blk} [Size P t m] (ha:ev s a=some (.pointer (some ⟨g,off,none⟩))) (hx:ev s x=some v)
 (hsel:Sel (.box g T xs) H R) (hv:v.cells=vs.toArray) (hl:vs.length=m) (h1: ∀ u∈vs,u.oneCell' =true) (hfit:off+m≤xs.length)
 (k:WL P n w0 ops rest Q s (.box g T (xs.take off++vs++xs.drop (off+m))::R)):WL P n w0 ops (⟨none,.store t a x,ty,p,af,none⟩::rest) Q s H:=by
 refine qA (fun a' w hs hm=> ?_) k;have hm' :=hm.sel hsel;have hb:=(hm'.on _ QY).1;simp only [Blk.on] at hb;have hr:=gD (P:=P) (t:=t) (off:=off) hv hl h1 hb (by simpa using hfit);simp only at hr;refine ⟨_,?_,hm'.upd (gC _ _ _) (b' := .box g T (xs.take off++vs++xs.drop (off+m))) (setRow_heap _ _ _ _ _ _ hb) fun k hk=> .inl hk⟩;simp [execOp,hs.eval a _ ha,hs.eval x _ hx,Instr.storeAt,Instr.sureAddr,hr]
theorem nY (xs:List Value) (off:Nat) (v:Value) (h:off<xs.length):xs.take off++ [v]++xs.drop (off+1)=xs.set off v:=by
 rw [List.set_eq_take_append_cons_drop,if_pos h];simp
theorem zH {ops:Array Oper} {t T g off:Nat} {x a:Operand} {xs:List Value} {v:Value} {R:List Blk} [Size P t 1] (ha:ev s a=some (.pointer (some ⟨g,off,none⟩))) (hx:ev s x=some v)
 (hsel:Sel (.box g T xs) H R) (hv:v.oneCell' =true) (hfit:Nat.blt off xs.length=true)
 (k:WL P n w0 ops rest Q s (.box g T (xs.set off v)::R)):WL P n w0 ops (⟨none,.store t a x,ty,p,af,none⟩::rest) Q s H:=by
 have hf:off<xs.length:=by simpa using hfit
 refine uY (m:=1) ha hx hsel (vs:= [v]) (by cases v<;>first|rfl|cases hv) rfl (by simpa using hv) (by omega) ?_;rw [nY _ _ _ hf];exact k
theorem mP {ops:Array Oper} {t T g off m sz n' c:Nat} {x a:Operand} {xs vs:List Value} {v:Value} {R:List Blk} [Size P t m] (ha:ev s a=some (.pointer (some ⟨g,off,none⟩))) (hx:ev s x=some v)
 (hsel:Sel (.own (some g) T sz n' c xs) H R) (hv:v.cells=vs.toArray) (hl:vs.length=m) (h1: ∀ u∈vs,u.oneCell' =true) (hfit:off+m≤xs.length)
 (k:WL P n w0 ops rest Q s (.own (some g) T sz n' c (xs.take off++vs++xs.drop (off+m))::R)):WL P n w0 ops (⟨none,.store t a x,ty,p,af,none⟩::rest) Q s H:=by
 refine qA (fun a' w hs hm=> ?_) k;have hm' :=hm.sel hsel;obtain ⟨h2,h3,h4,junk,h5,hb⟩:=(hm'.on _ QY).1;have hr:=gD (P:=P) (t:=t) (off:=off) hv hl h1 hb (by simp;omega);simp only at hr;have he:(xs++junk).take off++vs++(xs++junk).drop (off+m)=(xs.take off++vs++xs.drop (off+m))++junk:=by
  rw [TA (by omega),UH hfit];simp
 rw [he] at hr;have hlen:(xs.take off++vs++xs.drop (off+m)).length=xs.length:=by simp;omega
 refine ⟨_,?_,hm'.upd (gC _ _ _) (b' := .own (some g) T sz n' c (xs.take off++vs++xs.drop (off+m)))
  ⟨hlen.trans h2,h3,h4,junk,by rw [QT,hlen,← QT];exact h5,setRow_heap _ _ _ _ _ _ hb⟩ fun k hk=> .inl hk⟩
 simp [execOp,hs.eval a _ ha,hs.eval x _ hx,Instr.storeAt,Instr.sureAddr,hr]
theorem aU {ops:Array Oper} {t T g off sz n' c:Nat} {x a:Operand} {xs:List Value} {v:Value} {R:List Blk} [Size P t 1] (ha:ev s a=some (.pointer (some ⟨g,off,none⟩))) (hx:ev s x=some v)
 (hsel:Sel (.own (some g) T sz n' c xs) H R) (hv:v.oneCell' =true) (hfit:off<xs.length)
 (k:WL P n w0 ops rest Q s (.own (some g) T sz n' c (xs.set off v)::R)):WL P n w0 ops (⟨none,.store t a x,ty,p,af,none⟩::rest) Q s H:=by
 refine mP (m:=1) ha hx hsel (vs:= [v]) (by cases v<;>first|rfl|cases hv) rfl (by simpa using hv) (by omega) ?_;rw [nY _ _ _ hfit];exact k
theorem nM {op:Op} {d:Nat} {ops:Array Oper} (hn:Nat.blt d n.sz=true) {B:Nat→Blk} {v:Nat→Value}
 (h: ∀ a w,St n s a→Mem w0 w H→ ∃ w',(execOp a.eval ⟨some d,op,ty,p,af,none⟩).run P w= .ok (.value (v w.heap.size)) w' ∧w.grownBy w' none∧(B w.heap.size).on w' ∧(B w.heap.size).key=some w.heap.size)
 (k: ∀ g,WL P n w0 ops rest Q ((d,v g)::s) (B g::H)):WL P n w0 ops (⟨some d,op,ty,p,af,none⟩::rest) Q s H:=by
 intro a w hs hm;obtain ⟨w',hr,hg,hb,hk⟩:=h a w hs hm;refine wpList_plain rfl fun K hK=> ?_;simp only [Oper.wp,hr,Oper.upon];refine hK _ _ (k w.heap.size _ _ (hs.put (Sa ▸ hn) _) (hm.new hg hb fun k hk' => ?_));rw [hk] at hk';injection hk' with hk';omega
class ZeroC (P:Program) (t:TypeId) (zs:outParam (List Value)):Prop where
 out: ∃ i z,P.info? t=some i∧i.zero=some z∧z.cells=zs.toArray
theorem BB {d t:Nat} {zs:List Value} {ops:Array Oper} [hz:ZeroC P t zs] (hn:Nat.blt d n.sz=true)
 (k: ∀ g,WL P n w0 ops rest Q ((d,.pointer (some ⟨g,0,none⟩))::s) (.box g t zs::H)):WL P n w0 ops (⟨some d,.alloc t,ty,p,af,none⟩::rest) Q s H:=by
 refine nM (B:=fun g=> .box g t zs) (v:=fun g=> .pointer (some ⟨g,0,none⟩)) hn (fun a w hs hm=> ?_) k;obtain ⟨i,z,h1,h2,h3⟩:=hz.out;refine ⟨w.alloc (.cells z.cells t),?_,World.grownBy_alloc w _ none,?_,rfl⟩
 ·simp [execOp,Instr.alloc,zeroValue,typeInfo,h1,h2,newVar,newRow]
 ·simp only [Blk.on,← h3];exact heap_alloc_new w _
theorem Kf {d t:Nat} {x:Operand} {v:Value} {vs:List Value} {ops:Array Oper} (hn:Nat.blt d n.sz=true) (hx:ev s x=some v) (hv:v.cells=vs.toArray)
 (k: ∀ g,WL P n w0 ops rest Q ((d,.pointer (some ⟨g,0,none⟩))::s) (.box g t vs::H)):WL P n w0 ops (⟨some d,.box t x,ty,p,af,none⟩::rest) Q s H:=by
 refine nM (B:=fun g=> .box g t vs) (v:=fun g=> .pointer (some ⟨g,0,none⟩)) hn (fun a w hs hm=> ?_) k;refine ⟨w.alloc (.cells v.cells t),?_,World.grownBy_alloc w _ none,?_,rfl⟩
 ·simp [execOp,hs.eval x _ hx,Instr.box,newVar,newRow]
 ·simp only [Blk.on,← hv];exact heap_alloc_new w _
theorem MI {d t:Nat} {x:Operand} {vs:List Value} {ops:Array Oper} (hn:Nat.blt d n.sz=true) (hx:ev s x=some (.agg vs.toArray))
 (k: ∀ g,WL P n w0 ops rest Q ((d,.pointer (some ⟨g,0,none⟩))::s) (.box g t vs::H)):WL P n w0 ops (⟨some d,.box t x,ty,p,af,none⟩::rest) Q s H:=
 Kf hn hx rfl k
theorem MJ {d t:Nat} {x:Operand} {v:Value} {ops:Array Oper} (hn:Nat.blt d n.sz=true) (hx:ev s x=some v) (hv:v.oneCell' =true)
 (k: ∀ g,WL P n w0 ops rest Q ((d,.pointer (some ⟨g,0,none⟩))::s) (.box g t [v]::H)):WL P n w0 ops (⟨some d,.box t x,ty,p,af,none⟩::rest) Q s H:=
 Kf hn hx (by cases v<;>first|rfl|cases hv) k
theorem Blk.own_of {w:World} {g e sz m c:Nat} {xs:List Value} (hg:w.heap[g]? =some (.cells xs.toArray e (0,0))) (hl:xs.length=m*sz) (hc:m=c) (hm:c≤maxLen):(Blk.own (some g) e sz m c xs).on w:=by
 subst hc;exact ⟨hl,Rg _,hm,[],by simpa using hl,by simpa using hg⟩
def uo:List Value→Option (List Value)
 | []=>some []
 |x::r=>match uo r with
  |some r' =>some (x::r')
  |none=>none
theorem jv: ∀ {xs ys:List Value},uo xs=some ys→ys=xs
 | [],ys,h=>by simp only [uo,Option.some.injEq] at h;exact h.symm
 |x::r,ys,h=>by
  simp only [uo] at h;split at h
  ·rename_i r' hr;simp only [Option.some.injEq] at h;rw [← h,jv hr]
  ·cases h
def evd (s:az):List (Nat × Operand)→Nat→Option (List Value)
 | [],_=>some []
 |(i,x)::r,k=>bif Nat.beq i k then (match ev s x,evd s r (k+1) with|some v,some vs=>some (v::vs)|_,_=>none) else none
theorem uP {a:Act} (hs:St n s a): ∀ {ps:List (Nat × Operand)} {vs:List Value} {k:Nat},evd s ps k=some vs→(ps.map fun (x:Nat × Operand)=>(x.1,a.eval x.2))=(vs.zipIdx k).map fun x=>(x.2,x.1)
 | [],vs,k,h=>by simp only [evd,Option.some.injEq] at h;simp [← h]
 |(i,x)::r,vs,k,h=>by
  simp only [evd] at h
  cases hb:Nat.beq i k with
  |false=>rw [hb] at h;cases h
  |true=>
   have hik:=R0 hb;rw [hb] at h;simp only [cond_true] at h;split at h
   ·rename_i v vs' hv hvs;simp only [Option.some.injEq] at h;rw [← h,RP,uP hs hvs,UU,RP,hs.eval x v hv,hik]
   ·cases h
def flat (vs:List Value):List Value:=vs.flatMap fun v=>v.cells.toList
def yL (sz:Nat):List Value→Bool
 | []=>true
 |v::r=>Nat.beq v.cells.size sz && yL sz r
theorem oT {sz:Nat}: ∀ {vs:List Value},yL sz vs=true→ ∀ v∈vs,v.cells.size=sz
 | [],_,v,hv=>by cases hv
 |u::r,h,v,hv=>by
  simp only [yL,RB] at h;rcases RF.1 hv with rfl|hv
  ·exact R0 h.1
  ·exact oT h.2 v hv
theorem tV {sz:Nat}: ∀ {vs:List Value},(∀ v∈vs,v.cells.size=sz)→(flat vs).length=vs.length*sz
 | [],_=>by simp [flat]
 |v::r,h=>by
  have ih:=tV (vs:=r) (fun u hu=>h u (Rh _ hu));have hv:=h v QY;simp only [flat,Rl,QT,Array.length_toList,Rk,Tg,TT] at ih ⊢;omega
theorem xO {d t e m sz by_:Nat} {ps:List (Nat × Operand)} {vs xs:List Value} {ops:Array Oper} [ht:Und P t (.slice e)] [he:Elem P e sz by_] (hn:Nat.blt d n.sz=true) (hps:evd s ps 0=some vs)
 (hl:vs.length=m) (hsz:yL sz vs=true) (hx:uo (flat vs)=some xs) (hm0:Nat.blt 0 m=true) (hsm:Nat.ble (m*sz) 16777216=true)
 (k: ∀ g,WL P n w0 ops rest Q ((d,.slice (some ⟨g,0,none⟩) m m)::s) (.own (some g) e sz m m xs::H)):WL P n w0 ops (⟨some d,.buildSlice t m ps.toArray,ty,p,af,none⟩::rest) Q s H:=by
 refine nM (B:=fun g=> .own (some g) e sz m m xs) (v:=fun g=> .slice (some ⟨g,0,none⟩) m m) hn (fun a w hs hm=> ?_) k;obtain ⟨i,z,h1,h2,h3,h4,h5,h6⟩:=he.out;have hm1:0<m:=by simpa using hm0
 have hsm1:m*sz≤16777216:=by simpa using hsm
 have hall:=oT hsz;have hlen:xs.length=m*sz:=by rw [jv hx,tV hall,hl]
 have hfill:=Great.fill_whole h6 vs ((Array.range (m*i.size)).map (z.cells[· % z.cells.size]!)) hall (by simp [hl,h2]);rw [← uP hs hps] at hfill;have hr:=run_buildSlice (P:=P) w t e m (ps.map fun x=>(x.1,a.eval x.2)).toArray _ i z ht.out h1 h4 (by rw [h2];omega) (by rw [h2];exact Nat.ne_of_gt (Nat.mul_pos hm1 h6)) (by rw [h2] at hfill ⊢;exact hfill);refine ⟨_,?_,World.grownBy_alloc w _ none,Blk.own_of (e:=e) (xs:=xs) (by rw [jv hx];exact heap_alloc_new w _) hlen rfl ?_,rfl⟩
 ·simp only [execOp,Tp];simp only [Sem.run_bind,hr,Result.andThen_ok,Sem.run_pure,flat]
 ·have:m≤m*sz:=Nat.le_mul_of_pos_right m h6;simp only [maxLen];omega
theorem eu {d t e n' c m c' g2 o2 sz by_:Nat} {A:Option Nat} {x y:Operand} {xs news:List Value} {R:List Blk} {ops:Array Oper} [ht:Und P t (.slice e)] [he:Elem P e sz by_] (hn:Nat.blt d n.sz=true)
 (hx:ev s x=some (sl A n' c)) (hy:ev s y=some (.slice (some ⟨g2,o2,none⟩) m c')) (hsel:Sel (.own A e sz n' c xs) H R)
 (hnews: ∀ w,Mem w0 w H→Cells w g2 o2 news) (hl:news.length=m*sz) (h1: ∀ u∈news,u.oneCell' =true) (hby:(n' +m)*by_≤140737488355328) (h63:n' +m≤maxLen)
 (k: ∀ A' cap',(0<n' +m→ ∃ g,A' =some g)→WL P n w0 ops rest Q ((d,sl A' (n' +m) cap')::s) (.own A' e sz (n' +m) cap' (xs++news)::R)):
 WL P n w0 ops (⟨some d,.call { callee:= .builtin .append,args:= #[x,y],argTypes:= #[t,t] },ty,p,af,none⟩::rest) Q s H:=by
 intro a w hs hm;have hm' :=hm.sel hsel;obtain ⟨i,z,i1,i2,i3,i4,i5,i6⟩:=he.out;have hb:=(hm'.on _ QY);have hown:w.ownsRow w0.heap.size e sz (sl A n' c) n' xs:=by
  obtain ⟨⟨b1,b2,b3,b4⟩,b5⟩:=hb;refine ⟨b1,?_⟩
  cases A with
  |none=>obtain ⟨rfl,rfl⟩:=b4;exact .inl ⟨rfl,rfl⟩
  |some g=>
   obtain ⟨junk,j1,j2⟩:=b4;refine .inr ⟨g,c,_,rfl,b5 g rfl,j2,b2,b3,by simpa using j1,?_⟩;simp only [Ul];rw [← b1,TQ]
 obtain ⟨v',w',hr,h2,h3,h4,h5⟩:=run_append_own_at (P:=P) w w0.heap.size t ty e i z sz by_ ht.out i1 i4 i2 i3 i5 i6 (sl A n' c) n' xs hown ⟨g2,o2,none⟩ m c' news hl
  (fun j u hu=>by rw [dr];exact hnews w hm j u hu) h1 h63 hby hm.below.size
 have hsh: ∃ A' cap',v' =sl A' (n' +m) cap' ∧(Blk.own A' e sz (n' +m) cap' (xs++news)).on w' ∧(0<n' +m→ ∃ g,A' =some g):=by
  obtain ⟨q1,q2⟩:=h2;rcases q2 with ⟨rfl,q3⟩|⟨g,cap,cur,rfl,_,q4,q5,q6,q7,q8⟩
  ·refine ⟨none,0,by rw [q3];rfl,⟨q1,by omega,QZ _,q3,rfl⟩,fun h=>by omega⟩
  ·refine ⟨some g,cap,rfl,⟨q1,q5,q6,cur.toList.drop ((n' +m)*sz),?_,?_⟩,fun _=>⟨g,rfl⟩⟩
   ·rw [← q8,Sd];simpa using q7
   ·rw [← q8,Sd];simpa using q4
 obtain ⟨A',cap',rfl,hon,hsome⟩:=hsh;refine wpList_plain rfl fun K hK=> ?_;unfold Oper.wp execOp;simp only [resolve,invoke,builtin,Sem.run_bind,Sem.run_pure,Result.andThen_ok,Tp,RP,SE,hs.eval x _ hx,hs.eval y _ hy,hr,Oper.upon];have hkey: ∀ (B:Option Nat) (q r:Nat),(sl B q r).ownBlock=B:=fun B q r=>by cases B<;>rfl
 rw [hkey] at h3;refine hK _ _ (k A' cap' hsome _ _ (hs.put (Sa ▸ hn) _) (hm'.upd h3 hon fun j hj=> ?_));rw [hkey,hkey] at h5;simp only [Blk.key] at hj ⊢;rcases h5 with h5|h5
 ·left;rw [← h5];exact hj
 ·right;rw [h5] at hj;injection hj with hj;omega
theorem aI {c:Code} (e sz:Nat) (k:W P n w0 c Q s (.own none e sz 0 0 []::H)):W P n w0 c Q s H:=fun a w hs hm=>
 k a w hs (hm.new (b:= .own none e sz 0 0 []) ⟨rfl,rfl,rfl,Rg _,fun _ _ _=>rfl⟩ ⟨by simp,Rg _,QZ _,rfl,rfl⟩ (fun k hk=>by cases hk))
theorem zL {ops:Array Oper} {H' :List Blk} (hH:MSub H' H) (h:WL P n w0 ops rest Q s H'):WL P n w0 ops rest Q s H:=
 fun a w hst hm=>h a w hst (hH.use hm)
theorem J9 {d t e lo hi m c sz:Nat} {A:Option Addr} {x:Operand} {xl xh:Option Operand} {ops:Array Oper} [ht:Und P t (.slice e)] [hz:Size P e sz] (hn:Nat.blt d n.sz=true) (hx:ev s x=some (.slice A m c))
 (hxl:match xl with|none=>lo=0|some q=> ∃ k,ev s q=some (.int k (lo:Nat))) (hxh:match xh with|none=>hi=m|some q=> ∃ k,ev s q=some (.int k (hi:Nat))) (h1:lo≤hi) (h2:hi≤c)
 (k: ∀ B,(B=if c=lo then A else A.map (·.add (lo*sz)))→WL P n w0 ops rest Q ((d,.slice B (hi - lo) (c - lo))::s) H):WL P n w0 ops (⟨some d,.slice t x xl xh none,ty,p,af,none⟩::rest) Q s H:=by
 refine uF rfl d rfl hn (fun a w hs hm=> ?_) (k _ rfl);obtain ⟨i,hi1,hi2⟩:=hz.out;have e1:((lo:Nat):Int)≤((hi:Nat):Int):=by omega
 have e2:((hi:Nat):Int)≤((c:Nat):Int):=by omega
 have e3:((0:Nat):Int)≤((hi:Nat):Int):=by omega
 cases xl with
 |none=>
  cases xh with
  |none=>
   simp only at hxl hxh;subst hxl hxh;simp [execOp,hs.eval x _ hx,Instr.sliceAt,run_underlying ht.out,Instr.slice,Instr.sliceBounds,sizeOf,typeInfo,hi1]
  |some q=>
   simp only at hxl hxh;subst hxl;obtain ⟨kk,hq⟩:=hxh;simp [execOp,hs.eval x _ hx,hs.eval q _ hq,Instr.sliceAt,run_underlying ht.out,Instr.slice,Instr.sliceBounds,Instr.sliceBound,asIntOf,sizeOf,typeInfo,hi1,h2]
 |some ql=>
  obtain ⟨kl,hql⟩:=hxl
  cases xh with
  |none=>
   simp only at hxh;subst hxh;simp [execOp,hs.eval x _ hx,hs.eval ql _ hql,Instr.sliceAt,run_underlying ht.out,Instr.slice,Instr.sliceBounds,Instr.sliceBound,asIntOf,sizeOf,typeInfo,hi1,hi2,h1]
  |some q=>
   obtain ⟨kk,hq⟩:=hxh;simp [execOp,hs.eval x _ hx,hs.eval q _ hq,hs.eval ql _ hql,Instr.sliceAt,run_underlying ht.out,Instr.slice,Instr.sliceBounds,Instr.sliceBound,asIntOf,sizeOf,typeInfo,hi1,hi2,h1,h2]
end
theorem DS {s:az} {ρ:Operand→Value} (hρ: ∀ x u,ev s x=some u→ρ x=u): ∀ {ps:List (Nat × Operand)} {vs:List Value} {k:Nat},evd s ps k=some vs→(ps.map fun (x:Nat × Operand)=>(x.1,ρ x.2))=(vs.zipIdx k).map fun x=>(x.2,x.1)
 | [],vs,k,h=>by simp only [evd,Option.some.injEq] at h;simp [← h]
 |(i,x)::r,vs,k,h=>by
  simp only [evd] at h
  cases hb:Nat.beq i k with
  |false=>rw [hb] at h;cases h
  |true=>
   have hik:=R0 hb;rw [hb] at h;simp only [cond_true] at h;split at h
   ·rename_i v vs' hv hvs;simp only [Option.some.injEq] at h;rw [← h,RP,DS hρ hvs,UU,RP,hρ x v hv,hik]
   ·cases h
theorem Ie {P:Program} {w0:World} {s:az} {H:List Blk} {ty:TypeId} {t e m sz:Nat} {ps:List (Nat × Operand)} {vs xs zs:List Value} [ht:Und P t (.array m e)] [he:Size P e sz] [hz:ZeroC P t zs] (hps:evd s ps 0=some vs)
 (hs0:Nat.blt 0 sz=true) (hl:Nat.beq (vs.length*sz) zs.length=true) (h1:yL sz vs=true) (hx:uo (flat vs)=some xs):VOp P w0 s H (.build t ps.toArray) ty (.agg xs.toArray):=fun ρ w _ _ _ _ hρ _=>by
 obtain ⟨it,z,i1,i2,i3⟩:=hz.out;obtain ⟨ie,j1,j2⟩:=he.out;have hall:=oT h1;have hlen:=R0 hl;have hfill:=Great.fill_whole (s:=sz) (by simpa using hs0) vs z.cells hall (by rw [i3];simp [hlen]);rw [← DS hρ hps] at hfill;have hb:P.built t (ps.map fun (x:Nat × Operand)=>(x.1,ρ x.2))=some (flat vs).toArray:=by
  unfold Program.built;simp only [i1,ht.out,i2,j1,j2];exact hfill
 have hr:=run_build (P:=P) w t (ps.map fun (x:Nat × Operand)=>(x.1,ρ x.2)).toArray (flat vs).toArray (by simpa using hb);rw [jv hx];simp only [execOp,Tp];simp only [Sem.run_bind,hr,Result.andThen_ok,Sem.run_pure]
end Go.SL
