/-
  Lemmas and walks, put together: Sl1 Ex Sl2 Sl19 Md Md2 Lx Lx2 E1.
-/
import Derived.Deep.LoopGhost
import Derived.Deep.Quiet
import Derived.Laws.OwnMore
import Derived.Maps.AppendAt
import Derived.WalkKit
import Derived.Great.BuildSlice
import Derived.Laws.IdiomRangeMap
import Derived.Laws.Pointers
import Derived.Laws.Slices
import Derived.LoopN
import Derived.OrdersIn
import Derived.RangeFuncOwn
import Derived.RangeFuncRecord
import Derived.RangeFuncSeq
import Derived.Recover
import Derived.Scope
import Derived.Shelf.SlSortCmp.NoneTotal
import Derived.Test.YtoanpdoacdpgeaaGreatDoorChecked
import Derived.WalkSpells
set_option linter.unusedSimpArgs false
set_option linter.unusedVariables false
set_option maxRecDepth 20000
namespace Go.SL
theorem Na:type_of% @List.length_append:=@List.length_append
theorem Nc:type_of% @List.getElem?_eq_getElem:=@List.getElem?_eq_getElem
theorem Nf:type_of% @List.cons_append:=@List.cons_append
theorem Ng:type_of% @List.nil_append:=@List.nil_append
theorem Nh:type_of% @List.length_singleton:=@List.length_singleton
theorem Ni:type_of% @Nat.le_refl:=@Nat.le_refl
theorem Nj:type_of% @List.mem_cons_self:=@List.mem_cons_self
theorem Nk:type_of% @List.take_succ_eq_append_getElem:=@List.take_succ_eq_append_getElem
theorem Nl:type_of% @List.append_nil:=@List.append_nil
theorem Nm:type_of% @Bool.and_eq_true:=@Bool.and_eq_true
theorem Nn:type_of% @List.drop_eq_getElem_cons:=@List.drop_eq_getElem_cons
theorem Np:type_of% @List.flatMap_cons:=@List.flatMap_cons
theorem Nq:type_of% @List.length_drop:=@List.length_drop
theorem Nr:type_of% @List.append_eq:=@List.append_eq
theorem Ns:type_of% @Nat.zero_le:=@Nat.zero_le
theorem Nt:type_of% @List.flatMap_append:=@List.flatMap_append
theorem Nu:type_of% @List.length_take:=@List.length_take
theorem Nv:type_of% @List.mem_cons_of_mem:=@List.mem_cons_of_mem
theorem Nw:type_of% @List.getElem?_eq_some_iff:=@List.getElem?_eq_some_iff
theorem Nx:type_of% @List.getD_eq_getElem?_getD:=@List.getD_eq_getElem?_getD
theorem Ny:type_of% @Nat.zero_add:=@Nat.zero_add
theorem Nz:type_of% @Nat.le_trans:=@Nat.le_trans
theorem NA:type_of% @List.mem_cons:=@List.mem_cons
theorem NB:type_of% @List.length_cons:=@List.length_cons
theorem NC:type_of% @List.drop_of_length_le:=@List.drop_of_length_le
theorem ND:type_of% @Array.getD_eq_getD_getElem?:=@Array.getD_eq_getD_getElem?
theorem NE:type_of% @List.flatMap_nil:=@List.flatMap_nil
theorem NF:type_of% @List.drop_length:=@List.drop_length
theorem NG:type_of% @List.append_assoc:=@List.append_assoc
theorem NH:type_of% @Array.getElem?_eq_some_iff:=@Array.getElem?_eq_some_iff
theorem NI:type_of% @Bool.true_and:=@Bool.true_and
theorem NJ:type_of% @List.mem_append:=@List.mem_append
theorem NK:type_of% @List.eq_nil_of_length_eq_zero:=@List.eq_nil_of_length_eq_zero
theorem NL:type_of% @Bool.eq_iff_iff:=@Bool.eq_iff_iff
theorem NM:type_of% @List.map_cons:=@List.map_cons
theorem NN:type_of% @List.mapM_cons:=@List.mapM_cons
theorem NP:type_of% @Nat.eq_of_beq_eq_true:=@Nat.eq_of_beq_eq_true
theorem NQ:type_of% @List.take_of_length_le:=@List.take_of_length_le
theorem NR:type_of% @List.pairwise_cons:=@List.pairwise_cons
theorem NS:type_of% @List.mem_singleton:=@List.mem_singleton
theorem NT:type_of% @List.mapM_nil:=@List.mapM_nil
theorem NU:type_of% @List.mem_flatMap:=@List.mem_flatMap
theorem NV:type_of% @Bool.and_false:=@Bool.and_false
theorem NW:type_of% @List.getElem_mem:=@List.getElem_mem
theorem NX:type_of% @Bool.and_true:=@Bool.and_true
theorem NY:type_of% @Bool.false_and:=@Bool.false_and
theorem NZ:type_of% @List.getElem?_toArray:=@List.getElem?_toArray
theorem N0:type_of% @List.take_length:=@List.take_length
theorem N7:type_of% @Nat.blt_eq:=@Nat.blt_eq
theorem N8:type_of% @List.take_append_drop:=@List.take_append_drop
theorem N9:type_of% @Nat.eq_zero_or_pos:=@Nat.eq_zero_or_pos
theorem Od:type_of% @Option.map_eq_some_iff:=@Option.map_eq_some_iff
theorem Oe:type_of% @List.take_succ_cons:=@List.take_succ_cons
theorem Oh:type_of% @Option.map_some:=@Option.map_some
theorem Oi:type_of% @List.length_map:=@List.length_map
theorem Oj:type_of% @Bool.and_eq_false_iff:=@Bool.and_eq_false_iff
theorem Ok:type_of% @List.map_append:=@List.map_append
theorem Ol:type_of% @List.getElem?_append_right:=@List.getElem?_append_right
theorem Om:type_of% @List.getElem?_map:=@List.getElem?_map
theorem Oo:type_of% @Bool.false_eq_true:=@Bool.false_eq_true
theorem Ot:type_of% @List.mem_of_mem_take:=@List.mem_of_mem_take
theorem Ou:type_of% @List.all_eq_true:=@List.all_eq_true
theorem Ov:type_of% @Int.toNat_natCast:=@Int.toNat_natCast
theorem Ow:type_of% @List.drop_drop:=@List.drop_drop
theorem Oy:type_of% @List.getElem?_eq_none:=@List.getElem?_eq_none
theorem Oz:type_of% @List.headD_cons:=@List.headD_cons
theorem OA:type_of% @List.take_zero:=@List.take_zero
theorem OB:type_of% @List.getElem?_append_left:=@List.getElem?_append_left
theorem OC:type_of% @List.drop_zero:=@List.drop_zero
theorem OD:type_of% @List.map_nil:=@List.map_nil
theorem OE:type_of% @List.getElem?_drop:=@List.getElem?_drop
theorem OG:type_of% @List.perm_append_comm:=@List.perm_append_comm
theorem OH:type_of% @Int.le_refl:=@Int.le_refl
theorem OI:type_of% @Array.getElem?_append_left:=@Array.getElem?_append_left
theorem OJ:type_of% @List.findIdx?_eq_none_iff:=@List.findIdx?_eq_none_iff
theorem OK:type_of% @Nat.add_assoc:=@Nat.add_assoc
theorem OL:type_of% @List.not_mem_nil:=@List.not_mem_nil
theorem OM:type_of% @List.length_pos_iff:=@List.length_pos_iff
theorem OO:type_of% @Nat.lt_or_ge:=@Nat.lt_or_ge
theorem OP:type_of% @Nat.le_of_ble_eq_true:=@Nat.le_of_ble_eq_true
theorem OQ:type_of% @List.mem_map:=@List.mem_map
theorem OT:type_of% @List.dropLast_concat_getLast:=@List.dropLast_concat_getLast
theorem OU:type_of% @Nat.add_sub_cancel:=@Nat.add_sub_cancel
theorem OV:type_of% @List.length_eq_zero_iff:=@List.length_eq_zero_iff
theorem OW:type_of% @List.findIdx?_eq_some_iff_getElem:=@List.findIdx?_eq_some_iff_getElem
theorem OX:type_of% @Bool.or_eq_true:=@Bool.or_eq_true
theorem OY:type_of% @List.pairwise_append:=@List.pairwise_append
theorem OZ:type_of% @List.map_toArray:=@List.map_toArray
theorem O0:type_of% @List.map_congr_left:=@List.map_congr_left
theorem O1:type_of% @Nat.min_eq_left:=@Nat.min_eq_left
theorem O2:type_of% @Nat.add_zero:=@Nat.add_zero
theorem O3:type_of% @Nat.add_comm:=@Nat.add_comm
theorem O4:type_of% @List.length_nil:=@List.length_nil
theorem O5:type_of% @List.getElem?_take_of_lt:=@List.getElem?_take_of_lt
theorem O6:type_of% @Nat.mul_one:=@Nat.mul_one
theorem O7:type_of% @List.getElem_of_mem:=@List.getElem_of_mem
theorem O8:type_of% @List.foldl_cons:=@List.foldl_cons
theorem O9:type_of% @Array.getElem?_eq_none:=@Array.getElem?_eq_none
theorem Pa:type_of% @Nat.sub_zero:=@Nat.sub_zero
theorem Pb:type_of% @List.length_filter_le:=@List.length_filter_le
theorem Pd:type_of% @ByteArray.size_append:=@ByteArray.size_append
theorem Pe:type_of% @List.mem_of_mem_drop:=@List.mem_of_mem_drop
theorem Pf:type_of% @Bool.or_eq_false_iff:=@Bool.or_eq_false_iff
theorem Ph:type_of% @List.length_set:=@List.length_set
theorem Pj:type_of% @Array.getElem?_setIfInBounds_ne:=@Array.getElem?_setIfInBounds_ne
theorem Pk:type_of% @List.pairwise_singleton:=@List.pairwise_singleton
theorem Pm:type_of% @List.all_cons:=@List.all_cons
theorem Pn:type_of% @Nat.lt_succ_self:=@Nat.lt_succ_self
theorem Po:type_of% @List.take_append_of_le_length:=@List.take_append_of_le_length
theorem Pp:type_of% @List.set_append_right:=@List.set_append_right
theorem Pq:type_of% @Nat.le_succ_of_le:=@Nat.le_succ_of_le
theorem Pr:type_of% @List.mapM_toArray:=@List.mapM_toArray
theorem Ps:type_of% @List.mem_append_left:=@List.mem_append_left
theorem Pu:type_of% @List.tail_drop:=@List.tail_drop
theorem Pv:type_of% @Option.getD_some:=@Option.getD_some
theorem Pw:type_of% @Nat.add_mul:=@Nat.add_mul
theorem Py:type_of% @List.toList_toArray:=@List.toList_toArray
theorem PA:type_of% @List.drop_succ_cons:=@List.drop_succ_cons
theorem PB:type_of% @Array.setIfInBounds_comm:=@Array.setIfInBounds_comm
theorem PE:type_of% @Array.getElem?_replicate:=@Array.getElem?_replicate
theorem PF:type_of% @Int.eq_ofNat_of_zero_le:=@Int.eq_ofNat_of_zero_le
theorem PG:type_of% @BitVec.getLsbD_and:=@BitVec.getLsbD_and
theorem PH:type_of% @BitVec.eq_of_getLsbD_eq:=@BitVec.eq_of_getLsbD_eq
theorem PI:type_of% @List.size_toArray:=@List.size_toArray
theorem PJ:type_of% @Option.map_map:=@Option.map_map
theorem PK:type_of% @List.mem_append_right:=@List.mem_append_right
theorem PL:type_of% @BitVec.eq_of_toNat_eq:=@BitVec.eq_of_toNat_eq
theorem PM:type_of% @Array.getElem?_modify:=@Array.getElem?_modify
theorem PN:type_of% @Nat.succ_le_succ:=@Nat.succ_le_succ
theorem PO:type_of% @List.length_tail:=@List.length_tail
theorem PP:type_of% @List.mem_iff_getElem:=@List.mem_iff_getElem
theorem PQ:type_of% @List.dropLast_concat:=@List.dropLast_concat
theorem PT:type_of% @Nat.le_succ:=@Nat.le_succ
theorem PU:type_of% @List.takeWhile_cons:=@List.takeWhile_cons
theorem PV:type_of% @Int.tdiv_eq_ediv_of_nonneg:=@Int.tdiv_eq_ediv_of_nonneg
theorem PW:type_of% @List.filter_append:=@List.filter_append
theorem PX:type_of% @List.take_take:=@List.take_take
theorem PY:type_of% @List.mem_of_find?_eq_some:=@List.mem_of_find?_eq_some
theorem P0:type_of% @List.getLast?_eq_getElem?:=@List.getLast?_eq_getElem?
theorem P1:type_of% @List.getElem_take:=@List.getElem_take
theorem P2:type_of% @List.foldl_append:=@List.foldl_append
theorem P3:type_of% @Nat.one_mul:=@Nat.one_mul
theorem P4:type_of% @List.getElem?_cons_zero:=@List.getElem?_cons_zero
theorem P5:type_of% @Bool.not_eq_true:=@Bool.not_eq_true
theorem P6:type_of% @Option.map_none:=@Option.map_none
theorem P7:type_of% @Nat.not_lt_zero:=@Nat.not_lt_zero
theorem P8:type_of% @List.map_map:=@List.map_map
theorem P9:type_of% @Int.add_zero:=@Int.add_zero
theorem Qa:type_of% @Bool.not_not:=@Bool.not_not
end Go.SL
namespace Go.SL
open Go Go.RowKit
inductive Blk where
 |box (g:Nat) (ty:TypeId) (xs:List Value)
 |own (A:Option Nat) (ty:TypeId) (size n cap:Nat) (xs:List Value)
 |obj (g:Nat) (o:Obj)
 |byt (g:Nat) (ty:TypeId) (n cap:Nat) (xs:List Value)
def Blk.key:Blk→Option Nat
 | .box g _ _=>some g
 | .own A _ _ _ _ _=>A
 | .obj g _=>some g
 | .byt g _ _ _ _=>some g
def sl (A:Option Nat) (n cap:Nat):Value:= .slice (A.map fun g=>⟨g,0,none⟩) n cap
def Blk.on (w:World):Blk→Prop
 | .box g ty xs=>w.heap[g]? =some (.cells xs.toArray ty (0,0))
 | .own A ty size n cap xs=>xs.length=n*size∧n≤cap∧cap≤maxLen∧
   match A with
   |none=>n=0∧cap=0
   |some g=> ∃ junk:List Value,(xs++junk).length=cap*size∧w.heap[g]? =some (.cells (xs++junk).toArray ty (0,0))
 | .obj g o=>w.heap[g]? =some o
 | .byt g ty n cap xs=>xs.length=n∧n≤cap∧ ∃ junk:List Value,(xs++junk).length=cap∧w.heap[g]? =some (.cells (xs++junk).toArray ty (cap,cap+1))
def Apart (a b:Blk):Prop:= ∀ k,a.key=some k→b.key≠some k
structure Mem (w0 w:World) (H:List Blk):Prop where
 below:Below w0.heap.size w0 w
 on: ∀ b∈H,b.on w∧ ∀ k,b.key=some k→w0.heap.size≤k
 apart:H.Pairwise Apart
theorem Apart.symm {a b:Blk} (h:Apart a b):Apart b a:=fun k hk hk' =>h k hk' hk
abbrev az:=List (Nat × Value)
def look:az→Nat→Option Value
 | [],_=>none
 |(u,v)::r,t=>bif Nat.beq u t then some v else look r t
def ev (s:az):Operand→Option Value
 | .tmp t=>look s t
 | .const v=>some v
 | .global g=>some (.pointer (some ⟨g,0,none⟩))
 | .func f=>some (.func (.func f) #[] #[])
structure Fr where
 sz:Nat
 ds:List Deferred
structure St (n:Fr) (s:az) (a:Act):Prop where
 size:a.tmps.size=n.sz
 defers:a.defers=n.ds
 has: ∀ t v,look s t=some v→a.tmps[t]? =some v
theorem St.eval {n:Fr} {s:az} {a:Act} (h:St n s a): ∀ x v,ev s x=some v→a.eval x=v:=by
 intro x v hx
 cases x with
 |tmp t=>simp only [ev] at hx;simp [Act.eval,ND,h.has t v hx]
 |const v=>simp only [ev,Option.some.injEq] at hx;exact hx
 |global g=>simp only [ev,Option.some.injEq] at hx;exact hx
 |func f=>simp only [ev,Option.some.injEq] at hx;exact hx
theorem gW (s:az) (d t:Nat) (v:Value):look ((d,v)::s) t=if d=t then some v else look s t:=by
 simp only [look]
 cases hb:Nat.beq d t with
 |true=>have h:=NP hb;simp [h]
 |false=>have h:=Nat.ne_of_beq_eq_false hb;simp [h]
theorem St.put {n:Fr} {s:az} {a:Act} (h:St n s a) {d:Nat} (hd:d<n.sz) (v:Value):St n ((d,v)::s) (a.put (some d) v):=by
 refine ⟨by simp [Act.put,h.size],h.defers,fun t u hu=> ?_⟩
 rw [gW] at hu
 by_cases e:d=t
 ·
  subst e
  simp only [if_true,Option.some.injEq] at hu
  subst hu
  simp [Act.put,h.size,hd]
 ·
  rw [if_neg e] at hu
  simp only [Act.put]
  rw [Pj e]
  exact h.has t u hu
theorem St.put_none {n:Fr} {s:az} {a:Act} (h:St n s a) (v:Value):St n s (a.put none v):=h
def Sub (s1 s2:az):Prop:= ∀ t v,look s1 t=some v→look s2 t=some v
theorem Sub.nil (s:az):Sub [] s:=fun _ _ h=>by simp [look] at h
theorem Sub.cons {s1 s2:az} {t:Nat} {v:Value} (h:look s2 t=some v) (hs:Sub s1 s2):Sub ((t,v)::s1) s2:=by
 intro u x hx
 rw [gW] at hx
 by_cases e:t=u
 ·
  subst e
  rw [if_pos rfl] at hx
  rw [h];exact hx
 ·
  rw [if_neg e] at hx
  exact hs u x hx
theorem St.sub {n:Fr} {s1 s2:az} {a:Act} (h:St n s2 a) (hs:Sub s1 s2):St n s1 a:=⟨h.size,h.defers,fun t v ht=>h.has t v (hs t v ht)⟩
abbrev bQ:=Exit→az→List Blk→Prop
def post (n:Fr) (w0:World) (Q:bQ):Exit→Act→World→Prop:=fun e a w=> ∃ s H,St n s a∧Mem w0 w H∧Q e s H
def W (P:Program) (n:Fr) (w0:World) (c:Code) (Q:bQ) (s:az) (H:List Blk):Prop:=
 ∀ a w,St n s a→Mem w0 w H→c.wp P (post n w0 Q) a w
def WL (P:Program) (n:Fr) (w0:World) (ops:Array Oper) (rest:List Oper) (Q:bQ) (s:az) (H:List Blk):Prop:=
 ∀ a w,St n s a→Mem w0 w H→wpList P ops (post n w0 Q) rest a w
def thn (K:az→List Blk→Prop) (Q:bQ):bQ
 | .normal,s,H=>K s H
 |e,s,H=>Q e s H
def blk (id:Nat) (Q:bQ):bQ
 | .exit id',s,H=>if id' =id then Q .normal s H else Q (.exit id') s H
 |e,s,H=>Q e s H
section
variable {P:Program} {n:Fr} {w0:World} {Q:bQ} {s:az} {H:List Blk}
theorem Gj {c:Code} {Q' :bQ} (hq: ∀ e s H,Q e s H→Q' e s H) (h:W P n w0 c Q s H):W P n w0 c Q' s H:=
 fun a w hs hm=>wp_mono (h a w hs hm) fun _ _ _ ⟨s,H,h1,h2,h3⟩=>⟨s,H,h1,h2,hq _ _ _ h3⟩
theorem Mc {c:Code} {s' :az} (hs:Sub s' s) (h:W P n w0 c Q s' H):W P n w0 c Q s H:=
 fun a w hst hm=>h a w (hst.sub hs) hm
theorem Me {x y:Code} (h:W P n w0 x (thn (W P n w0 y Q) Q) s H):W P n w0 (.seq x y) Q s H:=by
 intro a w hs hm
 refine wp_seq (wp_mono (h a w hs hm) ?_)
 rintro e a' w' ⟨s',H',h1,h2,h3⟩
 cases e with
 |normal=>exact h3 a' w' h1 h2
 |_=>exact ⟨s',H',h1,h2,h3⟩
theorem K5 (h:Q .normal s H):W P n w0 .skip Q s H:=fun _ _ hs hm=>wp_skip ⟨s,H,hs,hm,h⟩
theorem Mf (h:Q .ret s H):W P n w0 .ret Q s H:=fun _ _ hs hm=>wp_ret ⟨s,H,hs,hm,h⟩
theorem K9 {id:Nat} (h:Q (.exit id) s H):W P n w0 (.exit id) Q s H:=fun _ _ hs hm=>wp_exit ⟨s,H,hs,hm,h⟩
theorem Jw {id:Nat} {c:Code} (h:W P n w0 c (blk id Q) s H):W P n w0 (.block id c) Q s H:=by
 intro a w hs hm
 refine wp_block (wp_mono (h a w hs hm) ?_)
 rintro e a' w' ⟨s',H',h1,h2,h3⟩
 cases e with
 |exit id' =>
  simp only [Exit.inBlock,blk] at h3 ⊢
  split
  ·
   rename_i hid;rw [if_pos hid] at h3;exact ⟨s',H',h1,h2,h3⟩
  ·
   rename_i hid;rw [if_neg hid] at h3;exact ⟨s',H',h1,h2,h3⟩
 |_=>exact ⟨s',H',h1,h2,h3⟩
theorem yw {c:Operand} {x y:Code} (hc:ev s c=some (.bool true)) (h:W P n w0 x Q s H):W P n w0 (.cond c x y) Q s H:=
 fun a w hs hm=>wp_cond_true (hs.eval c _ hc) (h a w hs hm)
theorem wR {c:Operand} {x y:Code} (hc:ev s c=some (.bool false)) (h:W P n w0 y Q s H):W P n w0 (.cond c x y) Q s H:=
 fun a w hs hm=>wp_cond_false (hs.eval c _ hc) (h a w hs hm)
theorem Lb {c:Operand} {x y:Code} {b:Bool} (hc:ev s c=some (.bool b)) (ht:b=true→W P n w0 x Q s H) (hf:b=false→W P n w0 y Q s H):
  W P n w0 (.cond c x y) Q s H:=
 fun a w hs hm=>wp_cond_split (hs.eval c _ hc) (fun e=>ht e a w hs hm) (fun e=>hf e a w hs hm)
end
inductive In (b:Blk):List Blk→Prop
 |hd {T:List Blk}:In b (b::T)
 |tl {x:Blk} {T:List Blk}:In b T→In b (x::T)
inductive Sel (b:Blk):List Blk→List Blk→Prop
 |hd {T:List Blk}:Sel b (b::T) T
 |tl {x:Blk} {T T' :List Blk}:Sel b T T' →Sel b (x::T) (x::T')
theorem In.mem {b:Blk} {H:List Blk} (h:In b H):b∈H:=by
 induction h with
 |hd=>exact Nj
 |tl _ ih=>exact Nv _ ih
theorem Sel.perm {b:Blk} {H T:List Blk} (h:Sel b H T):H.Perm (b::T):=by
 induction h with
 |hd=>exact .refl _
 |tl _ ih=>exact (ih.cons _).trans (.swap _ _ _)
theorem Mem.perm {w0 w:World} {H H' :List Blk} (h:Mem w0 w H) (hp:H.Perm H'):Mem w0 w H' :=
 ⟨h.below,fun b hb=>h.on b (hp.mem_iff.2 hb),(hp.pairwise_iff (fun {_ _} h=>Apart.symm h)).1 h.apart⟩
theorem Mem.sel {w0 w:World} {H T:List Blk} {b:Blk} (h:Mem w0 w H) (hs:Sel b H T):Mem w0 w (b::T):=h.perm hs.perm
theorem Mem.tail {w0 w:World} {T:List Blk} {b:Blk} (h:Mem w0 w (b::T)):Mem w0 w T:=
 ⟨h.below,fun x hx=>h.on x (Nv _ hx),(NR.1 h.apart).2⟩
theorem Mem.left {w0 w:World} {H T:List Blk} (h:Mem w0 w (H++T)):Mem w0 w H:=
 ⟨h.below,fun x hx=>h.on x (Ps _ hx),(OY.1 h.apart).1⟩
theorem Mem.right {w0 w:World} {H T:List Blk} (h:Mem w0 w (H++T)):Mem w0 w T:=
 ⟨h.below,fun x hx=>h.on x (PK _ hx),(OY.1 h.apart).2.1⟩
def MSub (H H' :List Blk):Prop:= ∃ T,H'.Perm (H++T)
theorem MSub.use {H H' :List Blk} (h:MSub H H') {w0 w:World} (hm:Mem w0 w H'):Mem w0 w H:=by
 obtain ⟨T,hp⟩:=h
 exact (hm.perm hp).left
theorem MSub.refl (H:List Blk):MSub H H:=⟨[],by simp⟩
theorem MSub.nil (H:List Blk):MSub [] H:=⟨H,by simp⟩
theorem MSub.pick {b:Blk} {H H' T:List Blk} (hs:Sel b H' T) (h:MSub H T):MSub (b::H) H' :=by
 obtain ⟨U,hp⟩:=h
 exact ⟨U,hs.perm.trans (hp.cons b)⟩
theorem MSub.trans {H H' H'' :List Blk} (h:MSub H H') (k:MSub H' H''):MSub H H'' :=by
 obtain ⟨T,hT⟩:=h
 obtain ⟨U,hU⟩:=k
 exact ⟨T++U,hU.trans (by rw [← NG];exact hT.append_right U)⟩
theorem MSub.drop {H H' T:List Blk} {b:Blk} (hs:Sel b H' T) (h:MSub H T):MSub H H' :=by
 obtain ⟨U,hp⟩:=h
 refine ⟨b::U,hs.perm.trans ((hp.cons b).trans ?_)⟩
 exact List.perm_middle.symm
section
variable {P:Program} {n:Fr} {w0:World} {Q:bQ} {s:az} {H:List Blk}
theorem K6 {c:Code} {H' :List Blk} (hH:MSub H' H) (h:W P n w0 c Q s H'):W P n w0 c Q s H:=
 fun a w hst hm=>h a w hst (hH.use hm)
theorem fq {ι:Type} {c:Code} (sI:ι→az) (HI:ι→List Blk) (ok:ι→Prop) (μ:ι→Nat) (i0:ι) (h0:ok i0) (hs0:Sub (sI i0) s) (hH0:MSub (HI i0) H)
  (round: ∀ i,ok i→W P n w0 c (thn (fun s' H' => ∃ i',ok i' ∧μ i' <μ i∧Sub (sI i') s' ∧MSub (HI i') H') Q) (sI i) (HI i)):W P n w0 (.loop c) Q s H:=by
 intro a w hs hm
 refine wp_loop_ghost (fun k a' w' => ∃ i,ok i∧μ i=k∧St n (sI i) a' ∧Mem w0 w' (HI i)) (μ i0) ⟨i0,h0,rfl,hs.sub hs0,hH0.use hm⟩ ?_
 rintro k a1 w1 ⟨i,hi,rfl,hs1,hm1⟩
 refine wp_mono (round i hi a1 w1 hs1 hm1) ?_
 rintro e a' w' ⟨s',H',h1,h2,h3⟩
 cases e with
 |normal=>
  obtain ⟨i',hi',hlt,hsub,hms⟩:=h3
  exact ⟨μ i',hlt,i',hi',rfl,h1.sub hsub,hms.use h2⟩
 |_=>exact ⟨s',H',h1,h2,h3⟩
end
theorem Blk.on_of_block {w w' :World} {b:Blk} (h:b.on w) (hk: ∀ k,b.key=some k→w'.heap[k]? =w.heap[k]?):b.on w' :=by
 cases b with
 |box g ty xs=>simp only [Blk.on] at h ⊢;rw [hk g rfl];exact h
 |obj g o=>simp only [Blk.on] at h ⊢;rw [hk g rfl];exact h
 |byt g ty m cap xs=>simp only [Blk.on] at h ⊢;rw [hk g rfl];exact h
 |own A ty size m cap xs=>
  simp only [Blk.on] at h ⊢
  refine ⟨h.1,h.2.1,h.2.2.1,?_⟩
  have h4:=h.2.2.2
  cases A with
  |none=>exact h4
  |some g=>
   obtain ⟨junk,hl,hg⟩:=h4
   exact ⟨junk,hl,(hk g rfl).trans hg⟩
theorem Blk.key_lt {w:World} {b:Blk} (h:b.on w) {k:Nat} (hk:b.key=some k):k<w.heap.size:=by
 have: ∃ o,w.heap[k]? =some o:=by
  cases b with
  |box g ty xs=>simp only [Blk.key,Option.some.injEq] at hk;subst hk;exact ⟨_,h⟩
  |obj g o=>simp only [Blk.key,Option.some.injEq] at hk;subst hk;exact ⟨_,h⟩
  |byt g ty m cap xs=>simp only [Blk.key,Option.some.injEq] at hk;subst hk;obtain ⟨_,_,junk,_,hg⟩:=h;exact ⟨_,hg⟩
  |own A ty size m cap xs=>
   simp only [Blk.key] at hk
   subst hk
   obtain ⟨_,_,_,junk,_,hg⟩:=h
   exact ⟨_,hg⟩
 obtain ⟨o,ho⟩:=this
 exact (NH.1 ho).1
theorem Mem.refl (w:World):Mem w w []:=⟨.refl _ _,(fun _ h=>by cases h),List.Pairwise.nil⟩
theorem Mem.drew {w0 w:World} {H:List Blk} (h:Mem w0 w H):Mem w0 { w with drawn:=w.drawn+1 } H:=
 ⟨h.below.drew,fun b hb=>⟨Blk.on_of_block (h.on b hb).1 fun _ _=>rfl,(h.on b hb).2⟩,h.apart⟩
theorem Mem.upd {w0 w w' :World} {b b' :Blk} {T:List Blk} (h:Mem w0 w (b::T)) (hg:w.grownBy w' b.key) (hb:b'.on w')
  (hk: ∀ k,b'.key=some k→b.key=some k∨w.heap.size≤k):Mem w0 w' (b' ::T):=by
 have hap:=NR.1 h.apart
 have hrow: ∀ k,b.key=some k→w0.heap.size≤k:=(h.on b Nj).2
 have hsz:w0.heap.size≤w.heap.size:=h.below.size
 have hlt: ∀ x∈T,∀ k,x.key=some k→k<w.heap.size:=fun x hx k hxk=>Blk.key_lt (h.on x (Nv _ hx)).1 hxk
 refine ⟨h.below.grown hg hsz hrow,fun x hx=> ?_,NR.2 ⟨fun x hx k hk1 hk2=> ?_,hap.2⟩⟩
 ·
  rcases NA.1 hx with rfl|hx
  ·
   refine ⟨hb,fun k hk1=> ?_⟩
   rcases hk k hk1 with h1|h1
   ·
    exact hrow k h1
   ·
    omega
  ·
   refine ⟨Blk.on_of_block (h.on x (Nv _ hx)).1 fun k hxk=> ?_,(h.on x (Nv _ hx)).2⟩
   exact hg.block k (hlt x hx k hxk) fun e=>hap.1 x hx k e.symm hxk
 ·
  rcases hk k hk1 with h1|h1
  ·
   exact hap.1 x hx k h1 hk2
  ·
   have:=hlt x hx k hk2
   omega
theorem Mem.new {w0 w w' :World} {b:Blk} {T:List Blk} (h:Mem w0 w T) (hg:w.grownBy w' none) (hb:b.on w') (hk: ∀ k,b.key=some k→w.heap.size≤k):Mem w0 w' (b::T):=by
 have h0:Mem w0 w (.own none 0 0 0 0 []::T):=
  ⟨h.below,fun x hx=>by
   rcases NA.1 hx with rfl|hx
   ·
    exact ⟨⟨by simp,Ni _,Ns _,rfl,rfl⟩,(fun k hk=>by cases hk)⟩
   ·
    exact h.on x hx,NR.2 ⟨(fun x _ k hk=>by cases hk),h.apart⟩⟩
 exact h0.upd (b:= .own none 0 0 0 0 []) hg hb fun k h1=> .inr (hk k h1)
theorem Mem.call {w0 w w' :World} {H H' :List Blk} (h:Mem w0 w H) (h' :Mem w w' H'):Mem w0 w' (H' ++H):=by
 have hsz:w0.heap.size≤w.heap.size:=h.below.size
 have hold: ∀ x∈H,∀ k,x.key=some k→k<w.heap.size:=fun x hx k hxk=>Blk.key_lt (h.on x hx).1 hxk
 refine ⟨h.below.trans (h'.below.mono hsz),fun x hx=> ?_,OY.2 ⟨h'.apart,h.apart,fun x hx y hy k hk1 hk2=> ?_⟩⟩
 ·
  rcases NJ.1 hx with hx|hx
  ·
   exact ⟨(h'.on x hx).1,fun k hk=>Nz hsz ((h'.on x hx).2 k hk)⟩
  ·
   exact ⟨Blk.on_of_block (h.on x hx).1 fun k hk=>h'.below.block k (hold x hx k hk),(h.on x hx).2⟩
 ·
  have h1:=(h'.on x hx).2 k hk1
  have h2:=hold y hy k hk2
  omega
end Go.SL
namespace Go.SL
open Go
def inB:ByteArray:=⟨#[61,65,49,43,66,49]⟩
def inC:ByteArray:=⟨#[61,68,83,85,77,40,66,49,58,66,51,41]⟩
def inD:ByteArray:=⟨#[61,73,70,69,82,82,79,82,40,65,51,44,48,41,43,49]⟩
end Go.SL
namespace Go.SL
open Go Go.RowKit
def VOp (P:Program) (w0:World) (s:az) (H:List Blk) (op:Op) (ty:TypeId) (v:Value):Prop:=
 ∀ (ρ:Operand→Value) (w:World) (d:Option Tmp) (p:String) (af:Array Edge) (g:Option (Nat × Bool)),
  (∀ x u,ev s x=some u→ρ x=u)→Mem w0 w H→(execOp ρ ⟨d,op,ty,p,af,g⟩).run P w= .ok (.value v) w
section
variable {P:Program} {n:Fr} {w0:World} {Q:bQ} {s:az} {H:List Blk} {ops:Array Oper} {rest:List Oper} {ty:TypeId} {p:String} {af:Array Edge}
theorem ny (h:Q .normal s H):WL P n w0 ops [] Q s H:=fun _ _ hs hm=>wpList_nil ⟨s,H,hs,hm,h⟩
theorem Gi {id:Nat} {l:List Oper} (h:WL P n w0 l.toArray l Q s H):W P n w0 (.region id l.toArray false) Q s H:=
 fun a w hs hm=>wp_region_lit (h a w hs hm)
theorem rk {o:Oper} {v:Value} (hg:Region.wanted o=fun _=>true) (d:Nat) (hd:o.dst=some d) (hn:Nat.blt d n.sz=true)
  (h: ∀ a w,St n s a→Mem w0 w H→(execOp a.eval o).run P w= .ok (.value v) w)
  (k:WL P n w0 ops rest Q ((d,v)::s) H):WL P n w0 ops (o::rest) Q s H:=by
 intro a w hs hm
 refine wpList_step fun K hK=> ?_
 rw [hg,if_pos rfl]
 simp only [Oper.wp,h a w hs hm,Oper.upon,hd]
 exact hK _ _ (k _ _ (hs.put (N7 ▸ hn) v) hm)
theorem ak {op:Op} {d:Nat} {v:Value} (hn:Nat.blt d n.sz=true) (hv:VOp P w0 s H op ty v) (k:WL P n w0 ops rest Q ((d,v)::s) H):
  WL P n w0 ops (⟨some d,op,ty,p,af,none⟩::rest) Q s H:=
 rk rfl d rfl hn (fun _ _ hs hm=>hv _ _ _ _ _ _ hs.eval hm) k
class One (P:Program) (t:TypeId):Prop where
 out: ∃ d,P.underlying t=some d∧(match d with| .struct _| .array _ _=>false|_=>true)=true
class Agg (P:Program) (t:TypeId) (m:outParam Nat):Prop where
 out: ∃ d i,P.underlying t=some d∧(match d with| .struct _| .array _ _=>true|_=>false)=true∧P.info? t=some i∧i.size=m
class Size (P:Program) (t:TypeId) (m:outParam Nat):Prop where
 out: ∃ i,P.info? t=some i∧i.size=m
class Und (P:Program) (t:TypeId) (d:outParam TypeDesc):Prop where
 out:P.underlying t=some d
class Fld (P:Program) (t:TypeId) (f:Nat) (o:outParam Nat):Prop where
 out: ∃ fs fl i,P.underlying t=some (.struct fs)∧fs[f]? =some fl∧fl.offset=o∧P.info? fl.type=some i∧i.size≠0
class Zero (P:Program) (t:TypeId) (z:outParam Value):Prop where
 out: ∃ i,P.info? t=some i∧i.zero=some z
class Elem (P:Program) (t:TypeId) (size bytes:outParam Nat):Prop where
 out: ∃ i z,P.info? t=some i∧i.size=size∧i.bytes=bytes∧i.zero=some z∧z.cells.size=size∧0<size
class Callable (P:Program) (f:FuncId):Prop where
 out: ∀ args w,(callFunc f args).run P w= .ok (.enter f args) w
theorem Lh {x:Operand} {v:Value} (hx:ev s x=some v):VOp P w0 s H (.move x) ty v:=fun ρ w _ _ _ _ hρ _=>by
 simp [execOp,hρ x v hx]
theorem eJ {x:Operand} {v:Value} (hx:ev s x=some v):VOp P w0 s H (.assign x) ty v:=fun ρ w _ _ _ _ hρ _=>by
 simp [execOp,hρ x v hx]
theorem Gu {c a b:Operand} {v:Value} (hc:ev s c=some (.bool true)) (ha:ev s a=some v):VOp P w0 s H (.pick c a b) ty v:=fun ρ w _ _ _ _ hρ _=>by
 simp [execOp,hρ c _ hc,hρ a v ha,asBool]
theorem Gv {c a b:Operand} {v:Value} (hc:ev s c=some (.bool false)) (hb:ev s b=some v):VOp P w0 s H (.pick c a b) ty v:=fun ρ w _ _ _ _ hρ _=>by
 simp [execOp,hρ c _ hc,hρ b v hb,asBool]
section ap
variable {x y:Operand} {k:IntKind} {a b:Int} {t t' :TypeId}
theorem Mm (hx:ev s x=some (.int k a)) (hy:ev s y=some (.int k b)):VOp P w0 s H (.binOp .lss t x y t') ty (.bool (decide (a<b))):=fun ρ w _ _ _ _ hρ _=>by
 simp [execOp,hρ x _ hx,hρ y _ hy,eqGuard,binOp,Op.intCmp]
theorem Mo (hx:ev s x=some (.int k a)) (hy:ev s y=some (.int k b)):VOp P w0 s H (.binOp .leq t x y t') ty (.bool (decide (a≤b))):=fun ρ w _ _ _ _ hρ _=>by
 simp [execOp,hρ x _ hx,hρ y _ hy,eqGuard,binOp,Op.intCmp]
theorem Mp (hx:ev s x=some (.int k a)) (hy:ev s y=some (.int k b)):VOp P w0 s H (.binOp .gtr t x y t') ty (.bool (decide (b<a))):=fun ρ w _ _ _ _ hρ _=>by
 simp [execOp,hρ x _ hx,hρ y _ hy,eqGuard,binOp,Op.intCmp]
theorem Mq (hx:ev s x=some (.int k a)) (hy:ev s y=some (.int k b)):VOp P w0 s H (.binOp .geq t x y t') ty (.bool (decide (b≤a))):=fun ρ w _ _ _ _ hρ _=>by
 simp [execOp,hρ x _ hx,hρ y _ hy,eqGuard,binOp,Op.intCmp]
theorem Mr (hx:ev s x=some (.int k a)) (hy:ev s y=some (.int k b)):VOp P w0 s H (.binOp .eql t x y t') ty (.bool (decide (a=b))):=fun ρ w _ _ _ _ hρ _=>by
 simp [execOp,hρ x _ hx,hρ y _ hy,eqGuard,binOp,Op.intCmp]
 rw [NL];simp
theorem KK (hx:ev s x=some (.int k a)) (hy:ev s y=some (.int k b)):VOp P w0 s H (.binOp .neq t x y t') ty (.bool (decide (a≠b))):=fun ρ w _ _ _ _ hρ _=>by
 simp [execOp,hρ x _ hx,hρ y _ hy,eqGuard,binOp,Op.intCmp,bne]
 rw [NL];simp
def I64 (z:Int):Prop:= -9223372036854775808≤z∧z≤9223372036854775807
theorem I64.wrap {z:Int} (h:I64 z):IntKind.i64.wrap z=z:=by
 rw [IntKind.wrap_i64]
 obtain ⟨h1,h2⟩:=h
 omega
theorem da (hx:ev s x=some (.int .i64 a)) (hy:ev s y=some (.int .i64 b)) (h:I64 (a+b)):VOp P w0 s H (.binOp .add t x y t') ty (.int .i64 (a+b)):=fun ρ w _ _ _ _ hρ _=>by
 simp [execOp,hρ x _ hx,hρ y _ hy,eqGuard,binOp,Op.intArith,h.wrap]
theorem Dp (hx:ev s x=some (.int .i64 a)) (hy:ev s y=some (.int .i64 b)) (h:I64 (a - b)):VOp P w0 s H (.binOp .sub t x y t') ty (.int .i64 (a - b)):=fun ρ w _ _ _ _ hρ _=>by
 simp [execOp,hρ x _ hx,hρ y _ hy,eqGuard,binOp,Op.intArith,h.wrap]
theorem qi (hx:ev s x=some (.int .i64 a)) (hy:ev s y=some (.int .i64 b)) (h:I64 (a*b)):VOp P w0 s H (.binOp .mul t x y t') ty (.int .i64 (a*b)):=fun ρ w _ _ _ _ hρ _=>by
 simp [execOp,hρ x _ hx,hρ y _ hy,eqGuard,binOp,Op.intArith,h.wrap]
theorem rX (hx:ev s x=some (.int k a)) (hy:ev s y=some (.int k b)):VOp P w0 s H (.binOp .add t x y t') ty (.int k (k.wrap (a+b))):=fun ρ w _ _ _ _ hρ _=>by
 simp [execOp,hρ x _ hx,hρ y _ hy,eqGuard,binOp,Op.intArith]
theorem Le (hx:ev s x=some (.int k a)) (hy:ev s y=some (.int k b)):VOp P w0 s H (.binOp .sub t x y t') ty (.int k (k.wrap (a - b))):=fun ρ w _ _ _ _ hρ _=>by
 simp [execOp,hρ x _ hx,hρ y _ hy,eqGuard,binOp,Op.intArith]
theorem Mj (hx:ev s x=some (.int k a)) (hy:ev s y=some (.int k b)) (h:b≠0):VOp P w0 s H (.binOp .rem t x y t') ty (.int k (a.tmod b)):=fun ρ w _ _ _ _ hρ _=>by
 simp [execOp,hρ x _ hx,hρ y _ hy,eqGuard,binOp,Op.intDiv,h]
theorem KL (hx:ev s x=some (.int .i64 a)) (h:I64 (-a)):VOp P w0 s H (.unOp .neg t x) ty (.int .i64 (-a)):=fun ρ w _ _ _ _ hρ _=>by
 simp [execOp,hρ x _ hx,Op.unary,Op.intArith,h.wrap]
theorem BA {k' :IntKind} {d:TypeDesc} [hs:Und P t d] [hd:Und P t' (.int k')] (hx:ev s x=some (.int k a)):VOp P w0 s H (.convert t t' x) ty (.int k' (k'.wrap a)):=fun ρ w _ _ _ _ hρ _=>by
 simp [execOp,hρ x _ hx,convert,run_underlying hs.out,run_underlying hd.out,Conv.intToInt]
end ap
section bools
variable {x y:Operand} {a b:Bool} {t t' :TypeId}
theorem Ml (hx:ev s x=some (.bool a)):VOp P w0 s H (.unOp .not t x) ty (.bool (!a)):=fun ρ w _ _ _ _ hρ _=>by
 simp [execOp,hρ x _ hx,Op.unary]
theorem Lj [ht:Und P t .bool] (hx:ev s x=some (.bool a)) (hy:ev s y=some (.bool b)):VOp P w0 s H (.binOp .eql t x y t') ty (.bool (a==b)):=fun ρ w _ _ _ _ hρ _=>by
 simp [execOp,hρ x _ hx,hρ y _ hy,eqGuard,run_eql_bool w t a b ht.out]
end bools
section strings
variable {x y:Operand} {a b:ByteArray} {t t' :TypeId}
theorem py (a b:ByteArray):(a.toList==b.toList)=decide (a=b):=by
 rw [← beq_toListBytes]
 obtain ⟨⟨x⟩⟩:=a
 obtain ⟨⟨y⟩⟩:=b
 show ((⟨x⟩:Array UInt8)==⟨y⟩)=_
 rw [NL]
 simp
theorem pR (hx:ev s x=some (.string a)) (hy:ev s y=some (.string b)):VOp P w0 s H (.binOp .eql t x y t') ty (.bool (decide (a=b))):=fun ρ w _ _ _ _ hρ _=>by
 simp [execOp,hρ x _ hx,hρ y _ hy,eqGuard,binOp,Op.stringOp,py]
theorem rS (hx:ev s x=some (.string a)) (hy:ev s y=some (.string b)):VOp P w0 s H (.binOp .neq t x y t') ty (.bool (decide (a≠b))):=fun ρ w _ _ _ _ hρ _=>by
 simp [execOp,hρ x _ hx,hρ y _ hy,eqGuard,binOp,Op.stringOp,py]
theorem Gw [ht:Und P t .string] (hx:ev s x=some (.string a)):VOp P w0 s H (.call { callee:= .builtin .len,args:= #[x],argTypes:= #[t] }) ty (.int .i64 (a.size:Int)):=fun ρ w _ _ _ _ hρ _=>by
 simp [execOp,hρ x _ hx,resolve,invoke,builtin,Builtin.len_,run_underlying ht.out,goInt]
end strings
theorem Gx {x:Operand} {A:Option Addr} {m c:Nat} {t e:TypeId} [ht:Und P t (.slice e)] (hx:ev s x=some (.slice A m c)):
  VOp P w0 s H (.call { callee:= .builtin .len,args:= #[x],argTypes:= #[t] }) ty (.int .i64 (m:Int)):=fun ρ w _ _ _ _ hρ _=>by
 simp [execOp,hρ x _ hx,resolve,invoke,builtin,Builtin.len_,run_underlying ht.out,goInt]
theorem gJ {x y:Operand} {a b:Int} {ts:Array TypeId} (hx:ev s x=some (.int .i64 a)) (hy:ev s y=some (.int .i64 b)):
  VOp P w0 s H (.call { callee:= .builtin .max,args:= #[x,y],argTypes:=ts }) ty (.int .i64 (if a<b then b else a)):=fun ρ w _ _ _ _ hρ _=>by
 simp [execOp,hρ x _ hx,hρ y _ hy,resolve,invoke,builtin,run_max_int2]
theorem iA {x y:Operand} {a b:Int} {ts:Array TypeId} (hx:ev s x=some (.int .i64 a)) (hy:ev s y=some (.int .i64 b)):
  VOp P w0 s H (.call { callee:= .builtin .min,args:= #[x,y],argTypes:=ts }) ty (.int .i64 (if b<a then b else a)):=fun ρ w _ _ _ _ hρ _=>by
 simp [execOp,hρ x _ hx,hρ y _ hy,resolve,invoke,builtin,run_min_int2]
theorem Eu {x:Operand} {vs:List Value} {i:Nat} {v:Value} (hx:ev s x=some (.tuple vs.toArray)) (hi:vs[i]? =some v):VOp P w0 s H (.extract x i) ty v:=fun ρ w _ _ _ _ hρ _=>by
 have hi' :vs.toArray[i]? =some v:=by rw [NZ];exact hi
 simp [execOp,hρ x _ hx,Instr.extract,hi]
theorem sv {w:World} {g o off:Nat} {fl:Field} {i:TypeInfo} (ho:fl.offset=o) (hi:P.info? fl.type=some i) (hz:i.size≠0):
  (fieldPlace ⟨g,off,none⟩ fl).run P w= .ok ⟨g,off+o,none⟩ w:=by
 have hz' :(if i.size=0 then true else false)=false:=by simp [hz]
 simp [fieldPlace,sizeOf,typeInfo,hi,hz,Addr.add,ho]
 try (intro h;rw [h])
theorem yE {x:Operand} {t f o g off:Nat} [hf:Fld P t f o] (hx:ev s x=some (.pointer (some ⟨g,off,none⟩))):
  VOp P w0 s H (.fieldAddr t x f) ty (.pointer (some ⟨g,off+o,none⟩)):=fun ρ w _ _ _ _ hρ _=>by
 obtain ⟨fs,fl,i,h1,h2,h3,h4,h5⟩:=hf.out
 simp [execOp,hρ x _ hx,Instr.fieldAt,run_underlying h1,h2,Instr.sureAddr,sv h3 h4 h5]
theorem aj {x ix:Operand} {t e g off m c j sz:Nat} {k:IntKind} [ht:Und P t (.slice e)] [hs:Size P e sz] (hx:ev s x=some (.slice (some ⟨g,off,none⟩) m c)) (hi:ev s ix=some (.int k (j:Nat)))
  (hj:j<m):VOp P w0 s H (.indexAddr t x ix) ty (.pointer (some ⟨g,off+j*sz,none⟩)):=fun ρ w _ _ _ _ hρ _=>by
 obtain ⟨i,h1,h2⟩:=hs.out
 have hj' :(j:Int)<(m:Int):=by omega
 have h0:(0:Int)≤(j:Int):=by omega
 have hadd:(⟨g,off,none⟩:Addr).add (j*sz)=⟨g,off+j*sz,none⟩:=by
  unfold Addr.add;split<;>simp_all
 simp [execOp,hρ x _ hx,hρ ix _ hi,Instr.indexAt,run_underlying ht.out,asIntOf,sizeOf,typeInfo,h1,h2,hadd]
 omega
def Cells (w:World) (g off:Nat) (xs:List Value):Prop:= ∀ j v,xs[j]? =some v→w.cell? ⟨g,off+j,none⟩=some v
theorem cE (g off j:Nat):(⟨g,off,none⟩:Addr).add j=⟨g,off+j,none⟩:=by
 unfold Addr.add;split<;>simp_all
theorem gq {w:World} {t:TypeId} {g off:Nat} {v:Value} [h:One P t] (hc:w.cell? ⟨g,off,none⟩=some v):(loadVar t ⟨g,off,none⟩).run P w= .ok v w:=by
 obtain ⟨d,hd,ho⟩:=h.out
 cases d<;>simp_all [loadVar,isAgg,run_underlying hd]
theorem iT {w:World} {t:TypeId} {g off m:Nat} {xs:List Value} [h:Agg P t m] (hl:xs.length=m) (hc:Cells w g off xs):(loadVar t ⟨g,off,none⟩).run P w= .ok (.agg xs.toArray) w:=by
 obtain ⟨d,i,hd,ho,hi,hs⟩:=h.out
 have h1:=run_loadCells_list (P:=P) w ⟨g,off,none⟩ xs (fun j v hv=>by rw [cE];exact hc j v hv)
 rw [hl] at h1
 cases d<;>simp_all [loadVar,isAgg,run_underlying hd,sizeOf,typeInfo]
theorem Mem.cells_box {w w0:World} {H:List Blk} {g:Nat} {t:TypeId} {xs:List Value} (h:Mem w0 w H) (hi:In (.box g t xs) H):Cells w g 0 xs:=by
 have h1:=(h.on _ hi.mem).1
 simp only [Blk.on] at h1
 intro j v hv
 rw [Ny,cell_of_row w g j _ t (0,0) h1]
 simpa using hv
theorem Mem.cells_own {w w0:World} {H:List Blk} {g m c sz:Nat} {t:TypeId} {xs:List Value} (h:Mem w0 w H) (hi:In (.own (some g) t sz m c xs) H):Cells w g 0 xs:=by
 obtain ⟨hl,_,_,junk,_,h1⟩:=(h.on _ hi.mem).1
 intro j v hv
 rw [Ny,cell_of_row w g j _ t (0,0) h1]
 have hlt:=(Nw.1 hv).1
 rw [NZ,OB hlt]
 exact hv
structure Ro (w0:World) (g off:Nat) (xs:List Value):Prop where
 lt:g<w0.heap.size
 cells:Cells w0 g off xs
theorem Ro.later {w w0:World} {H:List Blk} {g off:Nat} {xs:List Value} (h:Ro w0 g off xs) (hm:Mem w0 w H):Cells w g off xs:=
 fun j v hv=>(hm.below.cell (p:=⟨g,off+j,none⟩) h.lt).trans (h.cells j v hv)
theorem Cells.drop {w:World} {g off k:Nat} {xs:List Value} (h:Cells w g off xs):Cells w g (off+k) (xs.drop k):=fun j v hv=>by
 rw [OE] at hv
 rw [OK];exact h _ v hv
theorem Cells.take {w:World} {g off k:Nat} {xs:List Value} (h:Cells w g off xs):Cells w g off (xs.take k):=fun j v hv=>by
 rw [List.getElem?_take] at hv
 split at hv
 ·
  exact h _ v hv
 ·
  cases hv
theorem dC {x:Operand} {t T g off:Nat} {xs:List Value} {v:Value} [One P t] (hx:ev s x=some (.pointer (some ⟨g,off,none⟩))) (hi:In (.box g T xs) H) (hv:xs[off]? =some v):
  VOp P w0 s H (.load t x) ty v:=fun ρ w _ _ _ _ hρ hm=>by
 have hc:=hm.cells_box hi off v hv
 rw [Ny] at hc
 simp [execOp,hρ x _ hx,Instr.loadAt,Instr.sureAddr,gq (P:=P) hc]
theorem bN {x:Operand} {t T g off m c sz:Nat} {xs:List Value} {v:Value} [One P t] (hx:ev s x=some (.pointer (some ⟨g,off,none⟩))) (hi:In (.own (some g) T sz m c xs) H) (hv:xs[off]? =some v):
  VOp P w0 s H (.load t x) ty v:=fun ρ w _ _ _ _ hρ hm=>by
 have hc:=hm.cells_own hi off v hv
 rw [Ny] at hc
 simp [execOp,hρ x _ hx,Instr.loadAt,Instr.sureAddr,gq (P:=P) hc]
theorem aL {x:Operand} {t g o off:Nat} {xs:List Value} {v:Value} [One P t] (hr:Ro w0 g o xs) (hx:ev s x=some (.pointer (some ⟨g,o+off,none⟩))) (hv:xs[off]? =some v):
  VOp P w0 s H (.load t x) ty v:=fun ρ w _ _ _ _ hρ hm=>by
 simp [execOp,hρ x _ hx,Instr.loadAt,Instr.sureAddr,gq (P:=P) (hr.later hm off v hv)]
theorem qj {x:Operand} {t T g off m:Nat} {xs ys:List Value} [Agg P t m] (hx:ev s x=some (.pointer (some ⟨g,off,none⟩))) (hi:In (.box g T xs) H) (hv:(xs.drop off).take m=ys) (hl:ys.length=m):
  VOp P w0 s H (.load t x) ty (.agg ys.toArray):=fun ρ w _ _ _ _ hρ hm=>by
 subst hv
 have hc:Cells w g off ((xs.drop off).take m):=by
  have:=((hm.cells_box hi).drop (k:=off)).take (k:=m)
  rwa [Ny] at this
 simp [execOp,hρ x _ hx,Instr.loadAt,Instr.sureAddr,iT (P:=P) hl hc]
theorem aQ {x:Operand} {t T g off m n' c sz:Nat} {xs ys:List Value} [Agg P t m] (hx:ev s x=some (.pointer (some ⟨g,off,none⟩))) (hi:In (.own (some g) T sz n' c xs) H) (hv:(xs.drop off).take m=ys) (hl:ys.length=m):
  VOp P w0 s H (.load t x) ty (.agg ys.toArray):=fun ρ w _ _ _ _ hρ hm=>by
 subst hv
 have hc:Cells w g off ((xs.drop off).take m):=by
  have:=((hm.cells_own hi).drop (k:=off)).take (k:=m)
  rwa [Ny] at this
 simp [execOp,hρ x _ hx,Instr.loadAt,Instr.sureAddr,iT (P:=P) hl hc]
theorem eH {x:Operand} {t g o off m:Nat} {xs ys:List Value} [Agg P t m] (hr:Ro w0 g o xs) (hx:ev s x=some (.pointer (some ⟨g,o+off,none⟩))) (hv:(xs.drop off).take m=ys) (hl:ys.length=m):
  VOp P w0 s H (.load t x) ty (.agg ys.toArray):=fun ρ w _ _ _ _ hρ hm=>by
 subst hv
 have hc:Cells w g (o+off) ((xs.drop off).take m):=((hr.later hm).drop (k:=off)).take (k:=m)
 simp [execOp,hρ x _ hx,Instr.loadAt,Instr.sureAddr,iT (P:=P) hl hc]
end
section
variable {P:Program} {n:Fr} {w0:World} {Q:bQ} {s:az} {H:List Blk} {l rest:List Oper} {ty:TypeId} {p:String} {af:Array Edge}
theorem Bz {t lo hi:Nat} {a:ByteArray} {x q r:Operand} {k k' :IntKind} [ht:Und P t .string] (hx:ev s x=some (.string a)) (hr:ev s r=some (.int k' (lo:Nat))) (hq:ev s q=some (.int k (hi:Nat))) (h1:lo≤hi) (h2:hi≤a.size):
  VOp P w0 s H (.slice t x (some r) (some q) none) ty (.string (a.extract lo hi)):=fun ρ w _ _ _ _ hρ _=>by
 simp [execOp,hρ x _ hx,hρ q _ hq,hρ r _ hr,Instr.sliceAt,run_underlying ht.out,Instr.slice,Instr.sliceBounds,Instr.sliceBound,asIntOf,h2,h1]
theorem rW {t lo:Nat} {a:ByteArray} {x r:Operand} {k' :IntKind} [ht:Und P t .string] (hx:ev s x=some (.string a)) (hr:ev s r=some (.int k' (lo:Nat))) (h1:lo≤a.size):
  VOp P w0 s H (.slice t x (some r) none none) ty (.string (a.extract lo a.size)):=fun ρ w _ _ _ _ hρ _=>by
 simp [execOp,hρ x _ hx,hρ r _ hr,Instr.sliceAt,run_underlying ht.out,Instr.slice,Instr.sliceBounds,Instr.sliceBound,asIntOf,h1]
theorem Lo {x y:Operand} {a b:ByteArray} {t t' :TypeId} (hx:ev s x=some (.string a)) (hy:ev s y=some (.string b)) (h:a.size+b.size≤maxLen):VOp P w0 s H (.binOp .add t x y t') ty (.string (a++b)):=fun ρ w _ _ _ _ hρ _=>by
 simp only [maxLen] at h
 simp [execOp,hρ x _ hx,hρ y _ hy,eqGuard,binOp,Op.stringOp]
 omega
theorem yz {x:Operand} {t:TypeId} {v:Value} {d:TypeDesc} [ht:Und P t d] (hd: ∀ m,d≠ .interface m) (hx:ev s x=some v):VOp P w0 s H (.makeInterface t x) ty (.iface t v):=fun ρ w _ _ _ _ hρ _=>by
 cases d<;>first|(exact absurd rfl (hd _))|simp [execOp,hρ x _ hx,Instr.makeInterface,run_underlying ht.out]
end
end Go.SL
namespace Go.SL
open Go
structure Rct where
 c1:Int
 r1:Int
 c2:Int
 r2:Int
structure Vl where
 kind:Int
 num:Int
 text:ByteArray
structure Nd where
 kind:Int
 v:Vl
 rect:Rct
 op:Int
 fn:Int
 n:Int
def bH (r:Rct):List Value:= [.int .i64 r.c1,.int .i64 r.r1,.int .i64 r.c2,.int .i64 r.r2]
def di (v:Vl):List Value:= [.int .u8 v.kind,.int .i64 v.num,.string v.text]
def cv (n:Nd):List Value:=
 [.int .u8 n.kind,.int .u8 n.v.kind,.int .i64 n.v.num,.string n.v.text,.int .i64 n.rect.c1,.int .i64 n.rect.r1,.int .i64 n.rect.c2,.int .i64 n.rect.r2,.int .i64 n.op,.int .u8 n.fn,.int .i64 n.n]
def valid (c r:Int):Bool:=decide (1≤c) && decide (c≤1024) && decide (1≤r) && decide (r≤1024)
def aI (r:Rct):Bool:=valid r.c1 r.r1 && valid r.c2 r.r2 && decide (r.c1≤r.c2) && decide (r.r1≤r.r2)
def eP (r:Rct):Int:=bif aI r then 0 else 3
def gC (b:ByteArray):Bool:=b.data.toList.all fun c=>decide (32≤c.toNat) && decide (c.toNat≤126)
def eB (b:ByteArray):Int:=bif decide (256<b.size) then 5 else bif gC b then 0 else 4
def au:ByteArray:=⟨#[]⟩
def rP (v:Vl):Bool:=
 bif decide (v.kind=0) then decide (v.num=0) && decide (v.text=au)
 else bif decide (v.kind=1) then decide (v.text=au) && decide (v.num≠ -9223372036854775808)
 else bif decide (v.kind=2) then decide (v.text=au) && decide (v.num / 2=0)
 else bif decide (v.kind=3) then decide (v.num=0) && decide (eB v.text=0)
 else bif decide (v.kind=4) then decide (v.text=au) && decide (1≤v.num) && decide (v.num≤6)
 else false
def nB (v:Vl):Int:=bif rP v then 0 else 2
def cW (fn:Int):Bool:=decide (1≤fn) && decide (fn≤50)
def gS (fn:Int):Bool:=decide (46≤fn) && decide (fn≤50)
def eE (fn:Int):Int × Int × Int:=
 if fn=5∨fn=6∨fn=7∨fn=25∨fn=39∨fn=40∨fn=18∨fn=19∨fn=45∨fn=44 then (2,2,0)
 else if fn=20∨fn=41∨fn=43 then (2,3,0)
 else if fn=32∨fn=33 then (1,2,0)
 else if fn=34 then (3,3,0)
 else if fn=21∨fn=22∨fn=23∨fn=38∨fn=9∨fn=10∨fn=11∨fn=12∨fn=14∨fn=15∨fn=16∨fn=17 then (1,16,0)
 else if fn=30 then (2,16,0)
 else if cW fn then (1,1,0) else (0,0,10)
def jh (fn i:Int):Bool × Int:=
 if (eE fn).2.2≠0 then (false,(eE fn).2.2)
 else if i<0∨(eE fn).2.1≤i then (false,3)
 else if fn=9∨fn=10∨fn=11∨fn=12∨fn=14∨fn=15∨fn=16∨fn=17 then (true,0)
 else if fn=44 then (decide (i=1),0)
 else if fn=18∨fn=19∨fn=45∨fn=43∨fn=13 then (decide (i=0),0)
 else (gS fn,0)
def below (n:Nd):Int:=
 if n.kind=4∨n.kind=5 then 1 else if n.kind=6 then 2 else if n.kind=7 then n.n else 0
def aO:Rct:=⟨0,0,0,0⟩
def bK:Vl:=⟨0,0,au⟩
def dq (n:Nd):Nd:=
 if n.kind=1 then ⟨n.kind,n.v,aO,0,0,0⟩
 else if n.kind=2∨n.kind=3 then ⟨n.kind,bK,n.rect,0,0,0⟩
 else if n.kind=6 then ⟨n.kind,bK,aO,n.op,0,0⟩
 else if n.kind=7 then ⟨n.kind,bK,aO,0,n.fn,n.n⟩
 else ⟨n.kind,bK,aO,0,0,0⟩
def DP (v:Vl):Bool:=
 (if v.kind=0 then false else if v.kind=1 then decide (0≤v.num) else if v.kind=4 then decide (1≤v.num) && decide (v.num≤5) else true) && decide (nB v=0)
def Hy (r:Rct):Bool:=decide (r.c1=r.c2) && decide (r.r1=r.r2)
def jT (n:Nd):Bool:=
 if n.kind=1 then DP n.v
 else if n.kind=2∨n.kind=3 then decide (eP n.rect=0) && (Hy n.rect==decide (n.kind=2))
 else if n.kind=4∨n.kind=5 then true
 else if n.kind=6 then decide (1≤n.op) && decide (n.op≤12)
 else if n.kind=7 then decide (0≤n.n)
 else false
def eqV (a b:Vl):Bool:=decide (a.kind=b.kind) && (decide (a.num=b.num) && decide (a.text=b.text))
def eqR (a b:Rct):Bool:=decide (a.c1=b.c1) && (decide (a.r1=b.r1) && (decide (a.c2=b.c2) && decide (a.r2=b.r2)))
def eqN (a b:Nd):Bool:=decide (a.kind=b.kind) && (eqV a.v b.v && (eqR a.rect b.rect && (decide (a.op=b.op) && (decide (a.fn=b.fn) && decide (a.n=b.n)))))
theorem xM {a b:Vl}:eqV a b=true↔a=b:=by
 obtain ⟨a1,a2,a3⟩:=a
 obtain ⟨b1,b2,b3⟩:=b
 simp [eqV]
theorem iZ {a b:Rct}:eqR a b=true↔a=b:=by
 obtain ⟨a1,a2,a3,a4⟩:=a
 obtain ⟨b1,b2,b3,b4⟩:=b
 simp [eqR]
theorem DU {a b:Nd}:eqN a b=true↔a=b:=by
 obtain ⟨a1,a2,a3,a4,a5,a6⟩:=a
 obtain ⟨b1,b2,b3,b4,b5,b6⟩:=b
 simp [eqN,xM,iZ]
theorem q9 (a b:Int):(a==b)=decide (a=b):=by rw [NL];simp
def cQ (n:Nd):Int:=
 if jT n=false∨eqN n (dq n)=false then 2
 else if n.kind≠7 then 0
 else if (eE n.fn).2.2≠0 then (eE n.fn).2.2
 else if n.n<(eE n.fn).1∨(eE n.fn).2.1<n.n then 11
 else 0
structure Pt where
 root:Nat
 depth:Nat
 wide:Bool
def p8 (p:Pt):List Value:= [.int .i64 (p.root:Int),.int .i64 (p.depth:Int),.bool p.wide]
theorem fN (n:Nd):(cv n).length=11:=rfl
theorem l7 (p:Pt):(p8 p).length=3:=rfl
def jU (L:List Nd) (i:Nat):Int:=((L[i]?).map Nd.kind).getD 0
def zF (n:Nd) (i:Int):Bool:=if n.kind=7 then (jh n.fn i).1 else false
def tS (L:List Nd) (n:Nd) (i:Int) (p:Pt):Bool:=
 !(p.wide && !zF n i) && !(decide (n.kind=7) && gS n.fn && decide (jU L p.root≠2) && decide (jU L p.root≠3))
def eU (L:List Nd) (n:Nd):Int→List Pt→Bool
 |_,[]=>true
 |i,p::r=>tS L n i p && eU L n (i+1) r
def bw (st:List Pt) (k:Nat):List Pt:=st.drop (st.length - k)
def ck (top:List Pt):Nat:=top.foldl (fun d p=>max d (p.depth+1)) 1
def lc (L:List Nd) (n:Nd) (i:Nat) (st:List Pt):Int ⊕ (List Pt × List Nat × Nat):=
 if cQ n≠0 then .inl (cQ n)
 else if (st.length:Int)<below n∨eU L n 0 (bw st (below n).toNat)=false then .inl 4
 else if 32<ck (bw st (below n).toNat) then .inl 9
 else .inr (st.take (st.length - (below n).toNat)++ [⟨i,ck (bw st (below n).toNat),decide (n.kind=3)⟩],(bw st (below n).toNat).map Pt.root,ck (bw st (below n).toNat))
abbrev mg:=List Nat × Nat
def iz (L:List Nd):List Nd→Nat→List Pt→List mg→Int × List mg
 | [],_,st,vs=>(if st.length=1 then 0 else 4,vs)
 |n::r,i,st,vs=>match lc L n i st with
  | .inl e=>(e,vs)
  | .inr (st',kids,d)=>iz L r (i+1) st' (vs++ [(kids,d)])
def ap (b:ByteArray):List Int:=b.data.toList.map fun c=>(c.toNat:Int)
theorem av (b:ByteArray):(ap b).length=b.size:=by simp [ap]
theorem oY (b:ByteArray) (i:Nat) (h:i<b.size):(ap b)[i]'(by rw [av];exact h)=(b[i].toNat:Int):=by
 simp [ap];rfl
instance:DecidableEq Vl:=fun a b=>decidable_of_iff (eqV a b=true) xM
instance:DecidableEq Rct:=fun a b=>decidable_of_iff (eqR a b=true) iZ
instance:DecidableEq Nd:=fun a b=>decidable_of_iff (eqN a b=true) DU
theorem DS (a b:Vl):eqV a b=decide (a=b):=by rw [NL,xM];simp
theorem DT (a b:Rct):eqR a b=decide (a=b):=by rw [NL,iZ];simp
theorem DV (a b:Nd):eqN a b=decide (a=b):=by rw [NL,DU];simp
structure Rf where
 col:Int
 row:Int
def cw (a:Rf):List Value:= [.int .i64 a.col,.int .i64 a.row]
theorem IB (a:Rf):(cw a).length=2:=rfl
def eqF (a b:Rf):Bool:=decide (a.col=b.col) && decide (a.row=b.row)
theorem i9 {a b:Rf}:eqF a b=true↔a=b:=by
 obtain ⟨a1,a2⟩:=a
 obtain ⟨b1,b2⟩:=b
 simp [eqF]
instance:DecidableEq Rf:=fun a b=>decidable_of_iff (eqF a b=true) i9
theorem DW (a b:Rf):eqF a b=decide (a=b):=by rw [NL,i9];simp
def Rf.valid (a:Rf):Bool:=Go.SL.valid a.col a.row
structure Us where
 rect:Rct
 node:Int
 fn:Int
def M5 (u:Us):List Value:= [.int .i64 u.rect.c1,.int .i64 u.rect.r1,.int .i64 u.rect.c2,.int .i64 u.rect.r2,.int .i64 u.node,.int .u8 u.fn]
structure Tk where
 kind:Int
 num:Int
 text:ByteArray
 rect:Rct
 at_:Int
def bh (t:Tk):List Value:= [.int .u8 t.kind,.int .i64 t.num,.string t.text,.int .i64 t.rect.c1,.int .i64 t.rect.r1,.int .i64 t.rect.c2,.int .i64 t.rect.r2,.int .i64 t.at_]
theorem wo (t:Tk):(bh t).length=8:=rfl
def cU:Tk:=⟨0,0,au,⟨0,0,0,0⟩,0⟩
def aH (c:Int):Bool:=decide (48≤c) && decide (c≤57)
def bO (c:Int):Bool:=(decide (65≤c) && decide (c≤90))||(decide (97≤c) && decide (c≤122))
def cJ (c:Int):Bool:=bO c||aH c
def upC (c:Int):Int:=if 97≤c∧c≤122 then c - 32 else c
def aF (p:Int→Bool):List Int→Nat
 | []=>0
 |c::r=>if p c then aF p r+1 else 0
def bu:List Int→Int→Int
 | [],v=>v
 |c::r,v=>bu r (10*v+(c - 48))
def cC:Int:=9223372036854775807
def mkB (l:List Int):ByteArray:=⟨(l.map fun n=>UInt8.ofNat n.toNat).toArray⟩
def bS (l:List Int):Nat:=match l with
 |46::r=>aF aH r
 |_=>0
def jG (l:List Int):Option (Int × Nat):=
 let w:=aF aH l
 let p:=bS (l.drop w)
 if w=0∨4<p then none
 else
  let v:=bu (l.take w++(l.drop (w+1)).take p++List.replicate (4 - p) 48) 0
  if cC<v then none else some (v,if p=0 then w else w+1+p)
def jz:List Int→Option (List Int × Nat)
 | []=>none
 |c::r=>
  if c≠34 then (jz r).map fun x=>(c::x.1,x.2+1)
  else match r with
   | []=>some ([],1)
   |d::r' =>if d=34 then (jz r').map fun x=>(34::x.1,x.2+2) else some ([],1)
def bq:List Int→Int→Int
 | [],v=>v
 |c::r,v=>bq r (min (26*v+(upC c - 64)) 1025)
def lh:List Int→Int→Int
 | [],v=>v
 |c::r,v=>lh r (min (10*v+(c - 48)) 1025)
def bY (l:List Int):Int × Int × Int:=
 let a:=l.takeWhile bO
 let d:=l.dropWhile bO
 if a= []∨d= []∨d.head? =some 48∨d.all aH=false then (0,0,4)
 else if 1024<bq a 0∨1024<lh d 0 then (0,0,3)
 else (bq a 0,lh d 0,0)
def oU (c r:Int):Rct:=⟨c,r,c,r⟩
def dz:List (List Int):= [[35,68,73,86,47,48,33],[35,86,65,76,85,69,33],[35,78,85,77,33],[35,78,47,65],[35,82,69,70,33]]
def ju (l:List Int):List (List Int)→Int→Option (Int × Nat)
 | [],_=>none
 |s::r,code=>if (l.take s.length).map upC=s then some (code,s.length) else ju l r (code+1)
def eD:List (List Int × Int):= [([60,62],8),([60,61],10),([62,61],12),([43],1),([45],2),([42],3),([47],4),([94],5),([38],6),([61],7),([60],9),([62],11),([37],13)]
def opL (l:List Int):List (List Int × Int)→Option (Int × Nat)
 | []=>none
 |(s,k)::r=>if l.take s.length=s then some (k,s.length) else opL l r
def bz (c:Int):Bool:=decide (32≤c) && decide (c≤126)
theorem xE (b:ByteArray) (i j:Nat):ap (b.extract i j)=((ap b).drop i).take (j - i):=by
 simp only [ap,ByteArray.data_extract,Array.toList_extract,List.extract_eq_take_drop,List.map_take,List.map_drop]
def gH (l:List Int):Prop:= ∀ c∈l,0≤c∧c<256
theorem kU (b:ByteArray):gH (ap b):=by
 intro c hc
 simp only [ap,OQ] at hc
 obtain ⟨u,_,rfl⟩:=hc
 have:=u.toNat_lt
 omega
theorem lZ {l:List Int} (h:gH l):ap (mkB l)=l:=by
 simp only [ap,mkB,P8]
 conv=>rhs;rw [← List.map_id l]
 apply O0
 intro c hc
 have:=h c hc
 simp only [Function.comp,id_eq,UInt8.toNat_ofNat']
 omega
theorem kw (b:ByteArray):mkB (ap b)=b:=by
 apply ByteArray.ext
 apply Array.ext'
 simp only [mkB,ap,P8]
 conv=>rhs;rw [← List.map_id b.data.toList]
 apply O0
 intro c _
 simp [Function.comp]
theorem tL {a b:ByteArray} (h:ap a=ap b):a=b:=by rw [← kw a,← kw b,h]
theorem HF {b:ByteArray} {l:List Int} (h:ap b=l):b=mkB l:=by rw [← h,kw]
theorem bR (p:Int→Bool): ∀ l,aF p l≤l.length
 | []=>Ni _
 |c::r=>by
  simp only [aF]
  split
  ·
   have:=bR p r;simp;omega
  ·
   exact Ns _
theorem oI {p:Int→Bool} {l:List Int} {i:Nat} (h:l.length≤i):aF p (l.drop i)=0:=by
 rw [NC h];rfl
theorem jn {p:Int→Bool}: ∀ (l:List Int) (i:Nat) (c:Int),i<aF p l→l[i]? =some c→p c=true
 | [],i,c,h,_=>by simp [aF] at h
 |a::r,i,c,h,hc=>by
  simp only [aF] at h
  split at h
  ·
   rename_i ha
   cases i with
   |zero=>simp at hc;subst hc;exact ha
   |succ i=>exact jn r i c (by omega) (by simpa using hc)
  ·
   omega
end Go.SL
namespace Go.SL
open Go Go.Proofs
theorem Dz (w:World) (d:Nat) (a b:Vl):(Op.equalIn (d+3) 127 (.agg (di a).toArray) (.agg (di b).toArray)).run Tryz.prog w= .ok (eqV a b) w:=by
 rw [run_equalIn_agg w (d+2) 127 _ _ (by rw [Program.fieldsOf,Tryz.underlying127]) Tryz.stoodInHeld127]
 simp only [Program.fieldsOf,Tryz.underlying127]
 simp [Op.eqFields,di,part,go_sem,py,q9,eqV]
 by_cases h1:a.kind=b.kind<;>by_cases h2:a.num=b.num<;>by_cases h3:a.text=b.text<;>simp [h1,h2,h3]
theorem jA (w:World) (d:Nat) (a b:Rct):(Op.equalIn (d+3) 32 (.agg (bH a).toArray) (.agg (bH b).toArray)).run Tryz.prog w= .ok (eqR a b) w:=by
 rw [run_equalIn_agg w (d+2) 32 _ _ (by rw [Program.fieldsOf,Tryz.underlying32]) Tryz.stoodInHeld32]
 simp only [Program.fieldsOf,Tryz.underlying32]
 simp [Op.eqFields,bH,part,go_sem,py,q9,eqR]
 by_cases h1:a.c1=b.c1<;>by_cases h2:a.r1=b.r1<;>by_cases h3:a.c2=b.c2<;>by_cases h4:a.r2=b.r2<;>simp [h1,h2,h3,h4]
theorem rp (w:World) (d:Nat) (a b:Rf):(Op.equalIn (d+3) 50 (.agg (cw a).toArray) (.agg (cw b).toArray)).run Tryz.prog w= .ok (eqF a b) w:=by
 rw [run_equalIn_agg w (d+2) 50 _ _ (by rw [Program.fieldsOf,Tryz.underlying50]) Tryz.stoodInHeld50]
 simp only [Program.fieldsOf,Tryz.underlying50]
 simp [Op.eqFields,cw,part,go_sem,py,q9,eqF]
 by_cases h1:a.col=b.col<;>by_cases h2:a.row=b.row<;>simp [h1,h2]
theorem DA (w:World) (d:Nat) (a b:Nd):(Op.equalIn (d+5) 293 (.agg (cv a).toArray) (.agg (cv b).toArray)).run Tryz.prog w= .ok (eqN a b) w:=by
 rw [run_equalIn_agg w (d+4) 293 _ _ (by rw [Program.fieldsOf,Tryz.underlying293]) Tryz.stoodInHeld293]
 simp only [Program.fieldsOf,Tryz.underlying293]
 have hv: ∀ w,(Op.equalIn (d+4) 127 (.agg #[.int .u8 a.v.kind,.int .i64 a.v.num,.string a.v.text]) (.agg #[.int .u8 b.v.kind,.int .i64 b.v.num,.string b.v.text])).run Tryz.prog w= .ok (eqV a.v b.v) w:=fun w=>Dz w (d+1) a.v b.v
 have hr: ∀ w,(Op.equalIn (d+4) 32 (.agg #[.int .i64 a.rect.c1,.int .i64 a.rect.r1,.int .i64 a.rect.c2,.int .i64 a.rect.r2]) (.agg #[.int .i64 b.rect.c1,.int .i64 b.rect.r1,.int .i64 b.rect.c2,.int .i64 b.rect.r2])).run Tryz.prog w= .ok (eqR a.rect b.rect) w:=fun w=>jA w (d+1) a.rect b.rect
 simp [Op.eqFields,cv,part,go_sem,py,q9,eqN,hv,hr]
 by_cases h1:a.kind=b.kind<;>by_cases h2:eqV a.v b.v=true<;>by_cases h3:eqR a.rect b.rect=true<;>by_cases h4:a.op=b.op<;>by_cases h5:a.fn=b.fn<;>by_cases h6:a.n=b.n<;>simp [h1,h2,h3,h4,h5,h6]
section
variable {w0:World} {s:az} {H:List Blk} {ty t' :TypeId} {x y:Operand}
theorem Bx {a b:Vl} (hx:ev s x=some (.agg (di a).toArray)) (hy:ev s y=some (.agg (di b).toArray)):VOp Tryz.prog w0 s H (.binOp .eql 127 x y t') ty (.bool (eqV a b)):=fun ρ w _ _ _ _ hρ _=>by
 have h:=Dz w 9997 a b
 simp only [Nat.reduceAdd] at h
 simp only [execOp,hρ x _ hx,hρ y _ hy,Sem.run_bind,run_eqGuard_agg w _ _ _ _ _ _ Tryz.eqGuardType127,Result.andThen_ok,run_eql_struct,h,Sem.run_pure]
theorem Ll {a b:Rct} (hx:ev s x=some (.agg (bH a).toArray)) (hy:ev s y=some (.agg (bH b).toArray)):VOp Tryz.prog w0 s H (.binOp .eql 32 x y t') ty (.bool (eqR a b)):=fun ρ w _ _ _ _ hρ _=>by
 have h:=jA w 9997 a b
 simp only [Nat.reduceAdd] at h
 simp only [execOp,hρ x _ hx,hρ y _ hy,Sem.run_bind,run_eqGuard_agg w _ _ _ _ _ _ Tryz.eqGuardType32,Result.andThen_ok,run_eql_struct,h,Sem.run_pure]
theorem Lf {a b:Rct} (hx:ev s x=some (.agg (bH a).toArray)) (hy:ev s y=some (.agg (bH b).toArray)):VOp Tryz.prog w0 s H (.binOp .neq 32 x y t') ty (.bool (!eqR a b)):=fun ρ w _ _ _ _ hρ _=>by
 have h:=jA w 9997 a b
 simp only [Nat.reduceAdd] at h
 simp only [execOp,hρ x _ hx,hρ y _ hy,Sem.run_bind,run_eqGuard_agg w _ _ _ _ _ _ Tryz.eqGuardType32,Result.andThen_ok,run_neq_struct,h,Sem.run_pure]
theorem Gy {a b:Rf} (hx:ev s x=some (.agg (cw a).toArray)) (hy:ev s y=some (.agg (cw b).toArray)):VOp Tryz.prog w0 s H (.binOp .eql 50 x y t') ty (.bool (eqF a b)):=fun ρ w _ _ _ _ hρ _=>by
 have h:=rp w 9997 a b
 simp only [Nat.reduceAdd] at h
 simp only [execOp,hρ x _ hx,hρ y _ hy,Sem.run_bind,run_eqGuard_agg w _ _ _ _ _ _ Tryz.eqGuardType50,Result.andThen_ok,run_eql_struct,h,Sem.run_pure]
theorem Lg {a b:Rf} (hx:ev s x=some (.agg (cw a).toArray)) (hy:ev s y=some (.agg (cw b).toArray)):VOp Tryz.prog w0 s H (.binOp .neq 50 x y t') ty (.bool (!eqF a b)):=fun ρ w _ _ _ _ hρ _=>by
 have h:=rp w 9997 a b
 simp only [Nat.reduceAdd] at h
 simp only [execOp,hρ x _ hx,hρ y _ hy,Sem.run_bind,run_eqGuard_agg w _ _ _ _ _ _ Tryz.eqGuardType50,Result.andThen_ok,run_neq_struct,h,Sem.run_pure]
theorem Lm {a b:Nd} (hx:ev s x=some (.agg (cv a).toArray)) (hy:ev s y=some (.agg (cv b).toArray)):VOp Tryz.prog w0 s H (.binOp .eql 293 x y t') ty (.bool (eqN a b)):=fun ρ w _ _ _ _ hρ _=>by
 have h:=DA w 9995 a b
 simp only [Nat.reduceAdd] at h
 simp only [execOp,hρ x _ hx,hρ y _ hy,Sem.run_bind,run_eqGuard_agg w _ _ _ _ _ _ Tryz.eqGuardType293,Result.andThen_ok,run_eql_struct,h,Sem.run_pure]
theorem rT {a b:Nd} (hx:ev s x=some (.agg (cv a).toArray)) (hy:ev s y=some (.agg (cv b).toArray)):VOp Tryz.prog w0 s H (.binOp .neq 293 x y t') ty (.bool (!eqN a b)):=fun ρ w _ _ _ _ hρ _=>by
 have h:=DA w 9995 a b
 simp only [Nat.reduceAdd] at h
 simp only [execOp,hρ x _ hx,hρ y _ hy,Sem.run_bind,run_eqGuard_agg w _ _ _ _ _ _ Tryz.eqGuardType293,Result.andThen_ok,run_neq_struct,h,Sem.run_pure]
end
end Go.SL
