/-
  Lemmas and walks, put together: Sl1 Sl2 Sl3.
-/
import Derived.WalkKit
import Derived.Deep.Quiet
import Derived.Maps.AppendAt
import Derived.Laws.OwnMore
import Derived.Deep.LoopGhost
import Derived.Great.BuildSlice
set_option linter.unusedSimpArgs false
set_option linter.unusedVariables false
set_option maxRecDepth 20000
namespace Go.SL
theorem ND:type_of% @List.length_append:=@List.length_append
theorem NE:type_of% @List.getElem?_eq_getElem:=@List.getElem?_eq_getElem
theorem NF:type_of% @List.cons_append:=@List.cons_append
theorem NG:type_of% @List.length_singleton:=@List.length_singleton
theorem NH:type_of% @List.nil_append:=@List.nil_append
theorem NI:type_of% @List.mem_cons_self:=@List.mem_cons_self
theorem NJ:type_of% @Nat.le_refl:=@Nat.le_refl
theorem NK:type_of% @Bool.and_eq_true:=@Bool.and_eq_true
theorem NL:type_of% @List.drop_eq_getElem_cons:=@List.drop_eq_getElem_cons
theorem NM:type_of% @List.append_nil:=@List.append_nil
theorem NN:type_of% @List.append_eq:=@List.append_eq
theorem NP:type_of% @List.length_drop:=@List.length_drop
theorem NQ:type_of% @List.mem_cons_of_mem:=@List.mem_cons_of_mem
theorem NR:type_of% @List.flatMap_append:=@List.flatMap_append
theorem NS:type_of% @List.mem_cons:=@List.mem_cons
theorem NT:type_of% @List.take_succ_eq_append_getElem:=@List.take_succ_eq_append_getElem
theorem NU:type_of% @List.flatMap_cons:=@List.flatMap_cons
theorem NV:type_of% @List.getElem?_eq_some_iff:=@List.getElem?_eq_some_iff
theorem NW:type_of% @List.drop_length:=@List.drop_length
theorem NX:type_of% @List.getD_eq_getElem?_getD:=@List.getD_eq_getElem?_getD
theorem NY:type_of% @Nat.zero_le:=@Nat.zero_le
theorem NZ:type_of% @List.length_take:=@List.length_take
theorem N0:type_of% @List.drop_of_length_le:=@List.drop_of_length_le
theorem N7:type_of% @Nat.zero_add:=@Nat.zero_add
theorem N8:type_of% @List.length_cons:=@List.length_cons
theorem N9:type_of% @List.take_of_length_le:=@List.take_of_length_le
theorem Oi:type_of% @List.pairwise_cons:=@List.pairwise_cons
theorem Oj:type_of% @Array.getD_eq_getD_getElem?:=@Array.getD_eq_getD_getElem?
theorem Ok:type_of% @Nat.le_trans:=@Nat.le_trans
theorem Ol:type_of% @List.mem_append:=@List.mem_append
theorem Om:type_of% @Bool.eq_iff_iff:=@Bool.eq_iff_iff
theorem Oo:type_of% @List.eq_nil_of_length_eq_zero:=@List.eq_nil_of_length_eq_zero
theorem Ot:type_of% @List.mapM_cons:=@List.mapM_cons
theorem Ou:type_of% @Nat.eq_of_beq_eq_true:=@Nat.eq_of_beq_eq_true
theorem Ov:type_of% @List.mem_singleton:=@List.mem_singleton
theorem Ow:type_of% @List.map_cons:=@List.map_cons
theorem Oy:type_of% @List.flatMap_nil:=@List.flatMap_nil
theorem Oz:type_of% @Array.getElem?_eq_some_iff:=@Array.getElem?_eq_some_iff
theorem OA:type_of% @List.append_assoc:=@List.append_assoc
theorem OB:type_of% @List.mapM_nil:=@List.mapM_nil
theorem OC:type_of% @List.getElem?_append_right:=@List.getElem?_append_right
theorem OD:type_of% @List.getElem_mem:=@List.getElem_mem
theorem OE:type_of% @List.take_append_drop:=@List.take_append_drop
theorem OG:type_of% @List.getElem?_toArray:=@List.getElem?_toArray
theorem OH:type_of% @Nat.blt_eq:=@Nat.blt_eq
theorem OI:type_of% @List.take_succ_cons:=@List.take_succ_cons
theorem OJ:type_of% @Nat.eq_zero_or_pos:=@Nat.eq_zero_or_pos
theorem OK:type_of% @Option.map_eq_some_iff:=@Option.map_eq_some_iff
theorem OL:type_of% @List.mem_flatMap:=@List.mem_flatMap
theorem OM:type_of% @Option.map_some:=@Option.map_some
theorem OO:type_of% @List.mem_of_mem_take:=@List.mem_of_mem_take
theorem OP:type_of% @List.getElem?_append_left:=@List.getElem?_append_left
theorem OQ:type_of% @Bool.and_eq_false_iff:=@Bool.and_eq_false_iff
theorem OT:type_of% @Bool.false_eq_true:=@Bool.false_eq_true
theorem OU:type_of% @List.getElem?_map:=@List.getElem?_map
theorem OV:type_of% @List.length_map:=@List.length_map
theorem OW:type_of% @Int.le_refl:=@Int.le_refl
theorem OX:type_of% @List.take_length:=@List.take_length
theorem OY:type_of% @List.all_eq_true:=@List.all_eq_true
theorem OZ:type_of% @Int.toNat_natCast:=@Int.toNat_natCast
theorem O0:type_of% @List.drop_drop:=@List.drop_drop
theorem O1:type_of% @List.getElem?_eq_none:=@List.getElem?_eq_none
theorem O2:type_of% @List.length_pos_iff:=@List.length_pos_iff
theorem O3:type_of% @List.headD_cons:=@List.headD_cons
theorem O4:type_of% @List.drop_zero:=@List.drop_zero
theorem O5:type_of% @List.pairwise_append:=@List.pairwise_append
theorem O6:type_of% @List.getElem?_drop:=@List.getElem?_drop
theorem O7:type_of% @List.perm_append_comm:=@List.perm_append_comm
theorem O8:type_of% @Bool.true_and:=@Bool.true_and
theorem O9:type_of% @Array.getElem?_append_left:=@Array.getElem?_append_left
theorem Pa:type_of% @Nat.add_sub_cancel:=@Nat.add_sub_cancel
theorem Pb:type_of% @List.map_append:=@List.map_append
theorem Pd:type_of% @List.findIdx?_eq_none_iff:=@List.findIdx?_eq_none_iff
theorem Pe:type_of% @List.map_nil:=@List.map_nil
theorem Ph:type_of% @List.dropLast_concat_getLast:=@List.dropLast_concat_getLast
theorem Pj:type_of% @List.take_zero:=@List.take_zero
theorem Pk:type_of% @List.length_eq_zero_iff:=@List.length_eq_zero_iff
theorem Pm:type_of% @List.findIdx?_eq_some_iff_getElem:=@List.findIdx?_eq_some_iff_getElem
theorem Pn:type_of% @Bool.or_eq_true:=@Bool.or_eq_true
theorem Po:type_of% @Nat.lt_or_ge:=@Nat.lt_or_ge
theorem Pp:type_of% @List.map_toArray:=@List.map_toArray
theorem Pq:type_of% @List.map_congr_left:=@List.map_congr_left
theorem Pr:type_of% @Nat.add_assoc:=@Nat.add_assoc
theorem Ps:type_of% @Nat.min_eq_left:=@Nat.min_eq_left
theorem Pu:type_of% @List.mem_map:=@List.mem_map
theorem Pv:type_of% @List.getElem?_take_of_lt:=@List.getElem?_take_of_lt
theorem Pw:type_of% @Nat.mul_one:=@Nat.mul_one
theorem Py:type_of% @List.mem_of_mem_drop:=@List.mem_of_mem_drop
theorem PA:type_of% @Bool.or_eq_false_iff:=@Bool.or_eq_false_iff
theorem PB:type_of% @Nat.add_zero:=@Nat.add_zero
theorem PE:type_of% @Nat.add_comm:=@Nat.add_comm
theorem PF:type_of% @List.takeWhile_cons:=@List.takeWhile_cons
theorem PG:type_of% @List.getElem_of_mem:=@List.getElem_of_mem
theorem PH:type_of% @List.foldl_cons:=@List.foldl_cons
theorem PI:type_of% @List.not_mem_nil:=@List.not_mem_nil
theorem PJ:type_of% @Nat.sub_zero:=@Nat.sub_zero
theorem PK:type_of% @ByteArray.size_append:=@ByteArray.size_append
theorem PL:type_of% @BitVec.getLsbD_and:=@BitVec.getLsbD_and
theorem PM:type_of% @BitVec.eq_of_toNat_eq:=@BitVec.eq_of_toNat_eq
theorem PN:type_of% @Array.getElem?_setIfInBounds_ne:=@Array.getElem?_setIfInBounds_ne
theorem PO:type_of% @List.pairwise_singleton:=@List.pairwise_singleton
theorem PP:type_of% @List.all_cons:=@List.all_cons
theorem PQ:type_of% @Nat.lt_succ_self:=@Nat.lt_succ_self
theorem PT:type_of% @List.take_append_of_le_length:=@List.take_append_of_le_length
theorem PU:type_of% @Array.getElem?_eq_none:=@Array.getElem?_eq_none
theorem PV:type_of% @List.set_append_right:=@List.set_append_right
theorem PW:type_of% @List.mem_append_right:=@List.mem_append_right
theorem PX:type_of% @List.length_set:=@List.length_set
theorem PY:type_of% @List.length_filter_le:=@List.length_filter_le
theorem P0:type_of% @List.find?_cons:=@List.find?_cons
theorem P1:type_of% @List.mapM_toArray:=@List.mapM_toArray
theorem P2:type_of% @List.mem_of_getElem?:=@List.mem_of_getElem?
theorem P3:type_of% @List.mem_append_left:=@List.mem_append_left
theorem P4:type_of% @List.tail_drop:=@List.tail_drop
theorem P5:type_of% @Option.getD_some:=@Option.getD_some
theorem P6:type_of% @Nat.add_mul:=@Nat.add_mul
theorem P7:type_of% @List.toList_toArray:=@List.toList_toArray
theorem P8:type_of% @List.drop_succ_cons:=@List.drop_succ_cons
theorem P9:type_of% @List.length_nil:=@List.length_nil
theorem Qa:type_of% @List.find?_eq_none:=@List.find?_eq_none
theorem Qb:type_of% @Int.eq_ofNat_of_zero_le:=@Int.eq_ofNat_of_zero_le
theorem Qc:type_of% @BitVec.eq_of_getLsbD_eq:=@BitVec.eq_of_getLsbD_eq
theorem Qd:type_of% @Nat.le_succ_of_le:=@Nat.le_succ_of_le
theorem Qe:type_of% @List.size_toArray:=@List.size_toArray
theorem Qf:type_of% @Option.map_map:=@Option.map_map
theorem Qg:type_of% @Array.getElem?_modify:=@Array.getElem?_modify
theorem Qh:type_of% @List.length_tail:=@List.length_tail
theorem Qi:type_of% @List.mem_iff_getElem:=@List.mem_iff_getElem
theorem Qj:type_of% @List.dropLast_concat:=@List.dropLast_concat
theorem Qk:type_of% @Bool.and_true:=@Bool.and_true
theorem Ql:type_of% @Nat.le_succ:=@Nat.le_succ
theorem Qm:type_of% @List.dropWhile_cons:=@List.dropWhile_cons
theorem Qn:type_of% @Int.tmod_eq_emod_of_nonneg:=@Int.tmod_eq_emod_of_nonneg
theorem Qo:type_of% @Int.tdiv_eq_ediv_of_nonneg:=@Int.tdiv_eq_ediv_of_nonneg
theorem Qp:type_of% @Nat.sub_self:=@Nat.sub_self
theorem Qq:type_of% @Nat.sub_add_cancel:=@Nat.sub_add_cancel
theorem Qr:type_of% @List.mem_of_find?_eq_some:=@List.mem_of_find?_eq_some
theorem Qs:type_of% @List.getLast?_eq_getElem?:=@List.getLast?_eq_getElem?
theorem Qt:type_of% @List.getElem_take:=@List.getElem_take
theorem Qu:type_of% @List.foldl_append:=@List.foldl_append
theorem Qv:type_of% @Array.setIfInBounds_comm:=@Array.setIfInBounds_comm
theorem Qw:type_of% @Array.getElem?_replicate:=@Array.getElem?_replicate
theorem Qx:type_of% @Nat.one_mul:=@Nat.one_mul
theorem Qy:type_of% @List.getElem?_cons_zero:=@List.getElem?_cons_zero
theorem Qz:type_of% @List.filter_cons:=@List.filter_cons
theorem QA:type_of% @Option.map_none:=@Option.map_none
theorem QB:type_of% @Nat.le_of_ble_eq_true:=@Nat.le_of_ble_eq_true
theorem QC:type_of% @List.take_left':=@List.take_left'
theorem QD:type_of% @List.mem_filter:=@List.mem_filter
theorem QE:type_of% @List.map_map:=@List.map_map
end Go.SL
namespace Go.SL
open Go Go.RowKit
inductive Blk where
 |box (g:Nat) (ty:TypeId) (xs:List Value)
 |own (A:Option Nat) (ty:TypeId) (size n cap:Nat) (xs:List Value)
 |obj (g:Nat) (o:Obj)
 |byt (g:Nat) (ty:TypeId) (n cap:Nat) (xs:List Value)
def Blk.key:Blk→Option Nat
 | .box g _ _=>some g
 | .own A _ _ _ _ _=>A
 | .obj g _=>some g
 | .byt g _ _ _ _=>some g
def sl (A:Option Nat) (n cap:Nat):Value:= .slice (A.map fun g=>⟨g,0,none⟩) n cap
def Blk.on (w:World):Blk→Prop
 | .box g ty xs=>w.heap[g]? =some (.cells xs.toArray ty (0,0))
 | .own A ty size n cap xs=>xs.length=n*size∧n≤cap∧cap≤maxLen∧
   match A with
   |none=>n=0∧cap=0
   |some g=> ∃ junk:List Value,(xs++junk).length=cap*size∧w.heap[g]? =some (.cells (xs++junk).toArray ty (0,0))
 | .obj g o=>w.heap[g]? =some o
 | .byt g ty n cap xs=>xs.length=n∧n≤cap∧ ∃ junk:List Value,(xs++junk).length=cap∧w.heap[g]? =some (.cells (xs++junk).toArray ty (cap,cap+1))
def Apart (a b:Blk):Prop:= ∀ k,a.key=some k→b.key≠some k
structure Mem (w0 w:World) (H:List Blk):Prop where
 below:Below w0.heap.size w0 w
 on: ∀ b∈H,b.on w∧ ∀ k,b.key=some k→w0.heap.size≤k
 apart:H.Pairwise Apart
theorem Apart.symm {a b:Blk} (h:Apart a b):Apart b a:=fun k hk hk' =>h k hk' hk
abbrev az:=List (Nat × Value)
def look:az→Nat→Option Value
 | [],_=>none
 |(u,v)::r,t=>bif Nat.beq u t then some v else look r t
def ev (s:az):Operand→Option Value
 | .tmp t=>look s t
 | .const v=>some v
 | .global g=>some (.pointer (some ⟨g,0,none⟩))
 | .func f=>some (.func (.func f) #[] #[])
structure Fr where
 sz:Nat
 ds:List Deferred
structure St (n:Fr) (s:az) (a:Act):Prop where
 size:a.tmps.size=n.sz
 defers:a.defers=n.ds
 has: ∀ t v,look s t=some v→a.tmps[t]? =some v
theorem St.eval {n:Fr} {s:az} {a:Act} (h:St n s a): ∀ x v,ev s x=some v→a.eval x=v:=by
 intro x v hx
 cases x with
 |tmp t=>simp only [ev] at hx;simp [Act.eval,Oj,h.has t v hx]
 |const v=>simp only [ev,Option.some.injEq] at hx;exact hx
 |global g=>simp only [ev,Option.some.injEq] at hx;exact hx
 |func f=>simp only [ev,Option.some.injEq] at hx;exact hx
theorem iA (s:az) (d t:Nat) (v:Value):look ((d,v)::s) t=if d=t then some v else look s t:=by
 simp only [look]
 cases hb:Nat.beq d t with
 |true=>have h:=Ou hb;simp [h]
 |false=>have h:=Nat.ne_of_beq_eq_false hb;simp [h]
theorem St.put {n:Fr} {s:az} {a:Act} (h:St n s a) {d:Nat} (hd:d<n.sz) (v:Value):St n ((d,v)::s) (a.put (some d) v):=by
 refine ⟨by simp [Act.put,h.size],h.defers,fun t u hu=> ?_⟩
 rw [iA] at hu
 by_cases e:d=t
 ·
  subst e
  simp only [if_true,Option.some.injEq] at hu
  subst hu
  simp [Act.put,h.size,hd]
 ·
  rw [if_neg e] at hu
  simp only [Act.put]
  rw [PN e]
  exact h.has t u hu
theorem St.put_none {n:Fr} {s:az} {a:Act} (h:St n s a) (v:Value):St n s (a.put none v):=h
def Sub (s1 s2:az):Prop:= ∀ t v,look s1 t=some v→look s2 t=some v
theorem Sub.nil (s:az):Sub [] s:=fun _ _ h=>by simp [look] at h
theorem Sub.cons {s1 s2:az} {t:Nat} {v:Value} (h:look s2 t=some v) (hs:Sub s1 s2):Sub ((t,v)::s1) s2:=by
 intro u x hx
 rw [iA] at hx
 by_cases e:t=u
 ·
  subst e
  rw [if_pos rfl] at hx
  rw [h];exact hx
 ·
  rw [if_neg e] at hx
  exact hs u x hx
theorem St.sub {n:Fr} {s1 s2:az} {a:Act} (h:St n s2 a) (hs:Sub s1 s2):St n s1 a:=⟨h.size,h.defers,fun t v ht=>h.has t v (hs t v ht)⟩
abbrev bO:=Exit→az→List Blk→Prop
def post (n:Fr) (w0:World) (Q:bO):Exit→Act→World→Prop:=fun e a w=> ∃ s H,St n s a∧Mem w0 w H∧Q e s H
def W (P:Program) (n:Fr) (w0:World) (c:Code) (Q:bO) (s:az) (H:List Blk):Prop:=
 ∀ a w,St n s a→Mem w0 w H→c.wp P (post n w0 Q) a w
def WL (P:Program) (n:Fr) (w0:World) (ops:Array Oper) (rest:List Oper) (Q:bO) (s:az) (H:List Blk):Prop:=
 ∀ a w,St n s a→Mem w0 w H→wpList P ops (post n w0 Q) rest a w
def thn (K:az→List Blk→Prop) (Q:bO):bO
 | .normal,s,H=>K s H
 |e,s,H=>Q e s H
def blk (id:Nat) (Q:bO):bO
 | .exit id',s,H=>if id' =id then Q .normal s H else Q (.exit id') s H
 |e,s,H=>Q e s H
section
variable {P:Program} {n:Fr} {w0:World} {Q:bO} {s:az} {H:List Blk}
theorem G5 {c:Code} {Q' :bO} (hq: ∀ e s H,Q e s H→Q' e s H) (h:W P n w0 c Q s H):W P n w0 c Q' s H:=
 fun a w hs hm=>wp_mono (h a w hs hm) fun _ _ _ ⟨s,H,h1,h2,h3⟩=>⟨s,H,h1,h2,hq _ _ _ h3⟩
theorem MI {c:Code} {s' :az} (hs:Sub s' s) (h:W P n w0 c Q s' H):W P n w0 c Q s H:=
 fun a w hst hm=>h a w (hst.sub hs) hm
theorem oD {x y:Code} (h:W P n w0 x (thn (W P n w0 y Q) Q) s H):W P n w0 (.seq x y) Q s H:=by
 intro a w hs hm
 refine wp_seq (wp_mono (h a w hs hm) ?_)
 rintro e a' w' ⟨s',H',h1,h2,h3⟩
 cases e with
 |normal=>exact h3 a' w' h1 h2
 |_=>exact ⟨s',H',h1,h2,h3⟩
theorem kG (h:Q .normal s H):W P n w0 .skip Q s H:=fun _ _ hs hm=>wp_skip ⟨s,H,hs,hm,h⟩
theorem oE (h:Q .ret s H):W P n w0 .ret Q s H:=fun _ _ hs hm=>wp_ret ⟨s,H,hs,hm,h⟩
theorem kH {id:Nat} (h:Q (.exit id) s H):W P n w0 (.exit id) Q s H:=fun _ _ hs hm=>wp_exit ⟨s,H,hs,hm,h⟩
theorem iL {id:Nat} {c:Code} (h:W P n w0 c (blk id Q) s H):W P n w0 (.block id c) Q s H:=by
 intro a w hs hm
 refine wp_block (wp_mono (h a w hs hm) ?_)
 rintro e a' w' ⟨s',H',h1,h2,h3⟩
 cases e with
 |exit id' =>
  simp only [Exit.inBlock,blk] at h3 ⊢
  split
  ·
   rename_i hid;rw [if_pos hid] at h3;exact ⟨s',H',h1,h2,h3⟩
  ·
   rename_i hid;rw [if_neg hid] at h3;exact ⟨s',H',h1,h2,h3⟩
 |_=>exact ⟨s',H',h1,h2,h3⟩
theorem dq {c:Operand} {x y:Code} (hc:ev s c=some (.bool true)) (h:W P n w0 x Q s H):W P n w0 (.cond c x y) Q s H:=
 fun a w hs hm=>wp_cond_true (hs.eval c _ hc) (h a w hs hm)
theorem cM {c:Operand} {x y:Code} (hc:ev s c=some (.bool false)) (h:W P n w0 y Q s H):W P n w0 (.cond c x y) Q s H:=
 fun a w hs hm=>wp_cond_false (hs.eval c _ hc) (h a w hs hm)
theorem kI {c:Operand} {x y:Code} {b:Bool} (hc:ev s c=some (.bool b)) (ht:b=true→W P n w0 x Q s H) (hf:b=false→W P n w0 y Q s H):
  W P n w0 (.cond c x y) Q s H:=
 fun a w hs hm=>wp_cond_split (hs.eval c _ hc) (fun e=>ht e a w hs hm) (fun e=>hf e a w hs hm)
end
inductive In (b:Blk):List Blk→Prop
 |hd {T:List Blk}:In b (b::T)
 |tl {x:Blk} {T:List Blk}:In b T→In b (x::T)
inductive Sel (b:Blk):List Blk→List Blk→Prop
 |hd {T:List Blk}:Sel b (b::T) T
 |tl {x:Blk} {T T' :List Blk}:Sel b T T' →Sel b (x::T) (x::T')
theorem In.mem {b:Blk} {H:List Blk} (h:In b H):b∈H:=by
 induction h with
 |hd=>exact NI
 |tl _ ih=>exact NQ _ ih
theorem Sel.perm {b:Blk} {H T:List Blk} (h:Sel b H T):H.Perm (b::T):=by
 induction h with
 |hd=>exact .refl _
 |tl _ ih=>exact (ih.cons _).trans (.swap _ _ _)
theorem Mem.perm {w0 w:World} {H H' :List Blk} (h:Mem w0 w H) (hp:H.Perm H'):Mem w0 w H' :=
 ⟨h.below,fun b hb=>h.on b (hp.mem_iff.2 hb),(hp.pairwise_iff (fun {_ _} h=>Apart.symm h)).1 h.apart⟩
theorem Mem.sel {w0 w:World} {H T:List Blk} {b:Blk} (h:Mem w0 w H) (hs:Sel b H T):Mem w0 w (b::T):=h.perm hs.perm
theorem Mem.tail {w0 w:World} {T:List Blk} {b:Blk} (h:Mem w0 w (b::T)):Mem w0 w T:=
 ⟨h.below,fun x hx=>h.on x (NQ _ hx),(Oi.1 h.apart).2⟩
theorem Mem.left {w0 w:World} {H T:List Blk} (h:Mem w0 w (H++T)):Mem w0 w H:=
 ⟨h.below,fun x hx=>h.on x (P3 _ hx),(O5.1 h.apart).1⟩
theorem Mem.right {w0 w:World} {H T:List Blk} (h:Mem w0 w (H++T)):Mem w0 w T:=
 ⟨h.below,fun x hx=>h.on x (PW _ hx),(O5.1 h.apart).2.1⟩
def MSub (H H' :List Blk):Prop:= ∃ T,H'.Perm (H++T)
theorem MSub.use {H H' :List Blk} (h:MSub H H') {w0 w:World} (hm:Mem w0 w H'):Mem w0 w H:=by
 obtain ⟨T,hp⟩:=h
 exact (hm.perm hp).left
theorem MSub.refl (H:List Blk):MSub H H:=⟨[],by simp⟩
theorem MSub.nil (H:List Blk):MSub [] H:=⟨H,by simp⟩
theorem MSub.pick {b:Blk} {H H' T:List Blk} (hs:Sel b H' T) (h:MSub H T):MSub (b::H) H' :=by
 obtain ⟨U,hp⟩:=h
 exact ⟨U,hs.perm.trans (hp.cons b)⟩
theorem MSub.trans {H H' H'' :List Blk} (h:MSub H H') (k:MSub H' H''):MSub H H'' :=by
 obtain ⟨T,hT⟩:=h
 obtain ⟨U,hU⟩:=k
 exact ⟨T++U,hU.trans (by rw [← OA];exact hT.append_right U)⟩
theorem MSub.drop {H H' T:List Blk} {b:Blk} (hs:Sel b H' T) (h:MSub H T):MSub H H' :=by
 obtain ⟨U,hp⟩:=h
 refine ⟨b::U,hs.perm.trans ((hp.cons b).trans ?_)⟩
 exact List.perm_middle.symm
section
variable {P:Program} {n:Fr} {w0:World} {Q:bO} {s:az} {H:List Blk}
theorem LN {c:Code} {H' :List Blk} (hH:MSub H' H) (h:W P n w0 c Q s H'):W P n w0 c Q s H:=
 fun a w hst hm=>h a w hst (hH.use hm)
theorem fC {ι:Type} {c:Code} (sI:ι→az) (HI:ι→List Blk) (ok:ι→Prop) (μ:ι→Nat) (i0:ι) (h0:ok i0) (hs0:Sub (sI i0) s) (hH0:MSub (HI i0) H)
  (round: ∀ i,ok i→W P n w0 c (thn (fun s' H' => ∃ i',ok i' ∧μ i' <μ i∧Sub (sI i') s' ∧MSub (HI i') H') Q) (sI i) (HI i)):W P n w0 (.loop c) Q s H:=by
 intro a w hs hm
 refine wp_loop_ghost (fun k a' w' => ∃ i,ok i∧μ i=k∧St n (sI i) a' ∧Mem w0 w' (HI i)) (μ i0) ⟨i0,h0,rfl,hs.sub hs0,hH0.use hm⟩ ?_
 rintro k a1 w1 ⟨i,hi,rfl,hs1,hm1⟩
 refine wp_mono (round i hi a1 w1 hs1 hm1) ?_
 rintro e a' w' ⟨s',H',h1,h2,h3⟩
 cases e with
 |normal=>
  obtain ⟨i',hi',hlt,hsub,hms⟩:=h3
  exact ⟨μ i',hlt,i',hi',rfl,h1.sub hsub,hms.use h2⟩
 |_=>exact ⟨s',H',h1,h2,h3⟩
end
theorem Blk.on_of_block {w w' :World} {b:Blk} (h:b.on w) (hk: ∀ k,b.key=some k→w'.heap[k]? =w.heap[k]?):b.on w' :=by
 cases b with
 |box g ty xs=>simp only [Blk.on] at h ⊢;rw [hk g rfl];exact h
 |obj g o=>simp only [Blk.on] at h ⊢;rw [hk g rfl];exact h
 |byt g ty m cap xs=>simp only [Blk.on] at h ⊢;rw [hk g rfl];exact h
 |own A ty size m cap xs=>
  simp only [Blk.on] at h ⊢
  refine ⟨h.1,h.2.1,h.2.2.1,?_⟩
  have h4:=h.2.2.2
  cases A with
  |none=>exact h4
  |some g=>
   obtain ⟨junk,hl,hg⟩:=h4
   exact ⟨junk,hl,(hk g rfl).trans hg⟩
theorem Blk.key_lt {w:World} {b:Blk} (h:b.on w) {k:Nat} (hk:b.key=some k):k<w.heap.size:=by
 have: ∃ o,w.heap[k]? =some o:=by
  cases b with
  |box g ty xs=>simp only [Blk.key,Option.some.injEq] at hk;subst hk;exact ⟨_,h⟩
  |obj g o=>simp only [Blk.key,Option.some.injEq] at hk;subst hk;exact ⟨_,h⟩
  |byt g ty m cap xs=>simp only [Blk.key,Option.some.injEq] at hk;subst hk;obtain ⟨_,_,junk,_,hg⟩:=h;exact ⟨_,hg⟩
  |own A ty size m cap xs=>
   simp only [Blk.key] at hk
   subst hk
   obtain ⟨_,_,_,junk,_,hg⟩:=h
   exact ⟨_,hg⟩
 obtain ⟨o,ho⟩:=this
 exact (Oz.1 ho).1
theorem Mem.refl (w:World):Mem w w []:=⟨.refl _ _,(fun _ h=>by cases h),List.Pairwise.nil⟩
theorem Mem.drew {w0 w:World} {H:List Blk} (h:Mem w0 w H):Mem w0 { w with drawn:=w.drawn+1 } H:=
 ⟨h.below.drew,fun b hb=>⟨Blk.on_of_block (h.on b hb).1 fun _ _=>rfl,(h.on b hb).2⟩,h.apart⟩
theorem Mem.upd {w0 w w' :World} {b b' :Blk} {T:List Blk} (h:Mem w0 w (b::T)) (hg:w.grownBy w' b.key) (hb:b'.on w')
  (hk: ∀ k,b'.key=some k→b.key=some k∨w.heap.size≤k):Mem w0 w' (b' ::T):=by
 have hap:=Oi.1 h.apart
 have hrow: ∀ k,b.key=some k→w0.heap.size≤k:=(h.on b NI).2
 have hsz:w0.heap.size≤w.heap.size:=h.below.size
 have hlt: ∀ x∈T,∀ k,x.key=some k→k<w.heap.size:=fun x hx k hxk=>Blk.key_lt (h.on x (NQ _ hx)).1 hxk
 refine ⟨h.below.grown hg hsz hrow,fun x hx=> ?_,Oi.2 ⟨fun x hx k hk1 hk2=> ?_,hap.2⟩⟩
 ·
  rcases NS.1 hx with rfl|hx
  ·
   refine ⟨hb,fun k hk1=> ?_⟩
   rcases hk k hk1 with h1|h1
   ·
    exact hrow k h1
   ·
    omega
  ·
   refine ⟨Blk.on_of_block (h.on x (NQ _ hx)).1 fun k hxk=> ?_,(h.on x (NQ _ hx)).2⟩
   exact hg.block k (hlt x hx k hxk) fun e=>hap.1 x hx k e.symm hxk
 ·
  rcases hk k hk1 with h1|h1
  ·
   exact hap.1 x hx k h1 hk2
  ·
   have:=hlt x hx k hk2
   omega
theorem Mem.new {w0 w w' :World} {b:Blk} {T:List Blk} (h:Mem w0 w T) (hg:w.grownBy w' none) (hb:b.on w') (hk: ∀ k,b.key=some k→w.heap.size≤k):Mem w0 w' (b::T):=by
 have h0:Mem w0 w (.own none 0 0 0 0 []::T):=
  ⟨h.below,fun x hx=>by
   rcases NS.1 hx with rfl|hx
   ·
    exact ⟨⟨by simp,NJ _,NY _,rfl,rfl⟩,(fun k hk=>by cases hk)⟩
   ·
    exact h.on x hx,Oi.2 ⟨(fun x _ k hk=>by cases hk),h.apart⟩⟩
 exact h0.upd (b:= .own none 0 0 0 0 []) hg hb fun k h1=> .inr (hk k h1)
theorem Mem.call {w0 w w' :World} {H H' :List Blk} (h:Mem w0 w H) (h' :Mem w w' H'):Mem w0 w' (H' ++H):=by
 have hsz:w0.heap.size≤w.heap.size:=h.below.size
 have hold: ∀ x∈H,∀ k,x.key=some k→k<w.heap.size:=fun x hx k hxk=>Blk.key_lt (h.on x hx).1 hxk
 refine ⟨h.below.trans (h'.below.mono hsz),fun x hx=> ?_,O5.2 ⟨h'.apart,h.apart,fun x hx y hy k hk1 hk2=> ?_⟩⟩
 ·
  rcases Ol.1 hx with hx|hx
  ·
   exact ⟨(h'.on x hx).1,fun k hk=>Ok hsz ((h'.on x hx).2 k hk)⟩
  ·
   exact ⟨Blk.on_of_block (h.on x hx).1 fun k hk=>h'.below.block k (hold x hx k hk),(h.on x hx).2⟩
 ·
  have h1:=(h'.on x hx).2 k hk1
  have h2:=hold y hy k hk2
  omega
def VOp (P:Program) (w0:World) (s:az) (H:List Blk) (op:Op) (ty:TypeId) (v:Value):Prop:=
 ∀ (ρ:Operand→Value) (w:World) (d:Option Tmp) (p:String) (af:Array Edge) (g:Option (Nat × Bool)),
  (∀ x u,ev s x=some u→ρ x=u)→Mem w0 w H→(execOp ρ ⟨d,op,ty,p,af,g⟩).run P w= .ok (.value v) w
section
variable {P:Program} {n:Fr} {w0:World} {Q:bO} {s:az} {H:List Blk} {ops:Array Oper} {rest:List Oper} {ty:TypeId} {p:String} {af:Array Edge}
theorem jJ (h:Q .normal s H):WL P n w0 ops [] Q s H:=fun _ _ hs hm=>wpList_nil ⟨s,H,hs,hm,h⟩
theorem fP {id:Nat} {l:List Oper} (h:WL P n w0 l.toArray l Q s H):W P n w0 (.region id l.toArray false) Q s H:=
 fun a w hs hm=>wp_region_lit (h a w hs hm)
theorem sq {o:Oper} {v:Value} (hg:Region.wanted o=fun _=>true) (d:Nat) (hd:o.dst=some d) (hn:Nat.blt d n.sz=true)
  (h: ∀ a w,St n s a→Mem w0 w H→(execOp a.eval o).run P w= .ok (.value v) w)
  (k:WL P n w0 ops rest Q ((d,v)::s) H):WL P n w0 ops (o::rest) Q s H:=by
 intro a w hs hm
 refine wpList_step fun K hK=> ?_
 rw [hg,if_pos rfl]
 simp only [Oper.wp,h a w hs hm,Oper.upon,hd]
 exact hK _ _ (k _ _ (hs.put (OH ▸ hn) v) hm)
theorem ak {op:Op} {d:Nat} {v:Value} (hn:Nat.blt d n.sz=true) (hv:VOp P w0 s H op ty v) (k:WL P n w0 ops rest Q ((d,v)::s) H):
  WL P n w0 ops (⟨some d,op,ty,p,af,none⟩::rest) Q s H:=
 sq rfl d rfl hn (fun _ _ hs hm=>hv _ _ _ _ _ _ hs.eval hm) k
class One (P:Program) (t:TypeId):Prop where
 out: ∃ d,P.underlying t=some d∧(match d with| .struct _| .array _ _=>false|_=>true)=true
class Agg (P:Program) (t:TypeId) (m:outParam Nat):Prop where
 out: ∃ d i,P.underlying t=some d∧(match d with| .struct _| .array _ _=>true|_=>false)=true∧P.info? t=some i∧i.size=m
class Size (P:Program) (t:TypeId) (m:outParam Nat):Prop where
 out: ∃ i,P.info? t=some i∧i.size=m
class Und (P:Program) (t:TypeId) (d:outParam TypeDesc):Prop where
 out:P.underlying t=some d
class Fld (P:Program) (t:TypeId) (f:Nat) (o:outParam Nat):Prop where
 out: ∃ fs fl i,P.underlying t=some (.struct fs)∧fs[f]? =some fl∧fl.offset=o∧P.info? fl.type=some i∧i.size≠0
class Zero (P:Program) (t:TypeId) (z:outParam Value):Prop where
 out: ∃ i,P.info? t=some i∧i.zero=some z
class Elem (P:Program) (t:TypeId) (size bytes:outParam Nat):Prop where
 out: ∃ i z,P.info? t=some i∧i.size=size∧i.bytes=bytes∧i.zero=some z∧z.cells.size=size∧0<size
class Callable (P:Program) (f:FuncId):Prop where
 out: ∀ args w,(callFunc f args).run P w= .ok (.enter f args) w
theorem LU {x:Operand} {v:Value} (hx:ev s x=some v):VOp P w0 s H (.move x) ty v:=fun ρ w _ _ _ _ hρ _=>by
 simp [execOp,hρ x v hx]
theorem mN {x:Operand} {v:Value} (hx:ev s x=some v):VOp P w0 s H (.assign x) ty v:=fun ρ w _ _ _ _ hρ _=>by
 simp [execOp,hρ x v hx]
theorem G9 {c a b:Operand} {v:Value} (hc:ev s c=some (.bool true)) (ha:ev s a=some v):VOp P w0 s H (.pick c a b) ty v:=fun ρ w _ _ _ _ hρ _=>by
 simp [execOp,hρ c _ hc,hρ a v ha,asBool]
theorem Hz {c a b:Operand} {v:Value} (hc:ev s c=some (.bool false)) (hb:ev s b=some v):VOp P w0 s H (.pick c a b) ty v:=fun ρ w _ _ _ _ hρ _=>by
 simp [execOp,hρ c _ hc,hρ b v hb,asBool]
section ap
variable {x y:Operand} {k:IntKind} {a b:Int} {t t' :TypeId}
theorem MQ (hx:ev s x=some (.int k a)) (hy:ev s y=some (.int k b)):VOp P w0 s H (.binOp .lss t x y t') ty (.bool (decide (a<b))):=fun ρ w _ _ _ _ hρ _=>by
 simp [execOp,hρ x _ hx,hρ y _ hy,eqGuard,binOp,Op.intCmp]
theorem MR (hx:ev s x=some (.int k a)) (hy:ev s y=some (.int k b)):VOp P w0 s H (.binOp .leq t x y t') ty (.bool (decide (a≤b))):=fun ρ w _ _ _ _ hρ _=>by
 simp [execOp,hρ x _ hx,hρ y _ hy,eqGuard,binOp,Op.intCmp]
theorem MS (hx:ev s x=some (.int k a)) (hy:ev s y=some (.int k b)):VOp P w0 s H (.binOp .gtr t x y t') ty (.bool (decide (b<a))):=fun ρ w _ _ _ _ hρ _=>by
 simp [execOp,hρ x _ hx,hρ y _ hy,eqGuard,binOp,Op.intCmp]
theorem MT (hx:ev s x=some (.int k a)) (hy:ev s y=some (.int k b)):VOp P w0 s H (.binOp .geq t x y t') ty (.bool (decide (b≤a))):=fun ρ w _ _ _ _ hρ _=>by
 simp [execOp,hρ x _ hx,hρ y _ hy,eqGuard,binOp,Op.intCmp]
theorem MU (hx:ev s x=some (.int k a)) (hy:ev s y=some (.int k b)):VOp P w0 s H (.binOp .eql t x y t') ty (.bool (decide (a=b))):=fun ρ w _ _ _ _ hρ _=>by
 simp [execOp,hρ x _ hx,hρ y _ hy,eqGuard,binOp,Op.intCmp]
 rw [Om];simp
theorem MP (hx:ev s x=some (.int k a)) (hy:ev s y=some (.int k b)):VOp P w0 s H (.binOp .neq t x y t') ty (.bool (decide (a≠b))):=fun ρ w _ _ _ _ hρ _=>by
 simp [execOp,hρ x _ hx,hρ y _ hy,eqGuard,binOp,Op.intCmp,bne]
 rw [Om];simp
def I64 (z:Int):Prop:= -9223372036854775808≤z∧z≤9223372036854775807
theorem I64.wrap {z:Int} (h:I64 z):IntKind.i64.wrap z=z:=by
 rw [IntKind.wrap_i64]
 obtain ⟨h1,h2⟩:=h
 omega
theorem dw (hx:ev s x=some (.int .i64 a)) (hy:ev s y=some (.int .i64 b)) (h:I64 (a+b)):VOp P w0 s H (.binOp .add t x y t') ty (.int .i64 (a+b)):=fun ρ w _ _ _ _ hρ _=>by
 simp [execOp,hρ x _ hx,hρ y _ hy,eqGuard,binOp,Op.intArith,h.wrap]
theorem G6 (hx:ev s x=some (.int .i64 a)) (hy:ev s y=some (.int .i64 b)) (h:I64 (a - b)):VOp P w0 s H (.binOp .sub t x y t') ty (.int .i64 (a - b)):=fun ρ w _ _ _ _ hρ _=>by
 simp [execOp,hρ x _ hx,hρ y _ hy,eqGuard,binOp,Op.intArith,h.wrap]
theorem tE (hx:ev s x=some (.int .i64 a)) (hy:ev s y=some (.int .i64 b)) (h:I64 (a*b)):VOp P w0 s H (.binOp .mul t x y t') ty (.int .i64 (a*b)):=fun ρ w _ _ _ _ hρ _=>by
 simp [execOp,hρ x _ hx,hρ y _ hy,eqGuard,binOp,Op.intArith,h.wrap]
theorem tJ (hx:ev s x=some (.int k a)) (hy:ev s y=some (.int k b)):VOp P w0 s H (.binOp .add t x y t') ty (.int k (k.wrap (a+b))):=fun ρ w _ _ _ _ hρ _=>by
 simp [execOp,hρ x _ hx,hρ y _ hy,eqGuard,binOp,Op.intArith]
theorem LQ (hx:ev s x=some (.int k a)) (hy:ev s y=some (.int k b)):VOp P w0 s H (.binOp .sub t x y t') ty (.int k (k.wrap (a - b))):=fun ρ w _ _ _ _ hρ _=>by
 simp [execOp,hρ x _ hx,hρ y _ hy,eqGuard,binOp,Op.intArith]
theorem MM (hx:ev s x=some (.int k a)) (hy:ev s y=some (.int k b)) (h:b≠0):VOp P w0 s H (.binOp .rem t x y t') ty (.int k (a.tmod b)):=fun ρ w _ _ _ _ hρ _=>by
 simp [execOp,hρ x _ hx,hρ y _ hy,eqGuard,binOp,Op.intDiv,h]
theorem LA (hx:ev s x=some (.int .i64 a)) (h:I64 (-a)):VOp P w0 s H (.unOp .neg t x) ty (.int .i64 (-a)):=fun ρ w _ _ _ _ hρ _=>by
 simp [execOp,hρ x _ hx,Op.unary,Op.intArith,h.wrap]
theorem Cb {k' :IntKind} {d:TypeDesc} [hs:Und P t d] [hd:Und P t' (.int k')] (hx:ev s x=some (.int k a)):VOp P w0 s H (.convert t t' x) ty (.int k' (k'.wrap a)):=fun ρ w _ _ _ _ hρ _=>by
 simp [execOp,hρ x _ hx,convert,run_underlying hs.out,run_underlying hd.out,Conv.intToInt]
end ap
section bools
variable {x y:Operand} {a b:Bool} {t t' :TypeId}
theorem MO (hx:ev s x=some (.bool a)):VOp P w0 s H (.unOp .not t x) ty (.bool (!a)):=fun ρ w _ _ _ _ hρ _=>by
 simp [execOp,hρ x _ hx,Op.unary]
theorem je [ht:Und P t .bool] (hx:ev s x=some (.bool a)) (hy:ev s y=some (.bool b)):VOp P w0 s H (.binOp .eql t x y t') ty (.bool (a==b)):=fun ρ w _ _ _ _ hρ _=>by
 simp [execOp,hρ x _ hx,hρ y _ hy,eqGuard,run_eql_bool w t a b ht.out]
theorem ic [ht:Und P t .bool] (hx:ev s x=some (.bool a)) (hy:ev s y=some (.bool b)):VOp P w0 s H (.binOp .neq t x y t') ty (.bool (!(a==b))):=fun ρ w _ _ _ _ hρ _=>by
 simp [execOp,hρ x _ hx,hρ y _ hy,eqGuard,run_neq_bool w t a b ht.out]
end bools
section strings
variable {x y:Operand} {a b:ByteArray} {t t' :TypeId}
theorem qo (a b:ByteArray):(a.toList==b.toList)=decide (a=b):=by
 rw [← beq_toListBytes]
 obtain ⟨⟨x⟩⟩:=a
 obtain ⟨⟨y⟩⟩:=b
 show ((⟨x⟩:Array UInt8)==⟨y⟩)=_
 rw [Om]
 simp
theorem xF (hx:ev s x=some (.string a)) (hy:ev s y=some (.string b)):VOp P w0 s H (.binOp .eql t x y t') ty (.bool (decide (a=b))):=fun ρ w _ _ _ _ hρ _=>by
 simp [execOp,hρ x _ hx,hρ y _ hy,eqGuard,binOp,Op.stringOp,qo]
theorem qG (hx:ev s x=some (.string a)) (hy:ev s y=some (.string b)):VOp P w0 s H (.binOp .neq t x y t') ty (.bool (decide (a≠b))):=fun ρ w _ _ _ _ hρ _=>by
 simp [execOp,hρ x _ hx,hρ y _ hy,eqGuard,binOp,Op.stringOp,qo]
theorem ij [ht:Und P t .string] (hx:ev s x=some (.string a)):VOp P w0 s H (.call { callee:= .builtin .len,args:= #[x],argTypes:= #[t] }) ty (.int .i64 (a.size:Int)):=fun ρ w _ _ _ _ hρ _=>by
 simp [execOp,hρ x _ hx,resolve,invoke,builtin,Builtin.len_,run_underlying ht.out,goInt]
end strings
theorem mz {x:Operand} {A:Option Addr} {m c:Nat} {t e:TypeId} [ht:Und P t (.slice e)] (hx:ev s x=some (.slice A m c)):
  VOp P w0 s H (.call { callee:= .builtin .len,args:= #[x],argTypes:= #[t] }) ty (.int .i64 (m:Int)):=fun ρ w _ _ _ _ hρ _=>by
 simp [execOp,hρ x _ hx,resolve,invoke,builtin,Builtin.len_,run_underlying ht.out,goInt]
theorem gW {x y:Operand} {a b:Int} {ts:Array TypeId} (hx:ev s x=some (.int .i64 a)) (hy:ev s y=some (.int .i64 b)):
  VOp P w0 s H (.call { callee:= .builtin .max,args:= #[x,y],argTypes:=ts }) ty (.int .i64 (if a<b then b else a)):=fun ρ w _ _ _ _ hρ _=>by
 simp [execOp,hρ x _ hx,hρ y _ hy,resolve,invoke,builtin,run_max_int2]
theorem iW {x y:Operand} {a b:Int} {ts:Array TypeId} (hx:ev s x=some (.int .i64 a)) (hy:ev s y=some (.int .i64 b)):
  VOp P w0 s H (.call { callee:= .builtin .min,args:= #[x,y],argTypes:=ts }) ty (.int .i64 (if b<a then b else a)):=fun ρ w _ _ _ _ hρ _=>by
 simp [execOp,hρ x _ hx,hρ y _ hy,resolve,invoke,builtin,run_min_int2]
theorem Fg {x:Operand} {vs:List Value} {i:Nat} {v:Value} (hx:ev s x=some (.tuple vs.toArray)) (hi:vs[i]? =some v):VOp P w0 s H (.extract x i) ty v:=fun ρ w _ _ _ _ hρ _=>by
 have hi' :vs.toArray[i]? =some v:=by rw [OG];exact hi
 simp [execOp,hρ x _ hx,Instr.extract,hi]
theorem tV {w:World} {g o off:Nat} {fl:Field} {i:TypeInfo} (ho:fl.offset=o) (hi:P.info? fl.type=some i) (hz:i.size≠0):
  (fieldPlace ⟨g,off,none⟩ fl).run P w= .ok ⟨g,off+o,none⟩ w:=by
 have hz' :(if i.size=0 then true else false)=false:=by simp [hz]
 simp [fieldPlace,sizeOf,typeInfo,hi,hz,Addr.add,ho]
 try (intro h;rw [h])
theorem cA {x:Operand} {t f o g off:Nat} [hf:Fld P t f o] (hx:ev s x=some (.pointer (some ⟨g,off,none⟩))):
  VOp P w0 s H (.fieldAddr t x f) ty (.pointer (some ⟨g,off+o,none⟩)):=fun ρ w _ _ _ _ hρ _=>by
 obtain ⟨fs,fl,i,h1,h2,h3,h4,h5⟩:=hf.out
 simp [execOp,hρ x _ hx,Instr.fieldAt,run_underlying h1,h2,Instr.sureAddr,tV h3 h4 h5]
theorem aj {x ix:Operand} {t e g off m c j sz:Nat} {k:IntKind} [ht:Und P t (.slice e)] [hs:Size P e sz] (hx:ev s x=some (.slice (some ⟨g,off,none⟩) m c)) (hi:ev s ix=some (.int k (j:Nat)))
  (hj:j<m):VOp P w0 s H (.indexAddr t x ix) ty (.pointer (some ⟨g,off+j*sz,none⟩)):=fun ρ w _ _ _ _ hρ _=>by
 obtain ⟨i,h1,h2⟩:=hs.out
 have hj' :(j:Int)<(m:Int):=by omega
 have h0:(0:Int)≤(j:Int):=by omega
 have hadd:(⟨g,off,none⟩:Addr).add (j*sz)=⟨g,off+j*sz,none⟩:=by
  unfold Addr.add;split<;>simp_all
 simp [execOp,hρ x _ hx,hρ ix _ hi,Instr.indexAt,run_underlying ht.out,asIntOf,sizeOf,typeInfo,h1,h2,hadd]
 omega
def Cells (w:World) (g off:Nat) (xs:List Value):Prop:= ∀ j v,xs[j]? =some v→w.cell? ⟨g,off+j,none⟩=some v
theorem cH (g off j:Nat):(⟨g,off,none⟩:Addr).add j=⟨g,off+j,none⟩:=by
 unfold Addr.add;split<;>simp_all
theorem gP {w:World} {t:TypeId} {g off:Nat} {v:Value} [h:One P t] (hc:w.cell? ⟨g,off,none⟩=some v):(loadVar t ⟨g,off,none⟩).run P w= .ok v w:=by
 obtain ⟨d,hd,ho⟩:=h.out
 cases d<;>simp_all [loadVar,isAgg,run_underlying hd]
theorem jt {w:World} {t:TypeId} {g off m:Nat} {xs:List Value} [h:Agg P t m] (hl:xs.length=m) (hc:Cells w g off xs):(loadVar t ⟨g,off,none⟩).run P w= .ok (.agg xs.toArray) w:=by
 obtain ⟨d,i,hd,ho,hi,hs⟩:=h.out
 have h1:=run_loadCells_list (P:=P) w ⟨g,off,none⟩ xs (fun j v hv=>by rw [cH];exact hc j v hv)
 rw [hl] at h1
 cases d<;>simp_all [loadVar,isAgg,run_underlying hd,sizeOf,typeInfo]
theorem Mem.cells_box {w w0:World} {H:List Blk} {g:Nat} {t:TypeId} {xs:List Value} (h:Mem w0 w H) (hi:In (.box g t xs) H):Cells w g 0 xs:=by
 have h1:=(h.on _ hi.mem).1
 simp only [Blk.on] at h1
 intro j v hv
 rw [N7,cell_of_row w g j _ t (0,0) h1]
 simpa using hv
theorem Mem.cells_own {w w0:World} {H:List Blk} {g m c sz:Nat} {t:TypeId} {xs:List Value} (h:Mem w0 w H) (hi:In (.own (some g) t sz m c xs) H):Cells w g 0 xs:=by
 obtain ⟨hl,_,_,junk,_,h1⟩:=(h.on _ hi.mem).1
 intro j v hv
 rw [N7,cell_of_row w g j _ t (0,0) h1]
 have hlt:=(NV.1 hv).1
 rw [OG,OP hlt]
 exact hv
structure Ro (w0:World) (g off:Nat) (xs:List Value):Prop where
 lt:g<w0.heap.size
 cells:Cells w0 g off xs
theorem Ro.later {w w0:World} {H:List Blk} {g off:Nat} {xs:List Value} (h:Ro w0 g off xs) (hm:Mem w0 w H):Cells w g off xs:=
 fun j v hv=>(hm.below.cell (p:=⟨g,off+j,none⟩) h.lt).trans (h.cells j v hv)
theorem Cells.drop {w:World} {g off k:Nat} {xs:List Value} (h:Cells w g off xs):Cells w g (off+k) (xs.drop k):=fun j v hv=>by
 rw [O6] at hv
 rw [Pr];exact h _ v hv
theorem Cells.take {w:World} {g off k:Nat} {xs:List Value} (h:Cells w g off xs):Cells w g off (xs.take k):=fun j v hv=>by
 rw [List.getElem?_take] at hv
 split at hv
 ·
  exact h _ v hv
 ·
  cases hv
theorem bM {x:Operand} {t T g off:Nat} {xs:List Value} {v:Value} [One P t] (hx:ev s x=some (.pointer (some ⟨g,off,none⟩))) (hi:In (.box g T xs) H) (hv:xs[off]? =some v):
  VOp P w0 s H (.load t x) ty v:=fun ρ w _ _ _ _ hρ hm=>by
 have hc:=hm.cells_box hi off v hv
 rw [N7] at hc
 simp [execOp,hρ x _ hx,Instr.loadAt,Instr.sureAddr,gP (P:=P) hc]
theorem bF {x:Operand} {t T g off m c sz:Nat} {xs:List Value} {v:Value} [One P t] (hx:ev s x=some (.pointer (some ⟨g,off,none⟩))) (hi:In (.own (some g) T sz m c xs) H) (hv:xs[off]? =some v):
  VOp P w0 s H (.load t x) ty v:=fun ρ w _ _ _ _ hρ hm=>by
 have hc:=hm.cells_own hi off v hv
 rw [N7] at hc
 simp [execOp,hρ x _ hx,Instr.loadAt,Instr.sureAddr,gP (P:=P) hc]
theorem aH {x:Operand} {t g o off:Nat} {xs:List Value} {v:Value} [One P t] (hr:Ro w0 g o xs) (hx:ev s x=some (.pointer (some ⟨g,o+off,none⟩))) (hv:xs[off]? =some v):
  VOp P w0 s H (.load t x) ty v:=fun ρ w _ _ _ _ hρ hm=>by
 simp [execOp,hρ x _ hx,Instr.loadAt,Instr.sureAddr,gP (P:=P) (hr.later hm off v hv)]
theorem rk {x:Operand} {t T g off m:Nat} {xs ys:List Value} [Agg P t m] (hx:ev s x=some (.pointer (some ⟨g,off,none⟩))) (hi:In (.box g T xs) H) (hv:(xs.drop off).take m=ys) (hl:ys.length=m):
  VOp P w0 s H (.load t x) ty (.agg ys.toArray):=fun ρ w _ _ _ _ hρ hm=>by
 subst hv
 have hc:Cells w g off ((xs.drop off).take m):=by
  have:=((hm.cells_box hi).drop (k:=off)).take (k:=m)
  rwa [N7] at this
 simp [execOp,hρ x _ hx,Instr.loadAt,Instr.sureAddr,jt (P:=P) hl hc]
theorem aR {x:Operand} {t T g off m n' c sz:Nat} {xs ys:List Value} [Agg P t m] (hx:ev s x=some (.pointer (some ⟨g,off,none⟩))) (hi:In (.own (some g) T sz n' c xs) H) (hv:(xs.drop off).take m=ys) (hl:ys.length=m):
  VOp P w0 s H (.load t x) ty (.agg ys.toArray):=fun ρ w _ _ _ _ hρ hm=>by
 subst hv
 have hc:Cells w g off ((xs.drop off).take m):=by
  have:=((hm.cells_own hi).drop (k:=off)).take (k:=m)
  rwa [N7] at this
 simp [execOp,hρ x _ hx,Instr.loadAt,Instr.sureAddr,jt (P:=P) hl hc]
theorem eX {x:Operand} {t g o off m:Nat} {xs ys:List Value} [Agg P t m] (hr:Ro w0 g o xs) (hx:ev s x=some (.pointer (some ⟨g,o+off,none⟩))) (hv:(xs.drop off).take m=ys) (hl:ys.length=m):
  VOp P w0 s H (.load t x) ty (.agg ys.toArray):=fun ρ w _ _ _ _ hρ hm=>by
 subst hv
 have hc:Cells w g (o+off) ((xs.drop off).take m):=((hr.later hm).drop (k:=off)).take (k:=m)
 simp [execOp,hρ x _ hx,Instr.loadAt,Instr.sureAddr,jt (P:=P) hl hc]
end
section
variable {P:Program} {n:Fr} {w0:World} {Q:bO} {s:az} {H:List Blk} {l rest:List Oper} {ty:TypeId} {p:String} {af:Array Edge}
def gd:List Oper→Nat→Option Nat
 | [],_=>none
 |o::_,0=>o.dst
 |_::r,j+1=>gd r j
theorem Ni (l:List Oper) (j:Nat):(l.toArray[j]?).bind (·.dst)=gd l j:=by
 rw [OG]
 induction l generalizing j with
 |nil=>simp [gd]
 |cons o l ih=>cases j with
  |zero=>simp [gd]
  |succ j=>simpa [gd] using ih j
def kX:Value→Option Bool
 | .bool b=>some b
 |_=>none
theorem jI {a:Act} {j d:Nat} {v:Value} (hs:St n s a) (hj:gd l j=some d) (hv:look s d=some v):
  yielded l.toArray a.tmps j=kX v:=by
 unfold yielded
 rw [Ni,hj]
 simp [hs.has d v hv]
 cases v<;>rfl
theorem iH {op:Op} {dst:Option Tmp} {j d:Nat} {dD:Bool} (hj:gd l j=some d) (hv:look s d=some (.bool dD))
  (k:WL P n w0 l.toArray (⟨dst,op,ty,p,af,none⟩::rest) Q s H):WL P n w0 l.toArray (⟨dst,op,ty,p,af,some (j,dD)⟩::rest) Q s H:=by
 intro a w hs hm
 have h:=k a w hs hm
 have hy:=jI hs hj hv
 simp only [wpList,Region.wanted,if_true] at h
 simp only [wpList,Region.wanted,hy,kX,beq_self_eq_true,if_true]
 exact h
theorem GS {op:Op} {dst j d:Nat} {dD:Bool} {v:Value} (hj:gd l j=some d) (hv:look s d=some v) (hw:kX v≠some dD) (hn:Nat.blt dst n.sz=true)
  (k:WL P n w0 l.toArray rest Q ((dst,undef)::s) H):WL P n w0 l.toArray (⟨some dst,op,ty,p,af,some (j,dD)⟩::rest) Q s H:=by
 intro a w hs hm
 have hy:=jI hs hj hv
 have:(yielded l.toArray a.tmps j==some dD)=false:=by rw [hy];simpa using hw
 simp only [wpList,Region.wanted,this]
 exact k _ _ (hs.put (OH ▸ hn) _) hm
theorem St.shadow {a:Act} {d:Nat} {v:Value} (hs:St n s a) (hv:look s d=some v):St n ((d,v)::s) a:=
 ⟨hs.size,hs.defers,fun t u hu=>by
  rw [iA] at hu
  by_cases e:d=t
  ·
   subst e;rw [if_pos rfl] at hu;exact hs.has d u (hv.trans hu)
  ·
   rw [if_neg e] at hu;exact hs.has t u hu⟩
theorem eE {op:Op} {dst:Option Tmp} {j d:Nat} {dD b:Bool} (_hj:gd l j=some d) (hv:look s d=some (.bool b))
  (k1:b=true→WL P n w0 l.toArray (⟨dst,op,ty,p,af,some (j,dD)⟩::rest) Q ((d,.bool true)::s) H)
  (k2:b=false→WL P n w0 l.toArray (⟨dst,op,ty,p,af,some (j,dD)⟩::rest) Q ((d,.bool false)::s) H):
  WL P n w0 l.toArray (⟨dst,op,ty,p,af,some (j,dD)⟩::rest) Q s H:=by
 intro a w hs hm
 cases b with
 |true=>exact k1 rfl a w (hs.shadow hv) hm
 |false=>exact k2 rfl a w (hs.shadow hv) hm
theorem sn {op:Op} {H' :List Blk} {ops:Array Oper} (h: ∀ a w,St n s a→Mem w0 w H→ ∃ w',(execOp a.eval ⟨none,op,ty,p,af,none⟩).run P w= .ok .skip w' ∧Mem w0 w' H')
  (k:WL P n w0 ops rest Q s H'):WL P n w0 ops (⟨none,op,ty,p,af,none⟩::rest) Q s H:=by
 intro a w hs hm
 obtain ⟨w',hr,hm'⟩:=h a w hs hm
 refine wpList_plain rfl fun K hK=> ?_
 simp only [Oper.wp,hr,Oper.upon]
 exact hK _ _ (k _ _ (hs.put_none _) hm')
theorem js {w:World} {t T g off:Nat} {cur:Array Value} {v:Value} {vs:List Value} {m:Nat} [hz:Size P t m] (hv:v.cells=vs.toArray) (hl:vs.length=m) (h1: ∀ u∈vs,u.oneCell' =true)
  (hg:w.heap[g]? =some (.cells cur T (0,0))) (hfit:off+m≤cur.size):
  (storeVar t ⟨g,off,none⟩ v).run P w= .ok () (w.setRow g (cur.toList.take off++vs++cur.toList.drop (off+m)).toArray):=by
 obtain ⟨i,hi,hs⟩:=hz.out
 have hst:=run_storeCells_at P g off T vs 0 cur w hg (by simpa [hl] using hfit) h1
 simp only [PB,hl] at hst
 have hsz:v.cells.size=i.size:=by rw [hv,hs,← hl];simp
 have hsz' :vs.length=i.size:=hl.trans hs.symm
 simp [storeVar,sizeOf,typeInfo,hi,hsz',hv,hst]
theorem gO (w:World) (g:Nat) (cs:Array Value):w.grownBy (w.setRow g cs) (some g):=
 ⟨rfl,rfl,rfl,by simp,fun k _ hk=>setRow_other w g k _ (fun e=>hk (by rw [e]))⟩
theorem s9 {ops:Array Oper} {t T g off m:Nat} {x a:Operand} {xs vs:List Value} {v:Value} {R:List Blk} [Size P t m] (ha:ev s a=some (.pointer (some ⟨g,off,none⟩))) (hx:ev s x=some v)
  (hsel:Sel (.box g T xs) H R) (hv:v.cells=vs.toArray) (hl:vs.length=m) (h1: ∀ u∈vs,u.oneCell' =true) (hfit:off+m≤xs.length)
  (k:WL P n w0 ops rest Q s (.box g T (xs.take off++vs++xs.drop (off+m))::R)):WL P n w0 ops (⟨none,.store t a x,ty,p,af,none⟩::rest) Q s H:=by
 refine sn (fun a' w hs hm=> ?_) k
 have hm' :=hm.sel hsel
 have hb:=(hm'.on _ NI).1
 simp only [Blk.on] at hb
 have hr:=js (P:=P) (t:=t) (off:=off) hv hl h1 hb (by simpa using hfit)
 simp only at hr
 refine ⟨_,?_,hm'.upd (gO _ _ _) (b' := .box g T (xs.take off++vs++xs.drop (off+m))) (setRow_heap _ _ _ _ _ _ hb) fun k hk=> .inl hk⟩
 simp [execOp,hs.eval a _ ha,hs.eval x _ hx,Instr.storeAt,Instr.sureAddr,hr]
theorem pN (xs:List Value) (off:Nat) (v:Value) (h:off<xs.length):xs.take off++ [v]++xs.drop (off+1)=xs.set off v:=by
 rw [List.set_eq_take_append_cons_drop,if_pos h]
 simp
theorem xk {ops:Array Oper} {t T g off:Nat} {x a:Operand} {xs:List Value} {v:Value} {R:List Blk} [Size P t 1] (ha:ev s a=some (.pointer (some ⟨g,off,none⟩))) (hx:ev s x=some v)
  (hsel:Sel (.box g T xs) H R) (hv:v.oneCell' =true) (hfit:Nat.blt off xs.length=true)
  (k:WL P n w0 ops rest Q s (.box g T (xs.set off v)::R)):WL P n w0 ops (⟨none,.store t a x,ty,p,af,none⟩::rest) Q s H:=by
 have hf:off<xs.length:=by simpa using hfit
 refine s9 (m:=1) ha hx hsel (vs:= [v]) (by cases v<;>first|rfl|cases hv) rfl (by simpa using hv) (by omega) ?_
 rw [pN _ _ _ hf]
 exact k
theorem s8 {ops:Array Oper} {t T g off m sz n' c:Nat} {x a:Operand} {xs vs:List Value} {v:Value} {R:List Blk} [Size P t m] (ha:ev s a=some (.pointer (some ⟨g,off,none⟩))) (hx:ev s x=some v)
  (hsel:Sel (.own (some g) T sz n' c xs) H R) (hv:v.cells=vs.toArray) (hl:vs.length=m) (h1: ∀ u∈vs,u.oneCell' =true) (hfit:off+m≤xs.length)
  (k:WL P n w0 ops rest Q s (.own (some g) T sz n' c (xs.take off++vs++xs.drop (off+m))::R)):WL P n w0 ops (⟨none,.store t a x,ty,p,af,none⟩::rest) Q s H:=by
 refine sn (fun a' w hs hm=> ?_) k
 have hm' :=hm.sel hsel
 obtain ⟨h2,h3,h4,junk,h5,hb⟩:=(hm'.on _ NI).1
 have hr:=js (P:=P) (t:=t) (off:=off) hv hl h1 hb (by simp;omega)
 simp only at hr
 have he:(xs++junk).take off++vs++(xs++junk).drop (off+m)=(xs.take off++vs++xs.drop (off+m))++junk:=by
  rw [PT (by omega),List.drop_append_of_le_length hfit]
  simp
 rw [he] at hr
 have hlen:(xs.take off++vs++xs.drop (off+m)).length=xs.length:=by simp;omega
 refine ⟨_,?_,hm'.upd (gO _ _ _) (b' := .own (some g) T sz n' c (xs.take off++vs++xs.drop (off+m)))
  ⟨hlen.trans h2,h3,h4,junk,by rw [ND,hlen,← ND];exact h5,setRow_heap _ _ _ _ _ _ hb⟩ fun k hk=> .inl hk⟩
 simp [execOp,hs.eval a _ ha,hs.eval x _ hx,Instr.storeAt,Instr.sureAddr,hr]
theorem gL {ops:Array Oper} {t T g off sz n' c:Nat} {x a:Operand} {xs:List Value} {v:Value} {R:List Blk} [Size P t 1] (ha:ev s a=some (.pointer (some ⟨g,off,none⟩))) (hx:ev s x=some v)
  (hsel:Sel (.own (some g) T sz n' c xs) H R) (hv:v.oneCell' =true) (hfit:off<xs.length)
  (k:WL P n w0 ops rest Q s (.own (some g) T sz n' c (xs.set off v)::R)):WL P n w0 ops (⟨none,.store t a x,ty,p,af,none⟩::rest) Q s H:=by
 refine s8 (m:=1) ha hx hsel (vs:= [v]) (by cases v<;>first|rfl|cases hv) rfl (by simpa using hv) (by omega) ?_
 rw [pN _ _ _ hfit]
 exact k
theorem qA {op:Op} {d:Nat} {ops:Array Oper} (hn:Nat.blt d n.sz=true) {B:Nat→Blk} {v:Nat→Value}
  (h: ∀ a w,St n s a→Mem w0 w H→ ∃ w',(execOp a.eval ⟨some d,op,ty,p,af,none⟩).run P w= .ok (.value (v w.heap.size)) w' ∧w.grownBy w' none∧(B w.heap.size).on w' ∧(B w.heap.size).key=some w.heap.size)
  (k: ∀ g,WL P n w0 ops rest Q ((d,v g)::s) (B g::H)):WL P n w0 ops (⟨some d,op,ty,p,af,none⟩::rest) Q s H:=by
 intro a w hs hm
 obtain ⟨w',hr,hg,hb,hk⟩:=h a w hs hm
 refine wpList_plain rfl fun K hK=> ?_
 simp only [Oper.wp,hr,Oper.upon]
 refine hK _ _ (k w.heap.size _ _ (hs.put (OH ▸ hn) _) (hm.new hg hb fun k hk' => ?_))
 rw [hk] at hk'
 injection hk' with hk'
 omega
class ZeroC (P:Program) (t:TypeId) (zs:outParam (List Value)):Prop where
 out: ∃ i z,P.info? t=some i∧i.zero=some z∧z.cells=zs.toArray
theorem dH {d t:Nat} {zs:List Value} {ops:Array Oper} [hz:ZeroC P t zs] (hn:Nat.blt d n.sz=true)
  (k: ∀ g,WL P n w0 ops rest Q ((d,.pointer (some ⟨g,0,none⟩))::s) (.box g t zs::H)):WL P n w0 ops (⟨some d,.alloc t,ty,p,af,none⟩::rest) Q s H:=by
 refine qA (B:=fun g=> .box g t zs) (v:=fun g=> .pointer (some ⟨g,0,none⟩)) hn (fun a w hs hm=> ?_) k
 obtain ⟨i,z,h1,h2,h3⟩:=hz.out
 refine ⟨w.alloc (.cells z.cells t),?_,World.grownBy_alloc w _ none,?_,rfl⟩
 ·
  simp [execOp,Instr.alloc,zeroValue,typeInfo,h1,h2,newVar,newRow]
 ·
  simp only [Blk.on,← h3]
  exact heap_alloc_new w _
theorem GV {d t:Nat} {x:Operand} {v:Value} {vs:List Value} {ops:Array Oper} (hn:Nat.blt d n.sz=true) (hx:ev s x=some v) (hv:v.cells=vs.toArray)
  (k: ∀ g,WL P n w0 ops rest Q ((d,.pointer (some ⟨g,0,none⟩))::s) (.box g t vs::H)):WL P n w0 ops (⟨some d,.box t x,ty,p,af,none⟩::rest) Q s H:=by
 refine qA (B:=fun g=> .box g t vs) (v:=fun g=> .pointer (some ⟨g,0,none⟩)) hn (fun a w hs hm=> ?_) k
 refine ⟨w.alloc (.cells v.cells t),?_,World.grownBy_alloc w _ none,?_,rfl⟩
 ·
  simp [execOp,hs.eval x _ hx,Instr.box,newVar,newRow]
 ·
  simp only [Blk.on,← hv]
  exact heap_alloc_new w _
theorem dA {d t:Nat} {x:Operand} {vs:List Value} {ops:Array Oper} (hn:Nat.blt d n.sz=true) (hx:ev s x=some (.agg vs.toArray))
  (k: ∀ g,WL P n w0 ops rest Q ((d,.pointer (some ⟨g,0,none⟩))::s) (.box g t vs::H)):WL P n w0 ops (⟨some d,.box t x,ty,p,af,none⟩::rest) Q s H:=
 GV hn hx rfl k
theorem iI {d t:Nat} {x:Operand} {v:Value} {ops:Array Oper} (hn:Nat.blt d n.sz=true) (hx:ev s x=some v) (hv:v.oneCell' =true)
  (k: ∀ g,WL P n w0 ops rest Q ((d,.pointer (some ⟨g,0,none⟩))::s) (.box g t [v]::H)):WL P n w0 ops (⟨some d,.box t x,ty,p,af,none⟩::rest) Q s H:=
 GV hn hx (by cases v<;>first|rfl|cases hv) k
theorem Blk.own_of {w:World} {g e sz m c:Nat} {xs:List Value} (hg:w.heap[g]? =some (.cells xs.toArray e (0,0))) (hl:xs.length=m*sz) (hc:m=c) (hm:c≤maxLen):(Blk.own (some g) e sz m c xs).on w:=by
 subst hc
 exact ⟨hl,NJ _,hm,[],by simpa using hl,by simpa using hg⟩
def rX:List Value→Option (List Value)
 | []=>some []
 |x::r=>match rX r with
  |some r' =>some (x::r')
  |none=>none
theorem iP: ∀ {xs ys:List Value},rX xs=some ys→ys=xs
 | [],ys,h=>by simp only [rX,Option.some.injEq] at h;exact h.symm
 |x::r,ys,h=>by
  simp only [rX] at h
  split at h
  ·
   rename_i r' hr
   simp only [Option.some.injEq] at h
   rw [← h,iP hr]
  ·
   cases h
def evd (s:az):List (Nat × Operand)→Nat→Option (List Value)
 | [],_=>some []
 |(i,x)::r,k=>bif Nat.beq i k then (match ev s x,evd s r (k+1) with|some v,some vs=>some (v::vs)|_,_=>none) else none
theorem sU {a:Act} (hs:St n s a): ∀ {ps:List (Nat × Operand)} {vs:List Value} {k:Nat},evd s ps k=some vs→(ps.map fun (x:Nat × Operand)=>(x.1,a.eval x.2))=(vs.zipIdx k).map fun x=>(x.2,x.1)
 | [],vs,k,h=>by simp only [evd,Option.some.injEq] at h;simp [← h]
 |(i,x)::r,vs,k,h=>by
  simp only [evd] at h
  cases hb:Nat.beq i k with
  |false=>rw [hb] at h;cases h
  |true=>
   have hik:=Ou hb
   rw [hb] at h
   simp only [cond_true] at h
   split at h
   ·
    rename_i v vs' hv hvs
    simp only [Option.some.injEq] at h
    rw [← h,Ow,sU hs hvs,List.zipIdx_cons,Ow,hs.eval x v hv,hik]
   ·
    cases h
def pq (vs:List Value):List Value:=vs.flatMap fun v=>v.cells.toList
def wu (sz:Nat):List Value→Bool
 | []=>true
 |v::r=>Nat.beq v.cells.size sz && wu sz r
theorem nX {sz:Nat}: ∀ {vs:List Value},wu sz vs=true→ ∀ v∈vs,v.cells.size=sz
 | [],_,v,hv=>by cases hv
 |u::r,h,v,hv=>by
  simp only [wu,NK] at h
  rcases NS.1 hv with rfl|hv
  ·
   exact Ou h.1
  ·
   exact nX h.2 v hv
theorem rJ {sz:Nat}: ∀ {vs:List Value},(∀ v∈vs,v.cells.size=sz)→(pq vs).length=vs.length*sz
 | [],_=>by simp [pq]
 |v::r,h=>by
  have ih:=rJ (vs:=r) (fun u hu=>h u (NQ _ hu))
  have hv:=h v NI
  simp only [pq,NU,ND,Array.length_toList,N8,P6,Qx] at ih ⊢
  omega
theorem vu {d t e m sz by_:Nat} {ps:List (Nat × Operand)} {vs xs:List Value} {ops:Array Oper} [ht:Und P t (.slice e)] [he:Elem P e sz by_] (hn:Nat.blt d n.sz=true) (hps:evd s ps 0=some vs)
  (hl:vs.length=m) (hsz:wu sz vs=true) (hx:rX (pq vs)=some xs) (hm0:Nat.blt 0 m=true) (hsm:Nat.ble (m*sz) 16777216=true)
  (k: ∀ g,WL P n w0 ops rest Q ((d,.slice (some ⟨g,0,none⟩) m m)::s) (.own (some g) e sz m m xs::H)):WL P n w0 ops (⟨some d,.buildSlice t m ps.toArray,ty,p,af,none⟩::rest) Q s H:=by
 refine qA (B:=fun g=> .own (some g) e sz m m xs) (v:=fun g=> .slice (some ⟨g,0,none⟩) m m) hn (fun a w hs hm=> ?_) k
 obtain ⟨i,z,h1,h2,h3,h4,h5,h6⟩:=he.out
 have hm1:0<m:=by simpa using hm0
 have hsm1:m*sz≤16777216:=by simpa using hsm
 have hall:=nX hsz
 have hlen:xs.length=m*sz:=by rw [iP hx,rJ hall,hl]
 have hfill:=Great.fill_whole h6 vs ((Array.range (m*i.size)).map (z.cells[· % z.cells.size]!)) hall (by simp [hl,h2])
 rw [← sU hs hps] at hfill
 have hr:=run_buildSlice (P:=P) w t e m (ps.map fun x=>(x.1,a.eval x.2)).toArray _ i z ht.out h1 h4 (by rw [h2];omega) (by rw [h2];exact Nat.ne_of_gt (Nat.mul_pos hm1 h6)) (by rw [h2] at hfill ⊢;exact hfill)
 refine ⟨_,?_,World.grownBy_alloc w _ none,Blk.own_of (e:=e) (xs:=xs) (by rw [iP hx];exact heap_alloc_new w _) hlen rfl ?_,rfl⟩
 ·
  simp only [execOp,Pp]
  simp only [Sem.run_bind,hr,Result.andThen_ok,Sem.run_pure,pq]
 ·
  have:m≤m*sz:=Nat.le_mul_of_pos_right m h6
  simp only [maxLen];omega
theorem cR {d t e n' c m c' g2 o2 sz by_:Nat} {A:Option Nat} {x y:Operand} {xs news:List Value} {R:List Blk} {ops:Array Oper} [ht:Und P t (.slice e)] [he:Elem P e sz by_] (hn:Nat.blt d n.sz=true)
  (hx:ev s x=some (sl A n' c)) (hy:ev s y=some (.slice (some ⟨g2,o2,none⟩) m c')) (hsel:Sel (.own A e sz n' c xs) H R)
  (hnews: ∀ w,Mem w0 w H→Cells w g2 o2 news) (hl:news.length=m*sz) (h1: ∀ u∈news,u.oneCell' =true) (hby:(n' +m)*by_≤140737488355328) (h63:n' +m≤maxLen)
  (k: ∀ A' cap',(0<n' +m→ ∃ g,A' =some g)→WL P n w0 ops rest Q ((d,sl A' (n' +m) cap')::s) (.own A' e sz (n' +m) cap' (xs++news)::R)):
  WL P n w0 ops (⟨some d,.call { callee:= .builtin .append,args:= #[x,y],argTypes:= #[t,t] },ty,p,af,none⟩::rest) Q s H:=by
 intro a w hs hm
 have hm' :=hm.sel hsel
 obtain ⟨i,z,i1,i2,i3,i4,i5,i6⟩:=he.out
 have hb:=(hm'.on _ NI)
 have hown:w.ownsRow w0.heap.size e sz (sl A n' c) n' xs:=by
  obtain ⟨⟨b1,b2,b3,b4⟩,b5⟩:=hb
  refine ⟨b1,?_⟩
  cases A with
  |none=>obtain ⟨rfl,rfl⟩:=b4;exact .inl ⟨rfl,rfl⟩
  |some g=>
   obtain ⟨junk,j1,j2⟩:=b4
   refine .inr ⟨g,c,_,rfl,b5 g rfl,j2,b2,b3,by simpa using j1,?_⟩
   simp only [P7]
   rw [← b1,List.take_left]
 obtain ⟨v',w',hr,h2,h3,h4,h5⟩:=run_append_own_at (P:=P) w w0.heap.size t ty e i z sz by_ ht.out i1 i4 i2 i3 i5 i6 (sl A n' c) n' xs hown ⟨g2,o2,none⟩ m c' news hl
  (fun j u hu=>by rw [cH];exact hnews w hm j u hu) h1 h63 hby hm.below.size
 have hsh: ∃ A' cap',v' =sl A' (n' +m) cap' ∧(Blk.own A' e sz (n' +m) cap' (xs++news)).on w' ∧(0<n' +m→ ∃ g,A' =some g):=by
  obtain ⟨q1,q2⟩:=h2
  rcases q2 with ⟨rfl,q3⟩|⟨g,cap,cur,rfl,_,q4,q5,q6,q7,q8⟩
  ·
   refine ⟨none,0,by rw [q3];rfl,⟨q1,by omega,NY _,q3,rfl⟩,fun h=>by omega⟩
  ·
   refine ⟨some g,cap,rfl,⟨q1,q5,q6,cur.toList.drop ((n' +m)*sz),?_,?_⟩,fun _=>⟨g,rfl⟩⟩
   ·
    rw [← q8,OE];simpa using q7
   ·
    rw [← q8,OE];simpa using q4
 obtain ⟨A',cap',rfl,hon,hsome⟩:=hsh
 refine wpList_plain rfl fun K hK=> ?_
 unfold Oper.wp execOp
 simp only [resolve,invoke,builtin,Sem.run_bind,Sem.run_pure,Result.andThen_ok,Pp,Ow,Pe,hs.eval x _ hx,hs.eval y _ hy,hr,Oper.upon]
 have hkey: ∀ (B:Option Nat) (q r:Nat),(sl B q r).ownBlock=B:=fun B q r=>by cases B<;>rfl
 rw [hkey] at h3
 refine hK _ _ (k A' cap' hsome _ _ (hs.put (OH ▸ hn) _) (hm'.upd h3 hon fun j hj=> ?_))
 rw [hkey,hkey] at h5
 simp only [Blk.key] at hj ⊢
 rcases h5 with h5|h5
 ·
  left;rw [← h5];exact hj
 ·
  right;rw [h5] at hj;injection hj with hj;omega
theorem aP {c:Code} (e sz:Nat) (k:W P n w0 c Q s (.own none e sz 0 0 []::H)):W P n w0 c Q s H:=fun a w hs hm=>
 k a w hs (hm.new (b:= .own none e sz 0 0 []) ⟨rfl,rfl,rfl,NJ _,fun _ _ _=>rfl⟩ ⟨by simp,NJ _,NY _,rfl,rfl⟩ (fun k hk=>by cases hk))
theorem xo {ops:Array Oper} {H' :List Blk} (hH:MSub H' H) (h:WL P n w0 ops rest Q s H'):WL P n w0 ops rest Q s H:=
 fun a w hst hm=>h a w hst (hH.use hm)
theorem GQ {d t e lo hi m c sz:Nat} {A:Option Addr} {x:Operand} {xl xh:Option Operand} {ops:Array Oper} [ht:Und P t (.slice e)] [hz:Size P e sz] (hn:Nat.blt d n.sz=true) (hx:ev s x=some (.slice A m c))
  (hxl:match xl with|none=>lo=0|some q=> ∃ k,ev s q=some (.int k (lo:Nat))) (hxh:match xh with|none=>hi=m|some q=> ∃ k,ev s q=some (.int k (hi:Nat))) (h1:lo≤hi) (h2:hi≤c)
  (k: ∀ B,(B=if c=lo then A else A.map (·.add (lo*sz)))→WL P n w0 ops rest Q ((d,.slice B (hi - lo) (c - lo))::s) H):WL P n w0 ops (⟨some d,.slice t x xl xh none,ty,p,af,none⟩::rest) Q s H:=by
 refine sq rfl d rfl hn (fun a w hs hm=> ?_) (k _ rfl)
 obtain ⟨i,hi1,hi2⟩:=hz.out
 have e1:((lo:Nat):Int)≤((hi:Nat):Int):=by omega
 have e2:((hi:Nat):Int)≤((c:Nat):Int):=by omega
 have e3:((0:Nat):Int)≤((hi:Nat):Int):=by omega
 cases xl with
 |none=>
  cases xh with
  |none=>
   simp only at hxl hxh
   subst hxl hxh
   simp [execOp,hs.eval x _ hx,Instr.sliceAt,run_underlying ht.out,Instr.slice,Instr.sliceBounds,sizeOf,typeInfo,hi1]
  |some q=>
   simp only at hxl hxh
   subst hxl
   obtain ⟨kk,hq⟩:=hxh
   simp [execOp,hs.eval x _ hx,hs.eval q _ hq,Instr.sliceAt,run_underlying ht.out,Instr.slice,Instr.sliceBounds,Instr.sliceBound,asIntOf,sizeOf,typeInfo,hi1,h2]
 |some ql=>
  obtain ⟨kl,hql⟩:=hxl
  cases xh with
  |none=>
   simp only at hxh
   subst hxh
   simp [execOp,hs.eval x _ hx,hs.eval ql _ hql,Instr.sliceAt,run_underlying ht.out,Instr.slice,Instr.sliceBounds,Instr.sliceBound,asIntOf,sizeOf,typeInfo,hi1,hi2,h1]
  |some q=>
   obtain ⟨kk,hq⟩:=hxh
   simp [execOp,hs.eval x _ hx,hs.eval q _ hq,hs.eval ql _ hql,Instr.sliceAt,run_underlying ht.out,Instr.slice,Instr.sliceBounds,Instr.sliceBound,asIntOf,sizeOf,typeInfo,hi1,hi2,h1,h2]
end
end Go.SL
