/-
  Lemmas and walks, put together: Bt Pg Ha Hb S5 S6 Hc G2a G2 Lp.
-/
import Derived.Deep.RegionHeld3
import Derived.Shelf.SortM.Plain
import Derived.Shelf.SortM.SortNone
import Derived.Ground.SlgmProg
import Derived.Test.YthefeclkaaocnaaGreatDoorKb15
set_option linter.unusedSimpArgs false
set_option linter.unusedVariables false
set_option maxRecDepth 20000
namespace Go.SL
open Go Go.RowKit
abbrev vS (x:BitVec 64):Value:= .int .u64 (x.toNat:Int)
theorem wrap_set (x:BitVec 64):IntKind.u64.wrap (x.toNat:Int)=x.toNat:=by
 rw [IntKind.wrap_u64];have:=x.isLt;omega
theorem ofInt_set (x:BitVec 64):BitVec.ofInt 64 (x.toNat:Int)=x:=by
 rw [BitVec.ofInt_natCast,BitVec.ofNat_toNat,BitVec.setWidth_eq]
theorem eq_set (a b:BitVec 64):((a.toNat:Int)==b.toNat)=decide (a=b):=by
 by_cases h:a=b
 ·
  subst h;simp
 ·
  rw [decide_eq_false h,beq_eq_false_iff_ne];intro h2;exact h (BitVec.eq_of_toNat_eq (by omega))
section
variable {P:Program} {n:Fr} {w0:World} {Q:Post} {s:Slots} {H:List Blk} {l rest:List Oper} {ty:TypeId} {p:String} {af:Array Edge}
theorem v_and64 {x y:Operand} {a b:BitVec 64} {t t' :TypeId} (hx:ev s x=some (vS a)) (hy:ev s y=some (vS b)):
  VOp P w0 s H (.binOp .and t x y t') ty (vS (a &&& b)):=by
 have h:Go.bits .and .u64 (a.toNat:Int) b.toNat=((a &&& b).toNat:Int):=by
  show IntKind.u64.wrap ((BitVec.ofInt 64 (a.toNat:Int) &&& BitVec.ofInt 64 (b.toNat:Int)).toNat:Int)=_
  rw [ofInt_set,ofInt_set,wrap_set]
 unfold vS at hx hy ⊢
 rw [← h]
 clear h
 generalize (a.toNat:Int)=z at hx ⊢
 generalize (b.toNat:Int)=z2 at hy ⊢
 exact fun ρ w _ _ _ _ hρ _=>by simp [execOp,hρ x _ hx,hρ y _ hy,eqGuard,binOp,intBits_and]
theorem v_or64 {x y:Operand} {a b:BitVec 64} {t t' :TypeId} (hx:ev s x=some (vS a)) (hy:ev s y=some (vS b)):
  VOp P w0 s H (.binOp .or t x y t') ty (vS (a|||b)):=by
 have h:Go.bits .or .u64 (a.toNat:Int) b.toNat=((a|||b).toNat:Int):=by
  show IntKind.u64.wrap ((BitVec.ofInt 64 (a.toNat:Int)|||BitVec.ofInt 64 (b.toNat:Int)).toNat:Int)=_
  rw [ofInt_set,ofInt_set,wrap_set]
 unfold vS at hx hy ⊢
 rw [← h]
 clear h
 generalize (a.toNat:Int)=z at hx ⊢
 generalize (b.toNat:Int)=z2 at hy ⊢
 exact fun ρ w _ _ _ _ hρ _=>by simp [execOp,hρ x _ hx,hρ y _ hy,eqGuard,binOp,intBits_or]
theorem v_andNot64 {x y:Operand} {a b:BitVec 64} {t t' :TypeId} (hx:ev s x=some (vS a)) (hy:ev s y=some (vS b)):
  VOp P w0 s H (.binOp .andNot t x y t') ty (vS (a &&& ~~~b)):=by
 have h:Go.bits .andNot .u64 (a.toNat:Int) b.toNat=((a &&& ~~~b).toNat:Int):=by
  show IntKind.u64.wrap ((BitVec.ofInt 64 (a.toNat:Int) &&& ~~~BitVec.ofInt 64 (b.toNat:Int)).toNat:Int)=_
  rw [ofInt_set,ofInt_set,wrap_set]
 unfold vS at hx hy ⊢
 rw [← h]
 clear h
 generalize (a.toNat:Int)=z at hx ⊢
 generalize (b.toNat:Int)=z2 at hy ⊢
 exact fun ρ w _ _ _ _ hρ _=>by simp [execOp,hρ x _ hx,hρ y _ hy,eqGuard,binOp,intBits_andNot]
theorem v_shr64 {x y:Operand} {k' :IntKind} {a:BitVec 64} {m:Nat} {t t' :TypeId} (hx:ev s x=some (vS a)) (hy:ev s y=some (.int k' (m:Nat))) (hm:m≤64):
  VOp P w0 s H (.binOp .shr t x y t') ty (vS (a>>>m)):=by
 have h:=v_shr (P:=P) (w0:=w0) (H:=H) (ty:=ty) (t:=t) (t' :=t') hx hy (by simpa [IntKind.bits] using hm)
 have e:((a.toNat:Int) / 2 ^ m)=((a>>>m).toNat:Int):=by
  rw [BitVec.toNat_ushiftRight,Nat.shiftRight_eq_div_pow];norm_cast
 rwa [e] at h
theorem v_shl64 {x y:Operand} {k' :IntKind} {a:BitVec 64} {m:Nat} {t t' :TypeId} (hx:ev s x=some (vS a)) (hy:ev s y=some (.int k' (m:Nat))) (hm:m≤64):
  VOp P w0 s H (.binOp .shl t x y t') ty (vS (a<<<m)):=by
 have e:IntKind.u64.wrap ((a.toNat:Int)*2 ^ m)=((a<<<m).toNat:Int):=by
  rw [BitVec.toNat_shiftLeft,Nat.shiftLeft_eq,IntKind.wrap_u64]
  generalize a.toNat=u
  have h64:(2:Nat) ^ 64=18446744073709551616:=by decide
  rw [h64,Int.natCast_emod,Int.natCast_mul,Int.natCast_pow];rfl
 unfold vS at hx ⊢
 rw [← e]
 clear e
 generalize (a.toNat:Int)=z at hx ⊢
 have h0:(0:Int)≤(m:Int):=by omega
 have hb:min m IntKind.u64.bits=m:=Nat.min_eq_left hm
 exact fun ρ w _ _ _ _ hρ _=>by simp [execOp,hρ x _ hx,hρ y _ hy,eqGuard,binOp,shift_shl_any .u64 k' z m h0,hb]
theorem v_sub64 {x y:Operand} {a b:BitVec 64} {t t' :TypeId} (hx:ev s x=some (vS a)) (hy:ev s y=some (vS b)):
  VOp P w0 s H (.binOp .sub t x y t') ty (vS (a - b)):=by
 have e:IntKind.u64.wrap ((a.toNat:Int) - b.toNat)=((a - b).toNat:Int):=by
  rw [BitVec.toNat_sub,IntKind.wrap_u64]
  have h1:=a.isLt
  have h2:=b.isLt
  omega
 unfold vS at hx hy ⊢
 rw [← e]
 clear e
 generalize (a.toNat:Int)=z at hx ⊢
 generalize (b.toNat:Int)=z2 at hy ⊢
 exact fun ρ w _ _ _ _ hρ _=>by simp [execOp,hρ x _ hx,hρ y _ hy,eqGuard,binOp,Op.intArith]
theorem v_eql64 {x y:Operand} {a b:BitVec 64} {t t' :TypeId} (hx:ev s x=some (vS a)) (hy:ev s y=some (vS b)):
  VOp P w0 s H (.binOp .eql t x y t') ty (.bool (decide (a=b))):=fun ρ w _ _ _ _ hρ _=>by
 have e:=eq_set a b
 simp [execOp,hρ x _ hx,hρ y _ hy,eqGuard,binOp,Op.intCmp,e,vS]
theorem v_neq64 {x y:Operand} {a b:BitVec 64} {t t' :TypeId} (hx:ev s x=some (vS a)) (hy:ev s y=some (vS b)):
  VOp P w0 s H (.binOp .neq t x y t') ty (.bool (!decide (a=b))):=fun ρ w _ _ _ _ hρ _=>by
 have e:=eq_set a b
 have e2:((a.toNat:Int)=b.toNat)↔a=b:=⟨fun h=>BitVec.eq_of_toNat_eq (by omega),fun h=>by rw [h]⟩
 simp [execOp,hρ x _ hx,hρ y _ hy,eqGuard,binOp,Op.intCmp,vS,bne,BEq.beq,e2]
end
def allS (n:Nat):BitVec 64:=(1#64<<<n) - 1#64
def hasS (x:BitVec 64) (u:Int):Bool:=decide (0≤u) && decide (u<64) && x.getLsbD u.toNat
theorem shr_one (x:BitVec 64) (m:Nat):decide ((x>>>m) &&& 1#64=1#64)=x.getLsbD m:=by
 have h:(x>>>m) &&& 1#64=if x.getLsbD m then 1#64 else 0#64:=by
  apply BitVec.eq_of_getLsbD_eq
  intro i hi
  rw [BitVec.getLsbD_and,BitVec.getLsbD_ushiftRight]
  rcases i with _|i
  ·
   cases hx:x.getLsbD m<;>simp [hx]
  ·
   cases hx:x.getLsbD m<;>simp [BitVec.getLsbD_one]
 rw [h]
 cases x.getLsbD m<;>decide
def vInt (x:Int):Value:= .int .i64 x
theorem v_eqlI_to {P:Program} {w0:World} {s:Slots} {H:List Blk} {ty t t' :TypeId} {x y:Operand} {a b:Int} {c:Bool} (h:decide (a=b)=c) (hx:ev s x=some (vInt a)) (hy:ev s y=some (vInt b)):
  VOp P w0 s H (.binOp .eql t x y t') ty (.bool c):=fun ρ w _ _ _ _ hρ _=>by
 subst h
 have e:(a==b)=decide (a=b):=by rw [Bool.eq_iff_iff];simp
 simp [execOp,hρ x _ hx,hρ y _ hy,eqGuard,binOp,Op.intCmp,vInt,e]
theorem v_neqI_to {P:Program} {w0:World} {s:Slots} {H:List Blk} {ty t t' :TypeId} {x y:Operand} {a b:Int} {c:Bool} (h:decide (a=b)=c) (hx:ev s x=some (vInt a)) (hy:ev s y=some (vInt b)):
  VOp P w0 s H (.binOp .neq t x y t') ty (.bool (!c)):=fun ρ w _ _ _ _ hρ _=>by
 subst h
 simp [execOp,hρ x _ hx,hρ y _ hy,eqGuard,binOp,Op.intCmp,vInt,bne,BEq.beq]
end Go.SL
namespace Go.SL
open Go
structure Rl where
 rect:Rct
 read:BitVec 64
 write:BitVec 64
 own:BitVec 64
def encRl (r:Rl):List Value:= [.int .i64 r.rect.c1,.int .i64 r.rect.r1,.int .i64 r.rect.c2,.int .i64 r.rect.r2,vS r.read,vS r.write,vS r.own]
theorem encRl_len (r:Rl):(encRl r).length=7:=rfl
structure Gn where
 rect:Rct
 fns:Int
 to:BitVec 64
 by_:Int
 rev:Bool
def encGn (g:Gn):List Value:= [.int .i64 g.rect.c1,.int .i64 g.rect.r1,.int .i64 g.rect.c2,.int .i64 g.rect.r2,.int .u8 g.fns,vS g.to,.int .i64 g.by_,.bool g.rev]
theorem encGn_len (g:Gn):(encGn g).length=8:=rfl
def insI (x:Int):List Int→List Int
 | []=> [x]
 |y::l=>if x≤y then x::y::l else y::insI x l
def insortI (l:List Int):List Int:=l.foldr insI []
def sortI (l:List Int):List Int:=l.mergeSort fun x y=>decide (x≤y)
theorem insI_perm (x:Int): ∀ l:List Int,(insI x l).Perm (x::l)
 | []=> .refl _
 |y::l=>by
  rw [insI];split
  ·
   exact .refl _
  ·
   exact ((insI_perm x l).cons y).trans (.swap x y l)
theorem insI_sorted (x:Int): ∀ {l:List Int},l.Pairwise (· ≤ ·)→(insI x l).Pairwise (· ≤ ·)
 | [],_=>List.pairwise_singleton _ _
 |y::l,h=>by
  have h1:=List.pairwise_cons.1 h
  rw [insI];split
  ·
   rename_i hxy
   refine List.pairwise_cons.2 ⟨fun z hz=> ?_,h⟩
   rcases List.mem_cons.1 hz with rfl|hz
   ·
    exact hxy
   ·
    exact Int.le_trans hxy (h1.1 z hz)
  ·
   refine List.pairwise_cons.2 ⟨fun z hz=> ?_,insI_sorted x h1.2⟩
   rcases List.mem_cons.1 ((insI_perm x l).mem_iff.1 hz) with rfl|hz
   ·
    omega
   ·
    exact h1.1 z hz
theorem insortI_perm: ∀ l:List Int,(insortI l).Perm l
 | []=> .refl _
 |x::l=>(insI_perm x _).trans ((insortI_perm l).cons x)
theorem insortI_sorted: ∀ l:List Int,(insortI l).Pairwise (· ≤ ·)
 | []=> .nil
 |x::l=>insI_sorted x (insortI_sorted l)
theorem sortI_perm (l:List Int):(sortI l).Perm l:=List.mergeSort_perm _ _
theorem sortI_sorted (l:List Int):(sortI l).Pairwise (· ≤ ·):=by
 have h:=List.pairwise_mergeSort (le:=fun x y:Int=>decide (x≤y)) (fun a b c h1 h2=>by simp only [decide_eq_true_eq] at*;omega) (fun a b=>by simp only [Bool.or_eq_true,decide_eq_true_eq];omega) l
 exact h.imp fun h=>by simpa using h
theorem sorted_unique: ∀ {l m:List Int},l.Pairwise (· ≤ ·)→m.Pairwise (· ≤ ·)→l.Perm m→l=m
 | [],m,_,_,h=>(List.nil_perm.1 h).symm
 |a::l,[],_,_,h=>absurd h.length_eq (by simp)
 |a::l,b::m,h1,h2,h=>by
  have k1:=List.pairwise_cons.1 h1
  have k2:=List.pairwise_cons.1 h2
  have hab:a=b:=by
   have ha:a∈b::m:=h.mem_iff.1 List.mem_cons_self
   have hb:b∈a::l:=h.mem_iff.2 List.mem_cons_self
   rcases List.mem_cons.1 ha with e|ha
   ·
    exact e
   ·
    rcases List.mem_cons.1 hb with e|hb
    ·
     exact e.symm
    ·
     have:=k2.1 a ha
     have:=k1.1 b hb
     omega
  subst hab
  rw [sorted_unique k1.2 k2.2 ((List.perm_cons a).1 h)]
theorem sortI_eq (l:List Int):sortI l=insortI l:=sorted_unique (sortI_sorted l) (insortI_sorted l) ((sortI_perm l).trans (insortI_perm l).symm)
def cmpN:List Int→List Int
 | []=> []
 |a::l=>if l.head? =some a then cmpN l else a::cmpN l
theorem cmpN_snoc (x:Int): ∀ l:List Int,cmpN (l++ [x])=if l.getLast? =some x then cmpN l else cmpN l++ [x]
 | []=>by simp [cmpN]
 | [a]=>by
  by_cases h:x=a
  ·
   subst h;simp [cmpN]
  ·
   have h2: ¬ a=x:=fun e=>h e.symm
   simp [cmpN,h,h2]
 |a::b::l=>by
  have ih:=cmpN_snoc x (b::l)
  have h0: ∀ l,cmpN (a::l)=if l.head? =some a then cmpN l else a::cmpN l:=fun _=>rfl
  have hh:(b::l++ [x]).head? =(b::l).head? :=rfl
  rw [List.getLast?_cons_cons,List.cons_append,h0,h0,hh,ih]
  by_cases h1:(b::l).head? =some a
  ·
   simp only [h1,if_true]
  ·
   simp only [h1,if_false];split<;>rfl
theorem cmpN_step {L:List Int} {j:Nat} (h:j<L.length) (h0:0<j):cmpN (L.take (j+1))=if L[j]=L[j - 1] then cmpN (L.take j) else cmpN (L.take j)++ [L[j]]:=by
 have h1:L.take (j+1)=L.take j++ [L[j]]:=by rw [List.take_succ_eq_append_getElem h]
 have h2:(L.take j).getLast? =some L[j - 1]:=by
  rw [List.getLast?_eq_getElem?,List.length_take,Nat.min_eq_left (by omega),List.getElem?_take_of_lt (by omega),List.getElem?_eq_getElem (by omega)]
 rw [h1,cmpN_snoc,h2]
 simp only [Option.some.injEq,eq_comm]
theorem cmpN_one {L:List Int} (h:L.length≤1):cmpN L=L:=by
 match L,h with
 | [],_=>rfl
 | [a],_=>rfl
theorem mem_cmpN {x:Int}: ∀ {l:List Int},x∈cmpN l↔x∈l
 | []=>Iff.rfl
 |a::l=>by
  rw [cmpN]
  split
  ·
   rename_i h
   rw [mem_cmpN (l:=l),List.mem_cons]
   exact ⟨.inr,fun h2=>h2.elim (fun e=>by subst e;exact List.mem_of_mem_head? h) id⟩
  ·
   rw [List.mem_cons,List.mem_cons,mem_cmpN (l:=l)]
theorem cmpN_len: ∀ l:List Int,(cmpN l).length≤l.length
 | []=>Nat.le_refl _
 |a::l=>by
  have:=cmpN_len l
  rw [cmpN]
  split<;>simp only [List.length_cons]<;>omega
theorem cmpN_sorted: ∀ {l:List Int},l.Pairwise (· ≤ ·)→(cmpN l).Pairwise (· < ·)
 | [],_=> .nil
 |a::l,h=>by
  have h1:=List.pairwise_cons.1 h
  have ih:=cmpN_sorted h1.2
  rw [cmpN]
  split
  ·
   exact ih
  ·
   rename_i hh
   refine List.pairwise_cons.2 ⟨fun y hy=> ?_,ih⟩
   have hyl:=mem_cmpN.1 hy
   have h2:=h1.1 y hyl
   by_cases e:a=y
   ·
    subst e
    cases l with
    |nil=>cases hyl
    |cons b l=>
     have h3:=h1.1 b List.mem_cons_self
     have h4:=List.pairwise_cons.1 h1.2
     rcases List.mem_cons.1 hyl with e|hm
     ·
      subst e;exact absurd rfl hh
     ·
      have h5:=h4.1 a hm
      have h6:b=a:=by omega
      subst h6;exact absurd rfl hh
   ·
    omega
def pairsI:List Int→Int→List (Int × Int)
 | [],_=> []
 | [x],h=> [(x,h)]
 |x::y::l,h=>(x,y - 1)::pairsI (y::l) h
theorem pairsI_snoc (x h:Int): ∀ l:List Int,pairsI (l++ [x]) h=pairsI l (x - 1)++ [(x,h)]
 | []=>rfl
 | [a]=>rfl
 |a::b::l=>by
  have ih:=pairsI_snoc x h (b::l)
  show (a,b - 1)::pairsI (b::l++ [x]) h=_
  rw [ih];rfl
theorem pairsI_len (h:Int): ∀ l:List Int,(pairsI l h).length=l.length
 | []=>rfl
 | [a]=>rfl
 |a::b::l=>by
  have ih:=pairsI_len h (b::l)
  show (pairsI (b::l) h).length+1=_
  rw [ih];rfl
theorem pairsI_last (l:List Int) (h h' :Int) (hl:l≠ []): ∃ f a,pairsI l h=f++ [(a,h)]∧pairsI l h' =f++ [(a,h')]:=by
 have e:=List.dropLast_concat_getLast hl
 refine ⟨pairsI l.dropLast (l.getLast hl - 1),l.getLast hl,?_,?_⟩
 ·
  conv=>lhs;rw [← e]
  rw [pairsI_snoc]
 ·
  conv=>lhs;rw [← e]
  rw [pairsI_snoc]
def beginsI (lo:Int) (ps:List (Int × Int)):List Int:=lo::ps.flatMap fun p=> [p.1,p.2+1]
def cutsI (lo hi:Int) (ps:List (Int × Int)):List Int:=(cmpN (sortI (beginsI lo ps))).filter fun x=>decide (lo≤x) && decide (x≤hi)
def bandsF (lo hi:Int) (ps:List (Int × Int)):List (Int × Int):=pairsI (cutsI lo hi ps) hi
theorem mem_cutsI {lo hi x:Int} {ps:List (Int × Int)}:x∈cutsI lo hi ps↔(x=lo∨ ∃ p∈ps,x=p.1∨x=p.2+1)∧lo≤x∧x≤hi:=by
 rw [cutsI,List.mem_filter,mem_cmpN,(sortI_perm _).mem_iff,beginsI,List.mem_cons,List.mem_flatMap]
 simp
theorem cutsI_sorted (lo hi:Int) (ps:List (Int × Int)):(cutsI lo hi ps).Pairwise (· < ·):=(cmpN_sorted (sortI_sorted _)).filter _
theorem beginsI_len (lo:Int) (ps:List (Int × Int)):(beginsI lo ps).length=1+2*ps.length:=by
 unfold beginsI
 induction ps with
 |nil=>rfl
 |cons p ps ih=>simp only [List.flatMap_cons,List.length_cons,List.length_append,List.length_nil] at ih ⊢;omega
theorem bandsF_len (lo hi:Int) (ps:List (Int × Int)):(bandsF lo hi ps).length≤1+2*ps.length:=by
 rw [bandsF,pairsI_len,cutsI]
 refine Nat.le_trans (List.length_filter_le _ _) (Nat.le_trans (cmpN_len _) ?_)
 rw [(sortI_perm _).length_eq,beginsI_len];exact Nat.le_refl _
theorem pairs_mem: ∀ {l:List Int} {h:Int},l.Pairwise (· < ·)→(∀ x∈l,x≤h)→ ∀ {p:Int × Int},p∈pairsI l h→p.1∈l∧p.1≤p.2∧p.2≤h∧ ∀ x∈l,¬ (p.1<x∧x≤p.2)
 | [],h,_,_,p,hp=>by cases hp
 | [a],h,_,hx,p,hp=>by
  rw [List.mem_singleton.1 hp]
  have:=hx a (by simp)
  exact ⟨by simp,this,Int.le_refl _,fun x hx=>by rw [List.mem_singleton.1 hx];simp only;omega⟩
 |a::b::l,h,hs,hx,p,hp=>by
  have h1:=List.pairwise_cons.1 hs
  have hab:=h1.1 b List.mem_cons_self
  rcases List.mem_cons.1 hp with rfl|hp
  ·
   refine ⟨List.mem_cons_self,by simp only;omega,by have:=hx b (by simp);simp only;omega,fun x hm=> ?_⟩
   simp only
   rcases List.mem_cons.1 hm with rfl|hm
   ·
    omega
   ·
    rcases List.mem_cons.1 hm with rfl|hm
    ·
     omega
    ·
     have:=(List.pairwise_cons.1 h1.2).1 x hm;omega
  ·
   obtain ⟨k1,k2,k3,k4⟩:=pairs_mem h1.2 (fun x hm=>hx x (List.mem_cons_of_mem _ hm)) hp
   refine ⟨List.mem_cons_of_mem _ k1,k2,k3,fun x hm=> ?_⟩
   rcases List.mem_cons.1 hm with rfl|hm
   ·
    have:=h1.1 p.1 k1;omega
   ·
    exact k4 x hm
theorem pairs_sorted: ∀ {l:List Int} {h:Int},l.Pairwise (· < ·)→(∀ x∈l,x≤h)→(pairsI l h).Pairwise fun p q=>p.2<q.1
 | [],_,_,_=> .nil
 | [a],_,_,_=>List.pairwise_singleton _ _
 |a::b::l,h,hs,hx=>by
  have h1:=List.pairwise_cons.1 hs
  refine List.pairwise_cons.2 ⟨fun q hq=> ?_,pairs_sorted h1.2 fun x hm=>hx x (List.mem_cons_of_mem _ hm)⟩
  have hq1:=(pairs_mem h1.2 (fun x hm=>hx x (List.mem_cons_of_mem _ hm)) hq).1
  simp only
  rcases List.mem_cons.1 hq1 with e|hm
  ·
   omega
  ·
   have:=(List.pairwise_cons.1 h1.2).1 _ hm;omega
theorem bands_mem {lo hi:Int} {ps:List (Int × Int)} {p:Int × Int} (hp:p∈bandsF lo hi ps):lo≤p.1∧p.1≤p.2∧p.2≤hi:=by
 obtain ⟨h1,h2,h3,_⟩:=pairs_mem (cutsI_sorted lo hi ps) (fun x hx=>(mem_cutsI.1 hx).2.2) hp
 exact ⟨(mem_cutsI.1 h1).2.1,h2,h3⟩
theorem bands_sorted (lo hi:Int) (ps:List (Int × Int)):(bandsF lo hi ps).Pairwise fun p q=>p.2<q.1:=pairs_sorted (cutsI_sorted lo hi ps) fun x hx=>(mem_cutsI.1 hx).2.2
structure Pz where
 rect:Rct
 a:Nat
 b:Nat
def encPz (p:Pz):List Value:= [.int .i64 p.rect.c1,.int .i64 p.rect.r1,.int .i64 p.rect.c2,.int .i64 p.rect.r2,.int .i64 (p.a:Int),.int .i64 (p.b:Int)]
theorem encPz_len (p:Pz):(encPz p).length=6:=rfl
def insideR (a b:Rct):Bool:=(meetR a b).2 && decide ((meetR a b).1=a)
def whichN (r:Rct) (L:List Rl):Nat→Nat
 |0=>0
 |n+1=>if insideR r ((L[n]?.map (·.rect)).getD zeroR)=true then n else whichN r L n
def whichF (r:Rct) (L:List Rl):Nat:=whichN r L L.length
theorem whichN_lt (r:Rct) (L:List Rl): ∀ n,whichN r L n≤n - 1
 |0=>Nat.le_refl _
 |n+1=>by
  rw [whichN];split
  ·
   exact Nat.le_refl _
  ·
   have:=whichN_lt r L n;omega
def colsOf (r:Rct) (L:List Rl):List (Int × Int):=L.flatMap fun x=>if (meetR x.rect r).2=true then [((meetR x.rect r).1.c1,(meetR x.rect r).1.c2)] else []
def rowsOf (r:Rct) (L:List Rl):List (Int × Int):=L.flatMap fun x=>if (meetR x.rect r).2=true then [((meetR x.rect r).1.r1,(meetR x.rect r).1.r2)] else []
def partOf (A B:List Rl) (y x:Int × Int):Pz:=⟨⟨x.1,y.1,x.2,y.2⟩,whichF ⟨x.1,y.1,x.2,y.2⟩ A,whichF ⟨x.1,y.1,x.2,y.2⟩ B⟩
def growZ (l:List Pz) (p:Pz):List Pz:=match l.getLast? with
 |some q=>if q.a=p.a∧q.b=p.b then l.dropLast++ [⟨⟨q.rect.c1,q.rect.r1,p.rect.c2,q.rect.r2⟩,q.a,q.b⟩] else l++ [p]
 |none=> [p]
def rowZ (A B:List Rl) (y:Int × Int) (xs:List (Int × Int)):List Pz:=xs.foldl (fun l x=>growZ l (partOf A B y x)) []
theorem rowZ_snoc {A B:List Rl} {y:Int × Int} {xs:List (Int × Int)} {x:Int × Int}:rowZ A B y (xs++ [x])=growZ (rowZ A B y xs) (partOf A B y x):=by
 unfold rowZ;rw [List.foldl_append];rfl
def partsF (r:Rct) (A B:List Rl):List Pz:=(bandsF r.r1 r.r2 (rowsOf r A++rowsOf r B)).flatMap fun y=>rowZ A B y (bandsF r.c1 r.c2 (colsOf r A++colsOf r B))
def andS (l:List (BitVec 64)):BitVec 64:=l.foldl (· &&& ·) (BitVec.allOnes 64)
def ovBy (f:Rl→BitVec 64) (r:Rct) (L:List Rl):BitVec 64:=andS ((partsF r L []).map fun p=>(L[p.a]?.map f).getD 0#64)
theorem andS_snoc {l:List (BitVec 64)} {x:BitVec 64}:andS (l++ [x])=andS l &&& x:=by unfold andS;rw [List.foldl_append];rfl
end Go.SL
namespace Go.SL
open Go Go.Proofs
attribute [local irreducible] W WL WQ WG WA WX WLI WR WT WC WE VOp RW thn blk cutP scp retP retPP endB FnAt FnIn FnP ceP
def allU (n:Int):BitVec 64 × Int:=if n<0∨64<n then (0#64,3) else (allS n.toNat,0)
theorem All_at (n:Int) (w:World):Pure Tryz.prog 107 [.int .i64 n] w (.tuple #[vS (allU n).1,.int .i64 (allU n).2]):=by
 refine fn_at Tryz.func107 rfl Tryz.ntmps107 rfl ?_
 by_cases h:n<0∨64<n
 ·
  rw [allU,if_pos h]
  repeat' (first|refine sT ?_|refine sM fun _=> ?_|(refine sC ?_ ?_<;>intro hb<;>try omega)|fail)
  all_goals first|(exfalso;omega)|((refine rT2 ?_);rfl)|trace_state
 ·
  rw [allU,if_neg h]
  obtain ⟨m,rfl⟩: ∃ m:Nat,n=(m:Int):=⟨n.toNat,by omega⟩
  repeat' (first|((with_reducible apply wl_v);exact rfl;(with_reducible apply v_shl64 (a:=1#64) (m:=m));exact rfl;exact rfl;omega)|((with_reducible apply wl_v);exact rfl;(with_reducible apply v_sub64 (b:=1#64));exact rfl;exact rfl)|refine sT ?_|refine sM fun _=> ?_|(refine sC ?_ ?_<;>intro hb<;>try omega)|fail)
  all_goals first|(exfalso;omega)|((refine rT2 ?_);rfl)|trace_state
theorem Has18_at (x:BitVec 64) (u:Int) (w:World):Pure Tryz.prog 109 [vS x,.int .i64 u] w (.bool (hasS x u)):=by
 refine fn_at Tryz.func109 rfl Tryz.ntmps109 rfl ?_
 by_cases h:0≤u∧u<64
 ·
  obtain ⟨m,rfl⟩: ∃ m:Nat,u=(m:Int):=⟨u.toNat,by omega⟩
  have hs:=shr_one x m
  have he:hasS x (m:Int)=x.getLsbD m:=by simp [hasS];omega
  rw [he]
  repeat' (first|((with_reducible apply wl_v);exact rfl;(with_reducible apply v_shr64 (a:=x) (m:=m));exact rfl;exact rfl;omega)|((with_reducible apply wl_v);exact rfl;(with_reducible apply v_and64 (b:=1#64));exact rfl;exact rfl)|((with_reducible apply wl_v);exact rfl;(with_reducible apply v_eql64 (b:=1#64));exact rfl;exact rfl)|refine sT ?_|refine sM fun _=> ?_|(refine sC ?_ ?_<;>intro hb<;>try omega)|fail)
  all_goals first|(exfalso;omega)|((refine rT1 ?_);exact congrArg Value.bool hs)|trace_state
 ·
  have he:hasS x u=false:=by
   unfold hasS
   by_cases h1:0≤u
   ·
    have h2: ¬ u<64:=fun h2=>h ⟨h1,h2⟩
    simp [h2]
   ·
    simp [h1]
  rw [he]
  repeat' (first|refine sT ?_|refine sM fun _=> ?_|(refine sC ?_ ?_<;>intro hb<;>try omega)|fail)
  all_goals first|(exfalso;omega)|((refine rT1 ?_);rfl)|trace_state
theorem Meet18_at (L:List (BitVec 64)) (lv:Value) (w:World) (hl:Reads w lv L.length (L.map vS)):Pure Tryz.prog 83 [lv] w (vS (andS L)):=by
 obtain ⟨Al,cl,rfl,hl1,hl2,hl3⟩:=hl
 refine fn_at Tryz.func83 rfl Tryz.ntmps83 rfl ?_
 repeat' (first|refine sT ?_|refine sM fun _=> ?_|(refine sC ?_ ?_<;>intro hb<;>try omega)|fail)
 refine w_loopK [6,7] rfl (fun i:Nat=> [(3,vS (andS (L.take i))),(8,.int .i64 (i:Int))]) (fun _=> []) (fun i=>i≤L.length) (fun i=>L.length - i) 0 (Nat.zero_le _) sB mS ?_
 rintro i hi
 by_cases hlt:i<L.length
 ·
  obtain ⟨gl,ol,rfl,hrl⟩:=hl3 (by omega)
  have he1:=hrl.cellV i (v:=vS L[i]) (by rw [List.getElem?_map,List.getElem?_eq_getElem hlt];rfl)
  have hs:andS (L.take (i+1))=andS (L.take i) &&& L[i]:=by rw [List.take_succ_eq_append_getElem hlt,andS_snoc]
  repeat' (first|((with_reducible apply wl_v);exact rfl;(with_reducible apply v_and64);exact rfl;exact rfl)|refine sT ?_|refine sN ?_|refine sO ?_|refine sM fun _=> ?_|(refine sC ?_ ?_<;>intro hb<;>try omega)|fail)
  all_goals first
   |(exfalso;omega)
   |(refine ⟨i+1,hlt,by omega,?_,by exact sB,by exact mS⟩;rw [hs];exact sB)
   |trace_state
 ·
  have e:i=L.length:=by omega
  subst e
  repeat' (first|refine sT ?_|refine sM fun _=> ?_|(refine sC ?_ ?_<;>intro hb<;>try omega)|fail)
  all_goals first
   |(exfalso;omega)
   |((refine rT1 ?_);rw [List.take_length])
   |trace_state
theorem rectE_bad {r:Rct} (h:rectE r≠0):rectOk r=false:=by
 cases hq:rectOk r
 ·
  rfl
 ·
  exact absurd (by rw [rectE,hq];rfl) h
theorem rectE_good {r:Rct} (h: ¬ rectE r≠0): ¬ rectOk r=false:=fun hq=>h (by rw [rectE,hq];decide)
def sheetR:Rct:=⟨1,1,1024,1024⟩
def aclFrom (u:Int):List Rl→Int→Int × Int
 | [],_=>(0,0)
 |r::L,i=>if rectOk r.rect=false then (i,3) else if (r.read|||r.write|||r.own) &&& ~~~(allU u).1≠0#64 then (i,2) else aclFrom u L (i+1)
def aclE (u:Int) (L:List Rl):Int × Int:=
 if u<0∨64<u∨u=0∨L= [] then (0,2) else if 64<L.length then (64,5) else if (L.head?.map (·.rect))≠some sheetR then (0,2) else aclFrom u L 0
theorem sheet_at (w:World):Pure Tryz.prog 108 [] w (.agg (encR sheetR).toArray):=by
 refine fn_at Tryz.func108 rfl Tryz.ntmps108 rfl ?_
 repeat' (first|refine sT ?_|refine sM fun _=> ?_|(refine sC ?_ ?_<;>intro hb<;>try omega)|fail)
 (refine eRC ?_)
 rfl
theorem Rl.ro {w:World} {g o:Nat} {r:Rl} (h:Ro w g o (encRl r)):Ro w g o (encR r.rect)∧Ro w g (o+4) [vS r.read]∧Ro w g (o+5) [vS r.write]∧Ro w g (o+6) [vS r.own]∧Ro w g (o+4) [vS r.read,vS r.write,vS r.own]:=
 ⟨h.take (k:=4),(h.drop (k:=4)).take (k:=1),(h.drop (k:=5)).take (k:=1),h.drop (k:=6),h.drop (k:=4)⟩
set_option maxHeartbeats 4000000 in
theorem aclCheck_at (u:Int) (L:List Rl) (lv:Value) (w:World) (hl:Reads w lv L.length (L.flatMap encRl)):Pure Tryz.prog 51 [.int .i64 u,lv] w (.tuple #[.int .i64 (aclE u L).1,.int .i64 (aclE u L).2]):=by
 obtain ⟨Al,cl,rfl,hl1,hl2,hl3⟩:=hl
 refine fn_at Tryz.func51 rfl Tryz.ntmps51 rfl ?_
 have hA:=fun w=>All_at u w
 unfold aclE
 have hE:(allU u).2=if u<0∨64<u then 3 else 0:=by unfold allU;split<;>rfl
 by_cases h1:u<0∨64<u∨u=0∨L= []
 ·
  rw [if_pos h1]
  generalize allU u=ae at hA hE
  obtain ⟨sa,ee⟩:=ae
  dsimp only at hA hE
  subst hE
  have h1' : ¬ (u<0∨64<u)→u≠0→L.length=0:=fun h2 h3=>by
   rcases h1 with h|h|h|h
   ·
    exact absurd (.inl h) h2
   ·
    exact absurd (.inr h) h2
   ·
    exact absurd h h3
   ·
    rw [h];rfl
  clear h1
  by_cases h2:u<0∨64<u
  ·
   rw [if_pos h2] at hA
   repeat' (first|((with_reducible apply wl_callp);exact rfl;exact rfl;(intro w hm;exact hA w))|refine sT ?_|refine sM fun _=> ?_|(refine sC ?_ ?_<;>intro hb<;>try omega)|fail)
   all_goals first|(exfalso;omega)|((refine rT2 ?_);rfl)|trace_state
  ·
   rw [if_neg h2] at hA
   have h3:=h1' h2
   repeat' (first|((with_reducible apply wl_callp);exact rfl;exact rfl;(intro w hm;exact hA w))|refine sT ?_|refine sM fun _=> ?_|(refine sC ?_ ?_<;>intro hb<;>try omega)|fail)
   all_goals first|(exfalso;omega)|((refine rT2 ?_);rfl)|trace_state
 rw [if_neg h1]
 have hu: ¬ (u<0∨64<u)∧u≠0:=⟨fun h=>h1 (h.elim .inl fun h=> .inr (.inl h)),fun h=>h1 (.inr (.inr (.inl h)))⟩
 have hpos:0<L.length:=List.length_pos_iff.2 fun h=>h1 (.inr (.inr (.inr h)))
 rw [if_neg hu.1] at hE
 rw [hE] at hA
 obtain ⟨sa,has⟩: ∃ sa,sa=(allU u).1:=⟨_,rfl⟩
 rw [← has] at hA
 obtain ⟨gl,ol,rfl,hrl⟩:=hl3 hpos
 by_cases h64:64<L.length
 ·
  rw [if_pos h64]
  repeat' (first|((with_reducible apply wl_callp);exact rfl;exact rfl;(intro w hm;exact hA w))|refine sT ?_|refine sM fun _=> ?_|(refine sC ?_ ?_<;>intro hb<;>try omega)|fail)
  all_goals first|(exfalso;omega)|((refine rT2 ?_);rfl)|trace_state
 rw [if_neg h64]
 obtain ⟨h0a,_⟩:=Rl.ro (hrl.elem encRl_len 0 hpos)
 have hsh:=fun w=>sheet_at w
 have hhd:L.head?.map (·.rect)=some L[0].rect:=by rw [List.head?_eq_getElem?,List.getElem?_eq_getElem hpos];rfl
 rw [hhd]
 obtain ⟨c,hc⟩: ∃ c,decide (L[0].rect=sheetR)=c:=⟨_,rfl⟩
 have hcs:(some L[0].rect≠some sheetR)↔c=false:=by rw [← hc];simp
 generalize L[0].rect=r0 at h0a hc hcs ⊢
 simp only [hcs]
 clear hhd hcs
 cases c with
 |false=>
  repeat' (first|((with_reducible apply wl_callp);exact rfl;exact rfl;(intro w hm;exact hA w))|((with_reducible apply wq_callp (f:=108));exact rfl;exact rfl;(intro w' _;exact hsh w'))|((with_reducible apply wq_v);exact rfl;(with_reducible apply v_indexAddr (j:=0));exact rfl;exact rfl;exact hpos)|((with_reducible apply wq_v);exact rfl;(with_reducible apply v_loadw_ro (xs:=encR r0));exact rfl;exact h0a;exact rfl)|((with_reducible apply wq_v);exact rfl;(with_reducible apply v_neqR_to hc);exact rfl;exact rfl)|refine sT ?_|refine sQ ?_|refine sN ?_|refine sNQ ?_|refine sO ?_|refine sOQ ?_|refine sD ?_|refine sM fun _=> ?_|(refine sC ?_ ?_<;>intro hb<;>try omega)|(refine sCQ ?_ ?_<;>intro hb<;>try omega)|fail)
  all_goals first|(exfalso;omega)|((refine rT2 ?_);rfl)|trace_state
 |true=>
  repeat' (first|((with_reducible apply wl_callp);exact rfl;exact rfl;(intro w hm;exact hA w))|((with_reducible apply wq_callp (f:=108));exact rfl;exact rfl;(intro w' _;exact hsh w'))|((with_reducible apply wq_v);exact rfl;(with_reducible apply v_indexAddr (j:=0));exact rfl;exact rfl;exact hpos)|((with_reducible apply wq_v);exact rfl;(with_reducible apply v_loadw_ro (xs:=encR r0));exact rfl;exact h0a;exact rfl)|((with_reducible apply wq_v);exact rfl;(with_reducible apply v_neqR_to hc);exact rfl;exact rfl)|refine sT ?_|refine sQ ?_|refine sN ?_|refine sNQ ?_|refine sO ?_|refine sOQ ?_|refine sD ?_|refine sM fun _=> ?_|(refine sC ?_ ?_<;>intro hb<;>try omega)|(refine sCQ ?_ ?_<;>intro hb<;>try omega)|fail)
  all_goals first|(exfalso;omega)|skip
  refine w_loopK [1,6,37,38] rfl (fun i:Nat=> [(39,.int .i64 (i:Int))]) (fun _=> []) (fun i=>i≤L.length∧aclFrom u L 0=aclFrom u (L.drop i) (i:Int)) (fun i=>L.length - i) 0 ⟨Nat.zero_le _,rfl⟩ sB mS ?_
  rintro i ⟨hi,hrec⟩
  by_cases hlt:i<L.length
  ·
   have he1:=hrl.elem encRl_len i hlt
   rw [List.drop_eq_getElem_cons hlt,aclFrom,← has] at hrec
   generalize L[i]=r at hrec he1
   have hck:=fun w=>rect_at r.rect w
   repeat' (first|((with_reducible apply wl_callp);exact rfl;exact rfl;(intro w hm;exact hck w))|((with_reducible apply wl_v);exact rfl;(with_reducible apply v_or64);exact rfl;exact rfl)|((with_reducible apply wl_v);exact rfl;(with_reducible apply v_andNot64 (b:=sa));exact rfl;exact rfl)|((with_reducible apply wl_v);exact rfl;(with_reducible apply v_neq64 (b:=0#64));exact rfl;exact rfl)|refine sT ?_|refine sN ?_|refine sO ?_|refine sM fun _=> ?_|(refine sC ?_ ?_<;>intro hb<;>try omega)|fail)
   all_goals first
    |(exfalso;omega)
    |((refine rT2 ?_);rw [if_neg (by decide),hrec,if_pos (rectE_bad hb)];done)
    |((refine rT2 ?_);rw [if_neg (by decide),hrec,if_neg (rectE_good ‹_›),if_pos hb];done)
    |(refine ⟨i+1,⟨hlt,by rw [hrec,if_neg (rectE_good ‹_›),if_neg (fun h=>h hb)];rfl⟩,by omega,by exact sB,by exact sB,by exact mS⟩;done)
    |trace_state
  ·
   have e:i=L.length:=by omega
   subst e
   rw [List.drop_length,aclFrom] at hrec
   rw [if_neg (by decide),hrec]
   repeat' (first|refine sT ?_|refine sM fun _=> ?_|(refine sC ?_ ?_<;>intro hb<;>try omega)|fail)
   all_goals first|(exfalso;omega)|((refine rT2 ?_);rfl)|trace_state
theorem Inside_at (a b:Rct) (w:World):Pure Tryz.prog 166 [.agg (encR a).toArray,.agg (encR b).toArray] w (.bool (insideR a b)):=by
 refine fn_at Tryz.func166 rfl Tryz.ntmps166 rfl ?_
 have hM:=fun w=>Meet_at a b w
 unfold insideR
 obtain ⟨c,hc⟩: ∃ c,decide ((meetR a b).1=a)=c:=⟨_,rfl⟩
 rw [hc]
 generalize meetR a b=m at hM hc
 obtain ⟨mr,mb⟩:=m
 dsimp only at hM hc ⊢
 cases mb
 ·
  repeat' (first|((with_reducible apply wl_callp);exact rfl;exact rfl;(intro w hm;exact hM w))|refine sT ?_|refine sM fun _=> ?_|(refine sC ?_ ?_<;>intro hb<;>try omega)|fail)
  all_goals first|(exfalso;omega)|((refine rT1 ?_);rfl)|trace_state
 ·
  repeat' (first|((with_reducible apply wl_callp);exact rfl;exact rfl;(intro w hm;exact hM w))|((with_reducible apply wl_v);exact rfl;(with_reducible apply v_eqlR_to hc);exact rfl;exact rfl)|refine sT ?_|refine sM fun _=> ?_|(refine sC ?_ ?_<;>intro hb<;>try omega)|fail)
  all_goals first|(exfalso;omega)|((refine rT1 ?_);rfl)|trace_state
set_option maxHeartbeats 4000000 in
theorem which_at (r:Rct) (L:List Rl) (lv:Value) (w:World) (hl:Reads w lv L.length (L.flatMap encRl)) (hb:L.length≤1000000):Pure Tryz.prog 132 [.agg (encR r).toArray,lv] w (.int .i64 (whichF r L:Int)):=by
 obtain ⟨Al,cl,rfl,hl1,hl2,hl3⟩:=hl
 refine fn_at Tryz.func132 rfl Tryz.ntmps132 rfl ?_
 by_cases h0:L.length=0
 ·
  have e:whichF r L=0:=by rw [whichF,h0];rfl
  rw [e]
  repeat' (first|refine sT ?_|refine sS ?_|refine sJ ?_|refine sM fun _=> ?_|(refine sC ?_ ?_<;>intro hb<;>try omega)|fail)
  rename_i g2
  refine w_loopK [1,2] rfl (fun _:Unit=> [(5,.int .i64 (-1))]) (fun _=> [.box g2 33 (encR r)]) (fun _=>True) (fun _=>0) () trivial (by rw [h0];exact sB) mS ?_
  rintro _ _
  repeat' (first|refine sT ?_|refine sS ?_|refine sJ ?_|refine sM fun _=> ?_|(refine sC ?_ ?_<;>intro hb<;>try omega)|fail)
  all_goals first|(exfalso;omega)|((refine rT1 ?_);rfl)|trace_state
 repeat' (first|refine sT ?_|refine sS ?_|refine sN ?_|refine sM fun _=> ?_|(refine sC ?_ ?_<;>intro hb<;>try omega)|fail)
 rename_i g2
 obtain ⟨gl,ol,rfl,hrl⟩:=hl3 (by omega)
 refine w_loopK [1,2] rfl (fun i:Nat=> [(5,.int .i64 (i:Int))]) (fun _=> [.box g2 33 (encR r)]) (fun i=>i<L.length∧whichF r L=whichN r L (i+1)) (fun i=>i) (L.length - 1) ⟨by omega,by rw [Nat.sub_add_cancel (by omega)];rfl⟩ sB mS ?_
 rintro i ⟨hi,hrec⟩
 rw [whichN,List.getElem?_eq_getElem hi] at hrec
 simp only [Option.map_some,Option.getD_some] at hrec
 have hIn:=fun w=>Inside_at r L[i].rect w
 obtain ⟨h0a,_⟩:=Rl.ro (hrl.elem encRl_len i hi)
 obtain ⟨c,hcc⟩: ∃ c,insideR r L[i].rect=c:=⟨_,rfl⟩
 simp only [hcc] at hIn hrec
 clear hcc
 generalize L[i].rect=x at h0a hIn
 by_cases hi0:i=0
 ·
  subst hi0
  have e:whichF r L=0:=by rw [hrec];cases c<;>rfl
  rw [e]
  repeat' (first|refine sT ?_|refine sS ?_|refine sM fun _=> ?_|(refine sC ?_ ?_<;>intro hb<;>try omega)|fail)
  all_goals first|(exfalso;omega)|((refine rT1 ?_);rfl)|trace_state
 ·
  cases c
  ·
   rw [if_neg (by decide)] at hrec
   repeat' (first|((with_reducible apply wq_v);exact rfl;(with_reducible apply v_indexAddr (j:=i));exact rfl;exact rfl;exact hi)|((with_reducible apply wq_callp (f:=166));exact rfl;exact rfl;(intro w' _;exact hIn w'))|refine sT ?_|refine sS ?_|refine sQ ?_|refine sN ?_|refine sNQ ?_|refine sO ?_|refine sOQ ?_|refine sD ?_|refine sM fun _=> ?_|(refine sC ?_ ?_<;>intro hb<;>try omega)|(refine sCQ ?_ ?_<;>intro hb<;>try omega)|fail)
   all_goals first
    |(exfalso;omega)
    |(refine ⟨i - 1,⟨by omega,by rw [Nat.sub_add_cancel (by omega)];exact hrec⟩,by omega,by exact sB,by exact sB,by exact mS⟩;done)
    |trace_state
  ·
   rw [if_pos rfl] at hrec
   rw [hrec]
   repeat' (first|((with_reducible apply wq_v);exact rfl;(with_reducible apply v_indexAddr (j:=i));exact rfl;exact rfl;exact hi)|((with_reducible apply wq_callp (f:=166));exact rfl;exact rfl;(intro w' _;exact hIn w'))|refine sT ?_|refine sS ?_|refine sQ ?_|refine sN ?_|refine sNQ ?_|refine sO ?_|refine sOQ ?_|refine sD ?_|refine sM fun _=> ?_|(refine sC ?_ ?_<;>intro hb<;>try omega)|(refine sCQ ?_ ?_<;>intro hb<;>try omega)|fail)
   all_goals first|(exfalso;omega)|((refine rT1 ?_);rfl)|trace_state
def gnOk (u:Int) (g:Gn):Bool:=decide (1≤g.fns) && decide (g.fns≤31) && decide (g.to &&& ~~~(allU u).1=0#64) && hasS (allU u).1 g.by_
def gntFrom (u:Int):List Gn→Int→Int × Int
 | [],_=>(0,0)
 |g::L,i=>if rectOk g.rect=false then (i,3) else if gnOk u g=false then (i,2) else gntFrom u L (i+1)
def gntE (u:Int) (L:List Gn):Int × Int:=
 if u<0∨64<u∨u=0 then (0,2) else if 64<L.length then (64,5) else gntFrom u L 0
theorem Gn.ro {w:World} {g o:Nat} {r:Gn} (h:Ro w g o (encGn r)):Ro w g o (encR r.rect)∧Ro w g (o+4) [.int .u8 r.fns]∧Ro w g (o+5) [vS r.to]∧Ro w g (o+6) [.int .i64 r.by_]∧Ro w g (o+7) [.bool r.rev]:=
 ⟨h.take (k:=4),(h.drop (k:=4)).take (k:=1),(h.drop (k:=5)).take (k:=1),(h.drop (k:=6)).take (k:=1),h.drop (k:=7)⟩
set_option maxHeartbeats 4000000 in
theorem gntCheck_at (u:Int) (L:List Gn) (lv:Value) (w:World) (hl:Reads w lv L.length (L.flatMap encGn)):Pure Tryz.prog 52 [.int .i64 u,lv] w (.tuple #[.int .i64 (gntE u L).1,.int .i64 (gntE u L).2]):=by
 obtain ⟨Al,cl,rfl,hl1,hl2,hl3⟩:=hl
 refine fn_at Tryz.func52 rfl Tryz.ntmps52 rfl ?_
 have hA:=fun w=>All_at u w
 unfold gntE
 have hE:(allU u).2=if u<0∨64<u then 3 else 0:=by unfold allU;split<;>rfl
 obtain ⟨sa,has⟩: ∃ sa,sa=(allU u).1:=⟨_,rfl⟩
 rw [← has,hE] at hA
 by_cases h1:u<0∨64<u∨u=0
 ·
  rw [if_pos h1]
  by_cases h2:u<0∨64<u
  ·
   rw [if_pos h2] at hA
   repeat' (first|((with_reducible apply wl_callp);exact rfl;exact rfl;(intro w hm;exact hA w))|refine sT ?_|refine sM fun _=> ?_|(refine sC ?_ ?_<;>intro hb<;>try omega)|fail)
   all_goals first|(exfalso;omega)|((refine rT2 ?_);rfl)|trace_state
  ·
   rw [if_neg h2] at hA
   repeat' (first|((with_reducible apply wl_callp);exact rfl;exact rfl;(intro w hm;exact hA w))|refine sT ?_|refine sM fun _=> ?_|(refine sC ?_ ?_<;>intro hb<;>try omega)|fail)
   all_goals first|(exfalso;omega)|((refine rT2 ?_);rfl)|trace_state
 rw [if_neg h1]
 rw [if_neg (by omega)] at hA
 by_cases h64:64<L.length
 ·
  rw [if_pos h64]
  repeat' (first|((with_reducible apply wl_callp);exact rfl;exact rfl;(intro w hm;exact hA w))|refine sT ?_|refine sM fun _=> ?_|(refine sC ?_ ?_<;>intro hb<;>try omega)|fail)
  all_goals first|(exfalso;omega)|((refine rT2 ?_);rfl)|trace_state
 rw [if_neg h64]
 repeat' (first|((with_reducible apply wl_callp);exact rfl;exact rfl;(intro w hm;exact hA w))|refine sT ?_|refine sM fun _=> ?_|(refine sC ?_ ?_<;>intro hb<;>try omega)|fail)
 all_goals first|(exfalso;omega)|skip
 refine w_loopK [1,6,23,24] rfl (fun i:Nat=> [(25,.int .i64 (i:Int))]) (fun _=> []) (fun i=>i≤L.length∧gntFrom u L 0=gntFrom u (L.drop i) (i:Int)) (fun i=>L.length - i) 0 ⟨Nat.zero_le _,rfl⟩ sB mS ?_
 rintro i ⟨hi,hrec⟩
 by_cases hlt:i<L.length
 ·
  obtain ⟨gl,ol,rfl,hrl⟩:=hl3 (by omega)
  have he1:=hrl.elem encGn_len i hlt
  rw [List.drop_eq_getElem_cons hlt,gntFrom,gnOk,← has] at hrec
  generalize L[i]=r at hrec he1
  have hck:=fun w=>rect_at r.rect w
  have hhs:=fun w=>Has18_at sa r.by_ w
  generalize hasS sa r.by_=hb at hhs hrec
  repeat' (first|((with_reducible apply wl_callp);exact rfl;exact rfl;(intro w hm;exact hck w))|((with_reducible apply wl_callp);exact rfl;exact rfl;(intro w hm;exact hhs w))|((with_reducible apply wl_v);exact rfl;(with_reducible apply v_andNot64 (b:=sa));exact rfl;exact rfl)|((with_reducible apply wl_v);exact rfl;(with_reducible apply v_neq64 (b:=0#64));exact rfl;exact rfl)|refine sT ?_|refine sN ?_|refine sO ?_|refine sM fun _=> ?_|(refine sC ?_ ?_<;>intro hb<;>try omega)|fail)
  all_goals first
   |(exfalso;omega)
   |((refine rT2 ?_);rw [hrec,if_pos (rectE_bad hb)];done)
   |((refine rT2 ?_);rw [hrec,if_neg (rectE_good ‹_›),if_pos (by first|(rw [decide_eq_false (show ¬ (1:Int)≤r.fns by omega)];rfl)|(rw [decide_eq_false (show ¬ r.fns≤(31:Int) by omega),Bool.and_false];rfl)|(rw [decide_eq_false hb,Bool.and_false];rfl)|(rw [hb,Bool.and_false]))];done)
   |(refine ⟨i+1,⟨hlt,by rw [hrec,if_neg (rectE_good ‹_›),if_neg (by simp_all)];rfl⟩,by omega,by exact sB,by exact sB,by exact mS⟩;done)
   |trace_state
 ·
  have e:i=L.length:=by omega
  subst e
  rw [List.drop_length,gntFrom] at hrec
  rw [hrec]
  repeat' (first|refine sT ?_|refine sM fun _=> ?_|(refine sC ?_ ?_<;>intro hb<;>try omega)|fail)
  all_goals first|(exfalso;omega)|((refine rT2 ?_);rfl)|trace_state
end Go.SL
namespace Go.Proofs
open Go Go.Shelf Go.RowKit Go.Lib Go.Sort Go.SL
def cmpI (a b:Int):Int:=if a<b then -1 else if b<a then 1 else 0
def orI (a b c d:Int):Int:=if a≠0 then a else if b≠0 then b else if c≠0 then c else d
def orderRc (a b:Rct):Int:=orI (cmpI a.r1 b.r1) (cmpI a.c1 b.c1) (cmpI a.r2 b.r2) (cmpI a.c2 b.c2)
end Go.Proofs
namespace Go.Proofs
open Go Go.Shelf Go.RowKit Go.Lib Go.Sort Go.SL
def Tryz.sortRc_ren:Go.Shelf.Ren:=⟨fun|6=>100|15=>138|14=>148|28=>177|29=>178|20=>183|21=>184|22=>185|23=>186|24=>187|25=>188|26=>189|27=>190|46=>227|47=>218|48=>219|49=>228|50=>229|57=>273|n=>n,fun|22=>110|24=>33|25=>188|3=>3|39=>75|0=>0|53=>265|55=>34|4=>4|46=>258|45=>257|50=>262|5=>5|9=>9|66=>303|70=>307|76=>351|77=>352|n=>n,fun|n=>n⟩
theorem Tryz.sortRc:Go.Proofs.SlLaysF0.n6 Tryz.prog Tryz.sortRc_ren:={
 mixed:=by kernel_rfl
 f6:=⟨Tryz.f100.name,by decide,Tryz.func100.trans (congrArg some (by kernel_rfl))⟩
 f14:=⟨Tryz.f148.name,by decide,Tryz.func148.trans (congrArg some (by kernel_rfl))⟩
 f15:=Tryz.func138.trans (congrArg some (by kernel_rfl))
 f20:=⟨Tryz.f183.name,by decide,Tryz.func183.trans (congrArg some (by kernel_rfl))⟩
 f21:=⟨Tryz.f184.name,by decide,Tryz.func184.trans (congrArg some (by kernel_rfl))⟩
 f22:=⟨Tryz.f185.name,by decide,Tryz.func185.trans (congrArg some (by kernel_rfl))⟩
 f23:=⟨Tryz.f186.name,by decide,Tryz.func186.trans (congrArg some (by kernel_rfl))⟩
 f24:=⟨Tryz.f187.name,by decide,Tryz.func187.trans (congrArg some (by kernel_rfl))⟩
 f25:=⟨Tryz.f188.name,by decide,Tryz.func188.trans (congrArg some (by kernel_rfl))⟩
 f26:=⟨Tryz.f189.name,by decide,Tryz.func189.trans (congrArg some (by kernel_rfl))⟩
 f27:=⟨Tryz.f190.name,by decide,Tryz.func190.trans (congrArg some (by kernel_rfl))⟩
 f28:=Tryz.func177.trans (congrArg some (by kernel_rfl))
 f29:=Tryz.func178.trans (congrArg some (by kernel_rfl))
 f46:=⟨Tryz.f227.name,by decide,Tryz.func227.trans (congrArg some (by kernel_rfl))⟩
 f47:=Tryz.func218.trans (congrArg some (by kernel_rfl))
 f48:=Tryz.func219.trans (congrArg some (by kernel_rfl))
 f49:=⟨Tryz.f228.name,by decide,Tryz.func228.trans (congrArg some (by kernel_rfl))⟩
 f50:=⟨Tryz.f229.name,by decide,Tryz.func229.trans (congrArg some (by kernel_rfl))⟩
 f57:=⟨Tryz.f273.name,by decide,Tryz.func273.trans (congrArg some (by kernel_rfl))⟩
 t0:=Tryz.underlying0
 a0:=Tryz.isAgg0
 z0:=Tryz.sizeOf0
 v0:=Tryz.zeroValue0
 t3:=Tryz.underlying3
 a3:=Tryz.isAgg3
 z3:=Tryz.sizeOf3
 v3:=Tryz.zeroValue3
 t4:=Tryz.underlying4
 a4:=Tryz.isAgg4
 z4:=Tryz.sizeOf4
 v4:=Tryz.zeroValue4
 t5:=Tryz.underlying5
 a5:=Tryz.isAgg5
 z5:=Tryz.sizeOf5
 v5:=Tryz.zeroValue5
 t9:=Tryz.underlying9
 a9:=Tryz.isAgg9
 z9:=Tryz.sizeOf9
 v9:=Tryz.zeroValue9
 t22:=Tryz.underlying110
 a22:=Tryz.isAgg110
 z22:=Tryz.sizeOf110
 v22:=Tryz.zeroValue110
 t25:=Tryz.underlying188
 a25:=Tryz.isAgg188
 z25:=Tryz.sizeOf188
 v25:=Tryz.zeroValue188
 t39:=Tryz.underlying75
 a39:=Tryz.isAgg75
 z39:=Tryz.sizeOf75
 v39:=Tryz.zeroValue75
 t45:=Tryz.underlying257
 a45:=Tryz.isAgg257
 z45:=Tryz.sizeOf257
 v45:=Tryz.zeroValue257
 t46:=Tryz.underlying258
 a46:=Tryz.isAgg258
 z46:=Tryz.sizeOf258
 v46:=Tryz.zeroValue258
 t50:=Tryz.underlying262
 a50:=Tryz.isAgg262
 z50:=Tryz.sizeOf262
 v50:=Tryz.zeroValue262
 t53:=Tryz.underlying265
 a53:=Tryz.isAgg265
 z53:=Tryz.sizeOf265
 v53:=Tryz.zeroValue265
 t55:=Tryz.underlying34
 a55:=Tryz.isAgg34
 z55:=Tryz.sizeOf34
 v55:=Tryz.zeroValue34
 t66:=Tryz.underlying303
 a66:=Tryz.isAgg303
 z66:=Tryz.sizeOf303
 v66:=Tryz.zeroValue303
 t70:=Tryz.underlying307
 a70:=Tryz.isAgg307
 z70:=Tryz.sizeOf307
 v70:=Tryz.zeroValue307
 t76:=Tryz.underlying351
 a76:=Tryz.isAgg351
 z76:=Tryz.sizeOf351
 v76:=Tryz.zeroValue351
 t77:=Tryz.underlying352
 a77:=Tryz.isAgg352
 z77:=Tryz.sizeOf352
 v77:=Tryz.zeroValue352 }
end Go.Proofs
namespace Go.SL
open Go Go.Proofs Go.Sort Go.Shelf
def sortRc (L:List Rct):List Rct:=L.mergeSort fun x y=> !(ltOf orderRc y x)
end Go.SL
namespace Go.Proofs
open Go Go.Shelf Go.RowKit Go.Lib Go.Sort Go.SL
def Tryz.sortIn_ren:Go.Shelf.Ren:=⟨fun|5=>164|8=>138|7=>212|19=>177|20=>178|10=>260|11=>261|12=>262|13=>263|14=>264|15=>265|16=>266|17=>267|18=>268|30=>303|31=>218|32=>219|33=>304|34=>305|35=>149|40=>326|n=>n,fun|23=>102|25=>3|3=>3|32=>75|22=>102|0=>0|44=>265|46=>34|4=>4|36=>258|35=>257|41=>262|5=>5|9=>9|53=>303|57=>307|63=>351|64=>352|n=>n,fun|n=>n⟩
theorem Tryz.sortIn:Go.Proofs.SlLaysM.n5 Tryz.prog Tryz.sortIn_ren:={
 mixed:=by kernel_rfl
 f5:=⟨Tryz.f164.name,by decide,Tryz.func164.trans (congrArg some (by kernel_rfl))⟩
 f7:=⟨Tryz.f212.name,by decide,Tryz.func212.trans (congrArg some (by kernel_rfl))⟩
 f8:=Tryz.func138.trans (congrArg some (by kernel_rfl))
 f10:=⟨Tryz.f260.name,by decide,Tryz.func260.trans (congrArg some (by kernel_rfl))⟩
 f11:=⟨Tryz.f261.name,by decide,Tryz.func261.trans (congrArg some (by kernel_rfl))⟩
 f12:=⟨Tryz.f262.name,by decide,Tryz.func262.trans (congrArg some (by kernel_rfl))⟩
 f13:=⟨Tryz.f263.name,by decide,Tryz.func263.trans (congrArg some (by kernel_rfl))⟩
 f14:=⟨Tryz.f264.name,by decide,Tryz.func264.trans (congrArg some (by kernel_rfl))⟩
 f15:=⟨Tryz.f265.name,by decide,Tryz.func265.trans (congrArg some (by kernel_rfl))⟩
 f16:=⟨Tryz.f266.name,by decide,Tryz.func266.trans (congrArg some (by kernel_rfl))⟩
 f17:=⟨Tryz.f267.name,by decide,Tryz.func267.trans (congrArg some (by kernel_rfl))⟩
 f18:=⟨Tryz.f268.name,by decide,Tryz.func268.trans (congrArg some (by kernel_rfl))⟩
 f19:=Tryz.func177.trans (congrArg some (by kernel_rfl))
 f20:=Tryz.func178.trans (congrArg some (by kernel_rfl))
 f30:=⟨Tryz.f303.name,by decide,Tryz.func303.trans (congrArg some (by kernel_rfl))⟩
 f31:=Tryz.func218.trans (congrArg some (by kernel_rfl))
 f32:=Tryz.func219.trans (congrArg some (by kernel_rfl))
 f33:=⟨Tryz.f304.name,by decide,Tryz.func304.trans (congrArg some (by kernel_rfl))⟩
 f34:=⟨Tryz.f305.name,by decide,Tryz.func305.trans (congrArg some (by kernel_rfl))⟩
 f35:=⟨Tryz.f149.name,by decide,Tryz.func149.trans (congrArg some (by kernel_rfl))⟩
 f40:=⟨Tryz.f326.name,by decide,Tryz.func326.trans (congrArg some (by kernel_rfl))⟩
 t0:=Tryz.underlying0
 a0:=Tryz.isAgg0
 z0:=Tryz.sizeOf0
 v0:=Tryz.zeroValue0
 t3:=Tryz.underlying3
 a3:=Tryz.isAgg3
 z3:=Tryz.sizeOf3
 v3:=Tryz.zeroValue3
 t4:=Tryz.underlying4
 a4:=Tryz.isAgg4
 z4:=Tryz.sizeOf4
 v4:=Tryz.zeroValue4
 t5:=Tryz.underlying5
 a5:=Tryz.isAgg5
 z5:=Tryz.sizeOf5
 v5:=Tryz.zeroValue5
 t9:=Tryz.underlying9
 a9:=Tryz.isAgg9
 z9:=Tryz.sizeOf9
 v9:=Tryz.zeroValue9
 t22:=Tryz.underlying102
 a22:=Tryz.isAgg102
 z22:=Tryz.sizeOf102
 v22:=Tryz.zeroValue102
 t23:=Tryz.underlying102
 a23:=Tryz.isAgg102
 z23:=Tryz.sizeOf102
 v23:=Tryz.zeroValue102
 t25:=Tryz.underlying3
 a25:=Tryz.isAgg3
 z25:=Tryz.sizeOf3
 v25:=Tryz.zeroValue3
 t32:=Tryz.underlying75
 a32:=Tryz.isAgg75
 z32:=Tryz.sizeOf75
 v32:=Tryz.zeroValue75
 t35:=Tryz.underlying257
 a35:=Tryz.isAgg257
 z35:=Tryz.sizeOf257
 v35:=Tryz.zeroValue257
 t36:=Tryz.underlying258
 a36:=Tryz.isAgg258
 z36:=Tryz.sizeOf258
 v36:=Tryz.zeroValue258
 t41:=Tryz.underlying262
 a41:=Tryz.isAgg262
 z41:=Tryz.sizeOf262
 v41:=Tryz.zeroValue262
 t44:=Tryz.underlying265
 a44:=Tryz.isAgg265
 z44:=Tryz.sizeOf265
 v44:=Tryz.zeroValue265
 t46:=Tryz.underlying34
 a46:=Tryz.isAgg34
 z46:=Tryz.sizeOf34
 v46:=Tryz.zeroValue34
 t53:=Tryz.underlying303
 a53:=Tryz.isAgg303
 z53:=Tryz.sizeOf303
 v53:=Tryz.zeroValue303
 t57:=Tryz.underlying307
 a57:=Tryz.isAgg307
 z57:=Tryz.sizeOf307
 v57:=Tryz.zeroValue307
 t63:=Tryz.underlying351
 a63:=Tryz.isAgg351
 z63:=Tryz.sizeOf351
 v63:=Tryz.zeroValue351
 t64:=Tryz.underlying352
 a64:=Tryz.isAgg352
 z64:=Tryz.sizeOf352
 v64:=Tryz.zeroValue352 }
end Go.Proofs
namespace Go.SL
open Go Go.Proofs Go.Sort Go.Shelf
theorem sort1_grown {α:Type} [Inhabited α] {enc:α→Value} (w:World) (g n:Nat) (d:Array α) (os:Array Obj):w.grownBy (grow (putRow enc (Sort.ahead w n) g 0 d) os) (some g):={
 os:=rfl
 tape:=rfl
 output:=rfl
 size:=by
  show w.heap.size≤((w.heap.modify g _)++os).size
  rw [Array.size_append,Array.size_modify]
  omega
 block k hk hne:=by
  show ((w.heap.modify g _)++os)[k]? =_
  rw [Array.getElem?_append_left (by rw [Array.size_modify];exact hk),Array.getElem?_modify,if_neg (fun e=>hne (by rw [e]))] }
theorem sort1_heap {α:Type} [Inhabited α] {enc:α→Value} (w:World) (g n:Nat) (d:Array α) (os:Array Obj) (c:Array Value) (T:TypeId) (fr:Nat × Nat) (h:w.heap[g]? =some (.cells c T fr)):
  (grow (putRow enc (Sort.ahead w n) g 0 d) os).heap[g]? =some (.cells (putCells enc 0 d c) T fr):=by
 have hlt:g<w.heap.size:=(Array.getElem?_eq_some_iff.1 h).1
 show ((w.heap.modify g _)++os)[g]? =_
 rw [Array.getElem?_append_left (by rw [Array.size_modify];exact hlt),Array.getElem?_modify,if_pos rfl,h]
 rfl
theorem put1_cells (L:List Int) (xs junk:List Value) (hl:xs.length=L.length):putCells vInt 0 L.toArray (xs++junk).toArray=(L.map vInt++junk).toArray:=by
 apply Array.ext_getElem?
 intro j
 simp only [putCells,Array.getElem?_mapIdx,List.getElem?_toArray,List.size_toArray,Nat.zero_le,true_and,Nat.zero_add,Nat.sub_zero]
 by_cases hj:j<L.length
 ·
  rw [List.getElem?_append_left (by omega),List.getElem?_append_left (by rw [List.length_map];omega),List.getElem?_map,List.getElem?_eq_getElem (by omega),List.getElem?_eq_getElem hj]
  simp [hj]
 ·
  rw [List.getElem?_append_right (by omega),List.getElem?_append_right (by rw [List.length_map];omega),hl,List.length_map]
  simp [hj]
set_option maxHeartbeats 1000000 in
theorem sortInts_in (L:List Int) (A:Option Nat) (cap:Nat) (hL:L.length≤1000000) (R:List Blk) (w0:World):
  FnIn Tryz.prog 164 [sl A L.length cap] w0 (.own A 3 1 L.length cap (L.map vInt)::R) fun v H=>v= .tuple #[]∧H= .own A 3 1 L.length cap ((sortI L).map vInt)::R:=by
 have hl:(sortI L).length=L.length:=(sortI_perm L).length_eq
 cases A with
 |none=>
  intro w hm
  obtain ⟨⟨h1,h2,h3,h4⟩,_⟩:=hm.on _ List.mem_cons_self
  obtain ⟨h5,h6⟩:=h4
  have hnil:L= []:=List.length_eq_zero_iff.1 h5
  subst hnil
  subst h6
  have he:sortI []= []:=List.length_eq_zero_iff.1 hl
  refine Calls.mono (AnyM.slices_Sort_int_none Tryz.sortIn none 0 w) ?_
  rintro e w' ⟨rfl,rfl⟩
  exact ⟨_,_,rfl,hm,rfl,by rw [he]⟩
 |some g=>
  intro w hm
  obtain ⟨⟨h1,h2,h3,junk,h4,h5⟩,hkk⟩:=hm.on _ List.mem_cons_self
  have hlt:g<w.heap.size:=(Array.getElem?_eq_some_iff.1 h5).1
  have hH:Holds vInt w g 0 L.toArray:=by
   intro j hj
   simp only [List.size_toArray] at hj
   have hc:(L.map vInt++junk).toArray[j]? =some (vInt L.toArray[j]!):=by
    rw [List.getElem?_toArray,List.getElem?_append_left (by rw [List.length_map];exact hj),List.getElem?_map,List.getElem?_eq_getElem hj]
    simp [hj]
   constructor
   ·
    simp only [World.cell?,Nat.zero_add,h5]
    exact hc
   ·
    simp [World.frozen?,h5]
  have hs:=AnyM.slices_Sort_int Tryz.sortIn g 0 cap L w hH hlt (by omega)
  refine hs.mono ?_
  rintro e w' ⟨rfl,n,os,rfl⟩
  refine ⟨_,_,rfl,hm.upd (sort1_grown _ _ _ _ _) (b' := .own (some g) 3 1 L.length cap ((sortI L).map vInt)) ?_ fun k hk=> .inl hk,rfl,rfl⟩
  refine ⟨by rw [List.length_map,hl,Nat.mul_one],h2,h3,junk,by rw [List.length_append,List.length_map,hl,← Nat.mul_one L.length,← h1,← List.length_append];exact h4,?_⟩
  have h6:=sort1_heap (enc:=vInt) w g n (sortI L).toArray os _ _ _ h5
  rw [put1_cells (sortI L) _ _ (by rw [hl,h1,Nat.mul_one])] at h6
  exact h6
end Go.SL
namespace Go.SL
open Go Go.Proofs
attribute [local irreducible] W WL WQ WG WA WX WLI WR WT WC VOp RW thn blk cutP scp retP retPP endB FnAt FnP ceP
structure Gp where
 gg:Nat
 gm:Nat
 E:List En
 clock:Nat
 gr:Nat
 A:Option Nat
 cap:Nat
 Q:List En
 R:List Blk
end Go.SL
