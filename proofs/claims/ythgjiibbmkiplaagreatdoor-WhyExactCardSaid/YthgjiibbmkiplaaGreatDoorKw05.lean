/-
  Lemmas and walks, put together: Sl21 Bt Sl20 Mp E1 Ho.
-/
import Derived.Laws.Bits64
import Derived.Shelf.SlSortCmp.NoneTotal
import Derived.Test.YthgjiibbmkiplaaGreatDoorKw03
import Derived.Test.YthgjiibbmkiplaaGreatDoorKw04
set_option linter.unusedSimpArgs false
set_option linter.unusedVariables false
set_option maxRecDepth 20000
namespace Go.SL
open Go Go.RowKit
def bat (a:ByteArray) (i:Nat):Int:=(aD a).getD i 0
def sub (a:ByteArray) (lo hi:Nat):ByteArray:=a.extract lo hi
theorem kX (a:ByteArray) (lo hi:Nat):aD (sub a lo hi)=((aD a).drop lo).take (hi - lo):=Df a lo hi
theorem ed (a:ByteArray) {lo hi:Nat} (h:hi≤a.size):(sub a lo hi).size=hi - lo:=by simp [sub];omega
theorem qp (a:ByteArray) (lo:Nat):aD (sub a lo a.size)=(aD a).drop lo:=by
 rw [kX,YE];simp [aH]
theorem De (a:ByteArray) (hi:Nat):aD (sub a 0 hi)=(aD a).take hi:=by
 rw [kX,Zl,YC]
theorem qA {a:ByteArray} {i:Nat} (h:i<a.size):(aD a)[i]? =some (bat a i):=by
 have hl:i<(aD a).length:=by rw [aH];exact h
 rw [bat,Zf,Xf hl]
 rfl
theorem US (a:ByteArray) (i:Nat):0≤bat a i∧bat a i<256:=by
 rw [bat,Zf]
 cases h:(aD a)[i]? with
 |none=>simp
 |some c=>exact qo a c (YW h)
theorem dD {a:ByteArray} {i:Nat} (h:i<a.size):(aD a).drop i=bat a i::(aD a).drop (i+1):=by
 have hl:i<(aD a).length:=by rw [aH];exact h
 rw [XC hl];have:=qA h;rw [Xf hl] at this;rw [Option.some.inj this]
theorem I6:aD aS= []:=rfl
theorem Pn {a:ByteArray}:aD a= []↔a=aS:=⟨fun h=>F7 (h.trans I6.symm),fun h=>by rw [h];rfl⟩
theorem vM (a b:ByteArray):aD (a++b)=aD a++aD b:=by simp [aD]
section
variable {P:Program} {n:Fr} {w0:World} {Q:bK} {s:az} {H:List Blk} {l rest:List Oper} {ty:TypeId} {p:String} {af:Array Edge}
theorem EP {x ix:Operand} {t j:Nat} {a:ByteArray} {k:IntKind} [ht:Und P t .string] (hx:ev s x=some (.string a)) (hi:ev s ix=some (.int k (j:Nat))) (hj:j<a.size):VOp P w0 s H (.index t x ix) ty (.int .u8 (bat a j)):=by
 have h:=EO (P:=P) (w0:=w0) (H:=H) (ty:=ty) (t:=t) hx hi hj;have e:((a[j]'hj).toNat:Int)=bat a j:=by
  have h1:=qA hj;have h2:=tC a j hj;rw [Xf (by rw [aH];exact hj),h2] at h1;exact Option.some.inj h1
 rw [← e];exact h
theorem Uc {x ix:Operand} {t:Nat} {a:ByteArray} {k:IntKind} [ht:Und P t .string] (hx:ev s x=some (.string a)) (hi:ev s ix=some (.int k 0)) (hj:0<a.size):VOp P w0 s H (.index t x ix) ty (.int .u8 (bat a 0)):=EP (j:=0) hx hi hj
theorem H7 {t lo hi:Nat} {a:ByteArray} {x q r:Operand} {k k' :IntKind} [ht:Und P t .string] (hx:ev s x=some (.string a)) (hr:ev s r=some (.int k' (lo:Nat))) (hq:ev s q=some (.int k (hi:Nat))) (h:lo≤hi∧hi≤a.size):
 VOp P w0 s H (.slice t x (some r) (some q) none) ty (.string (sub a lo hi)):=Ii hx hr hq h.1 h.2
theorem NG {t lo:Nat} {a:ByteArray} {x r:Operand} {k' :IntKind} [ht:Und P t .string] (hx:ev s x=some (.string a)) (hr:ev s r=some (.int k' (lo:Nat))) (h1:lo≤a.size):
 VOp P w0 s H (.slice t x (some r) none none) ty (.string (sub a lo a.size)):=xL hx hr h1
theorem QX {t:Nat} {a:ByteArray} {x r:Operand} {k' :IntKind} [ht:Und P t .string] (hx:ev s x=some (.string a)) (hr:ev s r=some (.int k' 1)) (h1:1≤a.size):
 VOp P w0 s H (.slice t x (some r) none none) ty (.string (sub a 1 a.size)):=xL (lo:=1) hx hr h1
theorem NH {t hi:Nat} {a:ByteArray} {x q:Operand} {k:IntKind} [ht:Und P t .string] (hx:ev s x=some (.string a)) (hq:ev s q=some (.int k (hi:Nat))) (h2:hi≤a.size):
 VOp P w0 s H (.slice t x none (some q) none) ty (.string (sub a 0 hi)):=AB hx hq h2
theorem AC {x y:Operand} {a b c:ByteArray} {t t' :TypeId} (hx:ev s x=some (.string a)) (hy:ev s y=some (.string b)) (e:a++b=c) (h:a.size+b.size≤1000000000):VOp P w0 s H (.binOp .add t x y t') ty (.string c):=e ▸ Uh hx hy (by simp only [maxLen];omega)
theorem Ib {x y:Operand} {k:IntKind} {a b:Int} {t t' :TypeId} (hx:ev s x=some (.int k a)) (hy:ev s y=some (.int k b)):VOp P w0 s H (.binOp .mul t x y t') ty (.int k (k.wrap (a*b))):=fun ρ w _ _ _ _ hρ _=>by
 simp [execOp,hρ x _ hx,hρ y _ hy,eqGuard,binOp,Op.intArith]
theorem cM {x:Operand} {k k' :IntKind} {a c:Int} {t t' :TypeId} {d:TypeDesc} [hs:Und P t d] [hd:Und P t' (.int k')] (hx:ev s x=some (.int k a)) (hw:k'.wrap a=c):VOp P w0 s H (.convert t t' x) ty (.int k' c):=hw ▸ NS hx
theorem ij {x:Operand} {A:Addr} (hx:ev s x=some (.pointer (some A))):VOp P w0 s H (.nilCheck x) ty (.pointer (some A)):=fun ρ w _ _ _ _ hρ _=>by
 simp [execOp,hρ x _ hx]
theorem IK {t e:TypeId} (h:P.underlying t=some (.pointer e)):P.underlying t=some (.pointer (P.pointee t)):=by
 rw [h];simp [Program.pointee,h]
theorem Q4 {x:Operand} {A:Option Addr} {t e t' :TypeId} [ht:Und P t (.pointer e)] (hx:ev s x=some (.pointer A)):VOp P w0 s H (.binOp .eql t x (.const (.pointer none)) t') ty (.bool A.isNone):=fun ρ w _ _ _ _ hρ _=>by
 have hc:=hρ (.const (.pointer none)) _ rfl;simp [execOp,hρ x _ hx,hc,eqGuard,run_eql_pointer_nil w t A (IK ht.out)]
theorem TV {ι:Type} {id:Nat} {ops:Array Oper} {d:Bool} {y z:Code} (sI:ι→az) (HI:ι→List Blk) (ok:ι→Prop) (h:W P n w0 (.seq (.region id ops d) y) (bA sI HI ok Q) s H) (k: ∀ i,ok i→W P n w0 z Q (sI i) (HI i)):
 W P n w0 (.seq (.region id ops d) y) (thn (W P n w0 z Q) Q) s H:=
 ui _ _ _ h k
theorem xF {ι:Type} {id:Nat} {ops:Array Oper} {d:Bool} {z:Code} (sI:ι→az) (HI:ι→List Blk) (ok:ι→Prop) (h:W P n w0 (.region id ops d) (bA sI HI ok Q) s H) (k: ∀ i,ok i→W P n w0 z Q (sI i) (HI i)):
 W P n w0 (.region id ops d) (thn (W P n w0 z Q) Q) s H:=
 ui _ _ _ h k
theorem QT {ι:Type} {sb:az} {id:Nat} {ops:Array Oper} {d:Bool} {y z:Code} (ts:List Nat) (hk:I4 s ts=some sb) (sI:ι→az) (HI:ι→List Blk) (ok:ι→Prop) (h:W P n w0 (.seq (.region id ops d) y) (bA (fun i=>sI i++sb) HI ok Q) s H) (k: ∀ i,ok i→W P n w0 z Q (sI i++sb) (HI i)):
 W P n w0 (.seq (.region id ops d) y) (thn (W P n w0 z Q) Q) s H:=
 ui _ _ _ h k
end
abbrev vS (x:BitVec 64):Value:= .int .u64 (x.toNat:Int)
theorem xk (x:BitVec 64):IntKind.u64.wrap (x.toNat:Int)=x.toNat:=by
 rw [IntKind.wrap_u64];have:=x.isLt;omega
theorem kC (x:BitVec 64):BitVec.ofInt 64 (x.toNat:Int)=x:=by
 rw [BitVec.ofInt_natCast,BitVec.ofNat_toNat,BitVec.setWidth_eq]
theorem PH (a b:BitVec 64):((a.toNat:Int)==b.toNat)=decide (a=b):=by
 by_cases h:a=b
 ·subst h;simp
 ·rw [decide_eq_false h,beq_eq_false_iff_ne];intro h2;exact h (ZX (by omega))
section
variable {P:Program} {n:Fr} {w0:World} {Q:bK} {s:az} {H:List Blk} {l rest:List Oper} {ty:TypeId} {p:String} {af:Array Edge}
theorem pY {x y:Operand} {a b:BitVec 64} {t t' :TypeId} (hx:ev s x=some (vS a)) (hy:ev s y=some (vS b)):
 VOp P w0 s H (.binOp .and t x y t') ty (vS (a &&& b)):=by
 have h:Go.bits .and .u64 (a.toNat:Int) b.toNat=((a &&& b).toNat:Int):=by
  show IntKind.u64.wrap ((BitVec.ofInt 64 (a.toNat:Int) &&& BitVec.ofInt 64 (b.toNat:Int)).toNat:Int)=_;rw [kC,kC,xk]
 unfold vS at hx hy ⊢;rw [← h];clear h;generalize (a.toNat:Int)=z at hx ⊢;generalize (b.toNat:Int)=z2 at hy ⊢;exact fun ρ w _ _ _ _ hρ _=>by simp [execOp,hρ x _ hx,hρ y _ hy,eqGuard,binOp,intBits_and]
theorem NT {x y:Operand} {k:IntKind} {a b:Int} {t t' :TypeId} (hx:ev s x=some (.int k a)) (hy:ev s y=some (.int k b)):
 VOp P w0 s H (.binOp .and t x y t') ty (.int k (Go.bits .and k a b)):=fun ρ w _ _ _ _ hρ _=>by
 simp [execOp,hρ x _ hx,hρ y _ hy,eqGuard,binOp,intBits_and]
theorem K9 {x y:Operand} {k:IntKind} {a b c:Int} {t t' :TypeId} (hx:ev s x=some (.int k a)) (hy:ev s y=some (.int k b)) (h:k.wrap (a - b)=c):
 VOp P w0 s H (.binOp .sub t x y t') ty (.int k c):=fun ρ w _ _ _ _ hρ _=>by
 subst h;simp [execOp,hρ x _ hx,hρ y _ hy,eqGuard,binOp,Op.intArith]
theorem H8 {x y:Operand} {a b:BitVec 64} {t t' :TypeId} (hx:ev s x=some (vS a)) (hy:ev s y=some (vS b)):
 VOp P w0 s H (.binOp .or t x y t') ty (vS (a|||b)):=by
 have h:Go.bits .or .u64 (a.toNat:Int) b.toNat=((a|||b).toNat:Int):=by
  show IntKind.u64.wrap ((BitVec.ofInt 64 (a.toNat:Int)|||BitVec.ofInt 64 (b.toNat:Int)).toNat:Int)=_;rw [kC,kC,xk]
 unfold vS at hx hy ⊢;rw [← h];clear h;generalize (a.toNat:Int)=z at hx ⊢;generalize (b.toNat:Int)=z2 at hy ⊢;exact fun ρ w _ _ _ _ hρ _=>by simp [execOp,hρ x _ hx,hρ y _ hy,eqGuard,binOp,intBits_or]
theorem il {x y:Operand} {a b:BitVec 64} {t t' :TypeId} (hx:ev s x=some (vS a)) (hy:ev s y=some (vS b)):
 VOp P w0 s H (.binOp .andNot t x y t') ty (vS (a &&& ~~~b)):=by
 have h:Go.bits .andNot .u64 (a.toNat:Int) b.toNat=((a &&& ~~~b).toNat:Int):=by
  show IntKind.u64.wrap ((BitVec.ofInt 64 (a.toNat:Int) &&& ~~~BitVec.ofInt 64 (b.toNat:Int)).toNat:Int)=_;rw [kC,kC,xk]
 unfold vS at hx hy ⊢;rw [← h];clear h;generalize (a.toNat:Int)=z at hx ⊢;generalize (b.toNat:Int)=z2 at hy ⊢;exact fun ρ w _ _ _ _ hρ _=>by simp [execOp,hρ x _ hx,hρ y _ hy,eqGuard,binOp,intBits_andNot]
theorem CF {x y:Operand} {k' :IntKind} {a:BitVec 64} {m:Nat} {t t' :TypeId} (hx:ev s x=some (vS a)) (hy:ev s y=some (.int k' (m:Nat))) (hm:m≤64):
 VOp P w0 s H (.binOp .shr t x y t') ty (vS (a>>>m)):=by
 have h:=EK (P:=P) (w0:=w0) (H:=H) (ty:=ty) (t:=t) (t' :=t') hx hy (by simpa [IntKind.bits] using hm);have e:((a.toNat:Int) / 2 ^ m)=((a>>>m).toNat:Int):=by
  rw [BitVec.toNat_ushiftRight,Nat.shiftRight_eq_div_pow];norm_cast
 rwa [e] at h
theorem QY {x y:Operand} {k' :IntKind} {a:BitVec 64} {m:Nat} {t t' :TypeId} (hx:ev s x=some (vS a)) (hy:ev s y=some (.int k' (m:Nat))) (hm:m≤64):
 VOp P w0 s H (.binOp .shl t x y t') ty (vS (a<<<m)):=by
 have e:IntKind.u64.wrap ((a.toNat:Int)*2 ^ m)=((a<<<m).toNat:Int):=by
  rw [BitVec.toNat_shiftLeft,Nat.shiftLeft_eq,IntKind.wrap_u64];generalize a.toNat=u;have h64:(2:Nat) ^ 64=18446744073709551616:=by decide
  rw [h64,Int.natCast_emod,aam,Int.natCast_pow];rfl
 unfold vS at hx ⊢;rw [← e];clear e;generalize (a.toNat:Int)=z at hx ⊢;have h0:(0:Int)≤(m:Int):=by omega
 have hb:min m IntKind.u64.bits=m:=YO hm;exact fun ρ w _ _ _ _ hρ _=>by simp [execOp,hρ x _ hx,hρ y _ hy,eqGuard,binOp,shift_shl_any .u64 k' z m h0,hb]
theorem QW {x y:Operand} {a b:BitVec 64} {t t' :TypeId} (hx:ev s x=some (vS a)) (hy:ev s y=some (vS b)):
 VOp P w0 s H (.binOp .sub t x y t') ty (vS (a - b)):=by
 have e:IntKind.u64.wrap ((a.toNat:Int) - b.toNat)=((a - b).toNat:Int):=by
  rw [BitVec.toNat_sub,IntKind.wrap_u64];have h1:=a.isLt;have h2:=b.isLt;omega
 unfold vS at hx hy ⊢;rw [← e];clear e;generalize (a.toNat:Int)=z at hx ⊢;generalize (b.toNat:Int)=z2 at hy ⊢;exact fun ρ w _ _ _ _ hρ _=>by simp [execOp,hρ x _ hx,hρ y _ hy,eqGuard,binOp,Op.intArith]
theorem CH {x y:Operand} {a b:BitVec 64} {t t' :TypeId} (hx:ev s x=some (vS a)) (hy:ev s y=some (vS b)):
 VOp P w0 s H (.binOp .eql t x y t') ty (.bool (decide (a=b))):=fun ρ w _ _ _ _ hρ _=>by
 have e:=PH a b;simp [execOp,hρ x _ hx,hρ y _ hy,eqGuard,binOp,Op.intCmp,e,vS]
theorem m4 {x y:Operand} {a b:BitVec 64} {t t' :TypeId} (hx:ev s x=some (vS a)) (hy:ev s y=some (vS b)):
 VOp P w0 s H (.binOp .neq t x y t') ty (.bool (!decide (a=b))):=fun ρ w _ _ _ _ hρ _=>by
 have e:=PH a b;have e2:((a.toNat:Int)=b.toNat)↔a=b:=⟨fun h=>ZX (by omega),fun h=>by rw [h]⟩;simp [execOp,hρ x _ hx,hρ y _ hy,eqGuard,binOp,Op.intCmp,vS,bne,BEq.beq,e2]
end
def UV (n:Nat):BitVec 64:=(1#64<<<n) - 1#64
def gD (x:BitVec 64) (u:Int):Bool:=decide (0≤u) && decide (u<64) && x.getLsbD u.toNat
theorem Kh (x:BitVec 64) (m:Nat):decide ((x>>>m) &&& 1#64=1#64)=x.getLsbD m:=by
 have h:(x>>>m) &&& 1#64=if x.getLsbD m then 1#64 else 0#64:=by
  apply aak;intro i hi;rw [aad,BitVec.getLsbD_ushiftRight];rcases i with _|i
  ·cases hx:x.getLsbD m<;>simp [hx]
  ·cases hx:x.getLsbD m<;>simp [BitVec.getLsbD_one]
 rw [h];cases x.getLsbD m<;>decide
def dZ (x:Int):Value:= .int .i64 x
theorem Ay {P:Program} {w0:World} {s:az} {H:List Blk} {ty t t' :TypeId} {x y:Operand} {a b:Int} {c:Bool} (h:decide (a=b)=c) (hx:ev s x=some (dZ a)) (hy:ev s y=some (dZ b)):
 VOp P w0 s H (.binOp .eql t x y t') ty (.bool c):=fun ρ w _ _ _ _ hρ _=>by
 subst h;have e:(a==b)=decide (a=b):=by rw [XY];simp
 simp [execOp,hρ x _ hx,hρ y _ hy,eqGuard,binOp,Op.intCmp,dZ,e]
theorem Af {P:Program} {w0:World} {s:az} {H:List Blk} {ty t t' :TypeId} {x y:Operand} {a b:Int} {c:Bool} (h:decide (a=b)=c) (hx:ev s x=some (dZ a)) (hy:ev s y=some (dZ b)):
 VOp P w0 s H (.binOp .neq t x y t') ty (.bool (!c)):=fun ρ w _ _ _ _ hρ _=>by
 subst h;simp [execOp,hρ x _ hx,hρ y _ hy,eqGuard,binOp,Op.intCmp,dZ,bne,BEq.beq]
def eO {κ:Type} (enc:κ→Value) (e:κ × Value × Nat):MapEntry:={ key:=enc e.1,val:=e.2.1,born:=e.2.2 }
def aK {κ:Type} (enc:κ→Value) (es:List (κ × Value × Nat)) (clock:Nat):Obj:= .map (es.map (eO enc)).toArray clock
structure MapOk {κ:Type} (es:List (κ × Value × Nat)) (clock:Nat):Prop where
 born:(es.map fun e=>e.2.2).Nodup
 old: ∀ e∈es,e.2.2<clock
 keys:(es.map fun e=>e.1).Nodup
def je (g clock:Nat) (seen:List Nat):Obj:= .mapIter (some g) clock seen.toArray clock
def bH {κ:Type} [DecidableEq κ] (k:κ):List (κ × Value × Nat)→Nat→Option (Nat × Value)
 | [],_=>none
 |e::es,i=>if k=e.1 then some (i,e.2.1) else bH k es (i+1)
class KLaw (P:Program) (K:TypeId) {κ:Type} [DecidableEq κ] (enc:κ→Value):Prop where
 check: ∀ e k w,(Instr.checkKey e 10000 K (enc k)).run P w= .ok () w
 find: ∀ k (es:List (κ × Value × Nat)) w,(Instr.findKey K (enc k) (es.map (eO enc))).run P w= .ok (bH k es 0) w
 stays: ∀ k w,(Instr.keyThatStays (enc k) (enc k)).run P w= .ok (enc k) w
def gK {κ:Type} [DecidableEq κ] (k:κ) (v:Value) (clock:Nat) (es:List (κ × Value × Nat)):List (κ × Value × Nat) × Nat:=
 match bH k es 0 with
 |some (i,_)=>(es.modify i fun e=>(k,v,e.2.2),clock)
 |none=>(es++ [(k,v,clock)],clock+1)
def I5 {κ:Type} [DecidableEq κ] (k:κ) (es:List (κ × Value × Nat)):List (κ × Value × Nat):=
 match bH k es 0 with
 |some (i,_)=>es.eraseIdx i
 |none=>es
theorem kD {κ:Type} [DecidableEq κ] {k:κ}: ∀ {es:List (κ × Value × Nat)} {i j:Nat} {v:Value},bH k es i=some (j,v)→ ∃ b,i≤j∧es[j - i]? =some (k,v,b)
 | [],i,j,v,h=>by cases h
 |e::es,i,j,v,h=>by
  simp only [bH] at h;split at h
  ·rename_i hk;obtain ⟨rfl,rfl⟩:=Prod.mk.inj (Option.some.inj h);exact ⟨e.2.2,Xy _,by simp [hk]⟩
  ·obtain ⟨b,h1,h2⟩:=kD h;refine ⟨b,by omega,?_⟩;rw [show j - i=(j - (i+1))+1 by omega,List.getElem?_cons_succ];exact h2
section
variable {P:Program} {n:Fr} {w0:World} {Q:bK} {s:az} {H:List Blk} {l rest:List Oper} {ty:TypeId} {p:String} {af:Array Edge} {κ:Type} [DecidableEq κ] {enc:κ→Value}
theorem cL {κ' :Type} {d t:Nat} {ops:Array Oper} (hn:Nat.blt d n.sz=true) (enc:κ' →Value)
 (k: ∀ g,WL P n w0 ops rest Q ((d,.map (some g))::s) (.obj g (aK enc [] 0)::H)):WL P n w0 ops (⟨some d,.makeMap t none,ty,p,af,none⟩::rest) Q s H:=by
 refine oq (B:=fun g=> .obj g (aK enc [] 0)) (v:=fun g=> .map (some g)) hn (fun st w hs hm=> ?_) k;exact ⟨w.alloc (.map #[] 0),rfl,World.grownBy_alloc w _ none,heap_alloc_new w _,rfl⟩
theorem Mem.obj_at {w:World} {g:Nat} {o:Obj} (hm:Mem w0 w H) (hi:In (.obj g o) H):w.heap[g]? =some o:=(hm.on _ hi.mem).1
theorem Fh {P:Program} {E:TypeId} {z:Value} [hz:Zero P E z] (w:World):(zeroValue E).run P w= .ok z w:=by
 obtain ⟨i,h1,h2⟩:=hz.out;simp [zeroValue,typeInfo,h1,h2]
theorem bV {t K E g clock:Nat} {x ix:Operand} {k:κ} {es:List (κ × Value × Nat)} {z u:Value} [ht:Und P t (.map K E)] [hk:KLaw P K enc] [hz:Zero P E z] (hx:ev s x=some (.map (some g))) (hi:ev s ix=some (enc k)) (hin:In (.obj g (aK enc es clock)) H)
 (hu:(match bH k es 0 with|some (_,v)=>v|none=>z)=u):VOp P w0 s H (.lookup t x ix false) ty u:=fun ρ w _ _ _ _ hρ hm=>by
 have hb:=hm.obj_at hin;have hf:=hk.find k es w;have hc:=hk.check (es.map (eO enc)).toArray.isEmpty k w;subst hu;simp only [aK] at hb;have hL:(Instr.lookup t (.map (some g)) (enc k) false).run P w= .ok (match bH k es 0 with|some (_,v)=>v|none=>z) w:=by
  simp only [Instr.lookup,Sem.run_bind,run_underlying ht.out,Result.andThen_ok,MapKept.run_getObj_map hb,hc,hf,Sem.run_pure]
  cases h:bH k es 0 with
  |none=>simp only [Sem.run_bind,Fh w,Result.andThen_ok,Sem.run_pure,X3,if_false]
  |some r=>rfl
 simp only [execOp,hρ x _ hx,hρ ix _ hi,Sem.run_bind,hL,Result.andThen_ok,Sem.run_pure]
theorem eG {t K E g clock:Nat} {x ix:Operand} {k:κ} {es:List (κ × Value × Nat)} {z u:Value} [ht:Und P t (.map K E)] [hk:KLaw P K enc] [hz:Zero P E z] (hx:ev s x=some (.map (some g))) (hi:ev s ix=some (enc k)) (hin:In (.obj g (aK enc es clock)) H)
 (hu:(match bH k es 0 with|some (_,v)=>Value.tuple #[v,.bool true]|none=> .tuple #[z,.bool false])=u):VOp P w0 s H (.lookup t x ix true) ty u:=fun ρ w _ _ _ _ hρ hm=>by
 have hb:=hm.obj_at hin;have hf:=hk.find k es w;have hc:=hk.check (es.map (eO enc)).toArray.isEmpty k w;subst hu;simp only [aK] at hb;have hL:(Instr.lookup t (.map (some g)) (enc k) true).run P w= .ok (match bH k es 0 with|some (_,v)=>Value.tuple #[v,.bool true]|none=> .tuple #[z,.bool false]) w:=by
  simp only [Instr.lookup,Sem.run_bind,run_underlying ht.out,Result.andThen_ok,MapKept.run_getObj_map hb,hc,hf,Sem.run_pure]
  cases h:bH k es 0 with
  |none=>simp only [Sem.run_bind,Fh w,Result.andThen_ok,Sem.run_pure,if_true]
  |some r=>rfl
 simp only [execOp,hρ x _ hx,hρ ix _ hi,Sem.run_bind,hL,Result.andThen_ok,Sem.run_pure]
theorem nz (w:World) (g:Nat) (o:Obj):w.grownBy { w with heap:=w.heap.setIfInBounds g o } (some g):=
 ⟨rfl,rfl,rfl,by simp,fun k _ hk=>by
  have hne:g≠k:=fun e=>hk (by rw [← e]);simp [Zj hne]⟩
theorem uw {w:World} {g:Nat} {o o' :Obj} (h:w.heap[g]? =some o):(w.heap.setIfInBounds g o')[g]? =some o' :=by
 have:g<w.heap.size:=(XK.1 h).1;simp [this]
theorem qK {t K E g clock:Nat} {k:κ} {v:Value} {es:List (κ × Value × Nat)} {w:World} [ht:Und P t (.map K E)] [hk:KLaw P K enc] (hb:w.heap[g]? =some (aK enc es clock)):
 (Instr.mapUpdate t (.map (some g)) (enc k) v).run P w= .ok () { w with heap:=w.heap.setIfInBounds g (aK enc (gK k v clock es).1 (gK k v clock es).2) }:=by
 have hf:=hk.find k es w;have hc:=hk.check false k w;simp only [aK] at hb
 cases h:bH k es 0 with
 |none=>
  rw [h] at hf;simp [Instr.mapUpdate,run_underlying ht.out,getObj,setObj,Sem.run,hb,hc,hf,Result.andThen,gK,h,aK,eO]
 |some r=>
  obtain ⟨i,u⟩:=r;rw [h] at hf;obtain ⟨b,_,hi⟩:=kD h;rw [YC] at hi;have hkey:(((es.map (eO enc)).toArray[i]?).map (·.key)).getD (enc k)=enc k:=by simp [hi,eO]
  have hst:=hk.stays k w;have he:((es.map (eO enc)).toArray.modify i fun e=>{ e with key:=enc k,val:=v })=((es.modify i fun e=>(k,v,e.2.2)).map (eO enc)).toArray:=by
   apply Array.ext';simp only [Array.toList_modify];apply Yw;intro j;simp only [ZK,XN];cases es[j]? <;>simp [eO]<;>split<;>rfl
  simp only [Instr.mapUpdate,Sem.run_bind,run_underlying ht.out,Result.andThen_ok,getObj,setObj,Sem.run,hb,hc,hf,hkey,hst,he];simp [gK,h,aK]
theorem cB {t K E g clock:Nat} {m x kx:Operand} {k:κ} {v:Value} {es:List (κ × Value × Nat)} {R:List Blk} {ops:Array Oper} [ht:Und P t (.map K E)] [hk:KLaw P K enc] (hm:ev s m=some (.map (some g))) (hkx:ev s kx=some (enc k)) (hx:ev s x=some v) (hsel:Sel (.obj g (aK enc es clock)) H R)
 (h:WL P n w0 ops rest Q s (.obj g (aK enc (gK k v clock es).1 (gK k v clock es).2)::R)):WL P n w0 ops (⟨none,.mapUpdate t m kx x,ty,p,af,none⟩::rest) Q s H:=by
 refine sj (fun a w hs hmm=> ?_) h;have hm' :=hmm.sel hsel;have hb:=(hm'.on _ Xb).1;refine ⟨_,?_,hm'.upd (nz w g _) (b' := .obj g _) (uw hb) fun k hk=> .inl hk⟩;simp [execOp,hs.eval m _ hm,hs.eval x _ hx,hs.eval kx _ hkx,qK (P:=P) (t:=t) (K:=K) (E:=E) (k:=k) (v:=v) hb]
theorem zT {t K E g clock:Nat} {m x kx:Operand} {k:κ} {v:Value} {es:List (κ × Value × Nat)} {R:List Blk} {ops:Array Oper} [ht:Und P t (.map K E)] [hk:KLaw P K enc] (hm:ev s m=some (.map (some g))) (hkx:ev s kx=some (enc k)) (hx:ev s x=some v) (hsel:Sel (.obj g (aK enc es clock)) H R)
 (h:WL P n w0 ops rest Q s (.obj g (aK enc (gK k v clock es).1 (gK k v clock es).2)::R)):WL P n w0 ops (⟨none,.insert t m kx x,ty,p,af,none⟩::rest) Q s H:=by
 refine sj (fun a w hs hmm=> ?_) h;have hm' :=hmm.sel hsel;have hb:=(hm'.on _ Xb).1;refine ⟨_,?_,hm'.upd (nz w g _) (b' := .obj g _) (uw hb) fun k hk=> .inl hk⟩;simp [execOp,hs.eval m _ hm,hs.eval x _ hx,hs.eval kx _ hkx,qK (P:=P) (t:=t) (K:=K) (E:=E) (k:=k) (v:=v) hb]
end
section
variable {P:Program} {n:Fr} {w0:World} {Q:bK} {s:az} {H:List Blk} {l rest:List Oper} {ty:TypeId} {p:String} {af:Array Edge} {κ:Type} [DecidableEq κ] {enc:κ→Value}
theorem nH {α β:Type} (f:α→β): ∀ (l:List α) (i:Nat),(l.eraseIdx i).map f=(l.map f).eraseIdx i
 | [],_=>rfl
 |_::_,0=>rfl
 |a::l,i+1=>by simp only [List.eraseIdx_cons_succ,XD,nH f l i]
theorem IC {t K E g clock:Nat} {ts:Array TypeId} {k:κ} {es:List (κ × Value × Nat)} {w:World} [ht:Und P t (.map K E)] [hk:KLaw P K enc] (hb:w.heap[g]? =some (aK enc es clock)) (h0:ts[0]? =some t):
 (Builtin.delete_ ts ty #[.map (some g),enc k]).run P w= .ok (.tuple #[]) { w with heap:=w.heap.setIfInBounds g (aK enc (I5 k es) clock) }:=by
 have hf:=hk.find k es w;have hc:=hk.check (es.map (eO enc)).toArray.isEmpty k w;simp only [aK] at hb;have e0:(#[Value.map (some g),enc k])[0]? =some (.map (some g)):=rfl;have e1:(#[Value.map (some g),enc k])[1]? =some (enc k):=rfl;simp only [Builtin.delete_,h0,e0,e1,Sem.run_bind,run_underlying ht.out,Result.andThen_ok,getObj,setObj,Sem.run,hb,Result.andThen,hc,hf]
 cases h:bH k es 0 with
 |none=>simp [I5,h,hb,aK,Sem.run,Sem.run_pure]
 |some r=>
  obtain ⟨i,u⟩:=r;have he:(es.map (eO enc)).toArray.eraseIdxIfInBounds i=((es.eraseIdx i).map (eO enc)).toArray:=by
   apply Array.ext';rw [Array.toList_eraseIdxIfInBounds];simp only;exact (nH _ _ _).symm
  simp [I5,h,hb,aK,Sem.run,Sem.run_pure,he]
theorem KZ {t K E g clock:Nat} {ts:Array TypeId} {m kx:Operand} {k:κ} {es:List (κ × Value × Nat)} {R:List Blk} {ops:Array Oper} [ht:Und P t (.map K E)] [hk:KLaw P K enc] (h0:ts[0]? =some t) (hm:ev s m=some (.map (some g))) (hkx:ev s kx=some (enc k)) (hsel:Sel (.obj g (aK enc es clock)) H R)
 (h:WL P n w0 ops rest Q s (.obj g (aK enc (I5 k es) clock)::R)):WL P n w0 ops (⟨none,.call { callee:= .builtin .delete,args:= #[m,kx],argTypes:=ts },ty,p,af,none⟩::rest) Q s H:=by
 intro a w hs hmm;have hm' :=hmm.sel hsel;have hb:=(hm'.on _ Xb).1;refine wpList_plain rfl fun K' hK=> ?_;have hr:(execOp a.eval ⟨none,.call { callee:= .builtin .delete,args:= #[m,kx],argTypes:=ts },ty,p,af,none⟩).run P w= .ok (.value (.tuple #[])) { w with heap:=w.heap.setIfInBounds g (aK enc (I5 k es) clock) }:=by
  have hd:=IC (P:=P) (ty:=ty) (t:=t) (K:=K) (E:=E) (k:=k) (es:=es) (w:=w) (ts:=ts) hb h0;simp [execOp,hs.eval m _ hm,hs.eval kx _ hkx,resolve,invoke,builtin,hd]
 simp only [Oper.wp,hr,Oper.upon];exact hK _ _ (h _ _ (hs.put_none _) (hm'.upd (nz w g _) (b' := .obj g _) (uw hb) fun k hk=> .inl hk))
theorem dN {κ' :Type} {enc:κ' →Value} {d t K E g clock:Nat} {x:Operand} {es:List (κ' × Value × Nat)} {ops:Array Oper} [ht:Und P t (.map K E)] (hn:Nat.blt d n.sz=true) (hx:ev s x=some (.map (some g))) (hin:In (.obj g (aK enc es clock)) H)
 (k: ∀ gi,WL P n w0 ops rest Q ((d,.pointer (some ⟨gi,0,none⟩))::s) (.obj gi (je g clock [])::H)):WL P n w0 ops (⟨some d,.range t x,ty,p,af,none⟩::rest) Q s H:=by
 refine oq (B:=fun gi=> .obj gi (je g clock [])) (v:=fun gi=> .pointer (some ⟨gi,0,none⟩)) hn (fun st w hs hm=> ?_) k;have hb:=hm.obj_at hin;refine ⟨w.alloc (.mapIter (some g) clock #[] clock),?_,World.grownBy_alloc w _ none,heap_alloc_new w _,rfl⟩;simp only [execOp,hs.eval x _ hx,Sem.run_bind,run_range_map w t K E g _ clock ht.out hb,Result.andThen_ok,Sem.run_pure]
theorem eC {κ' :Type} {enc:κ' →Value} {d g gi clock:Nat} {x:Operand} {es:List (κ' × Value × Nat)} {seen:List Nat} {R:List Blk} {ops:Array Oper} (hn:Nat.blt d n.sz=true) (hx:ev s x=some (.pointer (some ⟨gi,0,none⟩))) (hsel:Sel (.obj gi (je g clock seen)) H R) (hin:In (.obj g (aK enc es clock)) R) (hok:MapOk es clock)
 (k1: ∀ e∈es,e.2.2∉seen→WL P n w0 ops rest Q ((d,.tuple #[.bool true,enc e.1,e.2.1])::s) (.obj gi (je g clock (seen++ [e.2.2]))::R))
 (k2:(∀ e∈es,e.2.2∈seen)→WL P n w0 ops rest Q ((d,.tuple #[.bool false])::s) (.obj gi (je g clock seen)::R)):
 WL P n w0 ops (⟨some d,.next x false,ty,p,af,none⟩::rest) Q s H:=by
 intro st w hs hm;have hm' :=hm.sel hsel;have hbi:=(hm'.on _ Xb).1;have hb:=hm'.tail.obj_at hin;simp only [Blk.on,je] at hbi;simp only [aK] at hb;refine wpList_plain rfl fun K hK=> ?_;have hold: ∀ y∈(es.map (eO enc)).toArray.toList,y.born<clock:=by
  intro y hy;simp only [Xu] at hy;obtain ⟨e,he,rfl⟩:=hy;exact hok.old e he
 have htest:=next_test_false seen.toArray (es.map (eO enc)).toArray clock clock hold (Xy _);have hleft: ∀ L:Array MapEntry,L=(es.map (eO enc)).toArray.filter (fun e=> !seen.toArray.contains e.born)→L.filter (fun y=>decide (y.born<clock))=L∧L.filter (fun y=>decide (y.born≥clock))= #[]:=by
  intro L hL;have hmem: ∀ y∈L,y.born<clock:=fun y hy=>hold y (by subst hL;simp at hy ⊢;exact hy.1);refine ⟨Array.filter_eq_self.2 (fun y hy=>by simpa using hmem y hy),?_⟩;rw [Array.filter_eq_empty_iff];intro y hy;have:=hmem y hy;simp;omega
 obtain ⟨e1,e2⟩:=hleft _ rfl;generalize hLd:(es.map (eO enc)).toArray.filter (fun e=> !seen.toArray.contains e.born)=L at e1 e2;by_cases h0:L.size=0
 ·have hL0:L= #[]:=Array.eq_empty_of_size_eq_zero h0;have hr:(Instr.next (.pointer (some ⟨gi,0,none⟩)) false ty).run P w= .ok (.tuple #[.bool false]) w:=by
   simp only [Instr.next,getObj,Sem.run_bind,Sem.run,hbi,hb,Result.andThen,htest,X3,if_false,hLd,e1,e2,Array.append_empty];subst hL0;simp [choose,Sem.run,Question.forced]
  unfold Oper.wp execOp;simp only [Sem.run_bind,hs.eval x _ hx,hr,Result.andThen_ok,Sem.run_pure,Oper.upon];refine hK _ _ (k2 (fun e he=> ?_) _ _ (hs.put (Yg ▸ hn) _) hm');rw [hL0,Array.filter_eq_empty_iff] at hLd;have:=hLd (eO enc e) (by simp;exact ⟨e.1,e.2.1,e.2.2,he,rfl⟩);simpa [eO] using this
 ·have hne:L.isEmpty=false:=by simp [Array.isEmpty,h0]
  have hch: ∃ (j:Nat) (w1:World),j<L.size∧(w1=w∨w1=w.drew)∧(choose (Question.mapNext L.size)).run P w= .ok j w1:=by
   by_cases hf:L.size≤1
   ·exact ⟨0,w,by omega,.inl rfl,by simp [choose,Sem.run,Question.forced,hf]⟩
   ·exact ⟨_,w.drew,Nat.mod_lt _ (by omega),.inr rfl,by
     simp only [choose,Sem.run,Question.forced,decide_eq_true_eq,hf,if_false,Question.cut]
     rfl⟩
  obtain ⟨j,w1,hj,hal,hrun⟩:=hch;have hLj: ∀ y∈L,(∃ e∈es,eO enc e=y)∧(!seen.toArray.contains y.born)=true:=by
   intro y hy;rw [← hLd,Array.mem_filter,List.mem_toArray,Xu] at hy;exact hy
  obtain ⟨⟨e,he,hej⟩,hns⟩:=hLj _ (Array.getElem_mem hj);have hb1:w1.heap=w.heap:=by rcases hal with rfl|rfl<;>rfl
  have hr:(Instr.next (.pointer (some ⟨gi,0,none⟩)) false ty).run P w= .ok (.tuple #[.bool true,enc e.1,e.2.1]) { w1 with heap:=w1.heap.setIfInBounds gi (.mapIter (some g) clock (seen++ [e.2.2]).toArray clock) }:=by
   simp only [Instr.next,getObj,Sem.run_bind,Sem.run,hbi,hb,Result.andThen,htest,X3,if_false,hLd,e1,e2,Array.append_empty,hne,Array.empty_append,Array.size_map,hrun,Array.getElem?_map,Array.getElem?_eq_getElem hj,Ys,setObj,hb1,← hej];simp [eO]
  unfold Oper.wp execOp;simp only [Sem.run_bind,hs.eval x _ hx,hr,Result.andThen_ok,Sem.run_pure,Oper.upon];have hnot:e.2.2∉seen:=by
   have:eO enc e=L[j]:=hej;rw [← this] at hns;simpa [eO] using hns
  have hg1:w.grownBy { w1 with heap:=w1.heap.setIfInBounds gi (.mapIter (some g) clock (seen++ [e.2.2]).toArray clock) } (some gi):=by
   have hh: ∀ k:Nat,k≠gi→(w.heap.setIfInBounds gi (.mapIter (some g) clock (seen++ [e.2.2]).toArray clock))[k]? =w.heap[k]? :=fun k hk=>by
    rw [Zj (Ne.symm hk)]
   rcases hal with rfl|rfl
   ·exact ⟨rfl,rfl,rfl,by simp,fun k _ hk=>hh k fun e=>hk (by rw [e])⟩
   ·exact ⟨rfl,rfl,rfl,by simp,fun k _ hk=>hh k fun e=>hk (by rw [e])⟩
  refine hK _ _ (k1 e he hnot _ _ (hs.put (Yg ▸ hn) _) (hm'.upd hg1 (b' := .obj gi _) ?_ fun k hk=> .inl hk));simp only [Blk.on];have:gi<w.heap.size:=(XK.1 hbi).1;simp [hb1,this,je]
theorem lH {κ' :Type} {enc:κ' →Value} {g gi clock:Nat} {x:Operand} {es:List (κ' × Value × Nat)} {seen:List Nat} {e:κ' × Value × Nat} (hx:ev s x=some (.pointer (some ⟨gi,0,none⟩))) (hin:In (.obj gi (je g clock (seen++ [e.2.2]))) H) (hin2:In (.obj g (aK enc es clock)) H) (he:e∈es) (hok:MapOk es clock):
 VOp P w0 s H (.entry x) ty (.tuple #[enc e.1,e.2.1]):=fun ρ w _ _ _ _ hρ hm=>by
 have hbi:=hm.obj_at hin;have hb:=hm.obj_at hin2;simp only [je] at hbi;simp only [aK] at hb;have hf:(es.map (eO enc)).toArray.find? (fun y=>y.born==e.2.2)=some (eO enc e):=by
  rw [← Array.find?_toList];exact find_born (eO enc e) (es.map (eO enc)) (by rw [YL];exact hok.born) (Xu.2 ⟨e,he,rfl⟩)
 have hbk:(seen++ [e.2.2]).toArray.back? =some e.2.2:=by simp
 have hr:(Instr.entry (.pointer (some ⟨gi,0,none⟩))).run P w= .ok (.tuple #[enc e.1,e.2.1]) w:=by
  simp only [Instr.entry,getObj,Sem.run_bind,Sem.run,hbi,hb,Result.andThen,hbk,bne_self_eq_false,X3,if_false,hf]
  rfl
 simp only [execOp,hρ x _ hx,Sem.run_bind,hr,Result.andThen_ok,Sem.run_pure]
end
structure Vis {κ:Type} (es vis:List (κ × Value × Nat)):Prop where
 nodup:(vis.map fun e=>e.2.2).Nodup
 sub: ∀ e∈vis,e∈es
theorem Vis.nil {κ:Type} (es:List (κ × Value × Nat)):Vis es []:=⟨ZM,fun _ h=>by cases h⟩
theorem Vis.step {κ:Type} {es vis:List (κ × Value × Nat)} (h:Vis es vis) {e:κ × Value × Nat} (he:e∈es) (hn:e.2.2∉vis.map fun e=>e.2.2):Vis es (vis++ [e]):=by
 refine ⟨?_,fun x hx=> ?_⟩
 ·rw [XI,YK];exact ⟨h.nodup,by simp,fun a ha b hb=>by simp at hb;subst hb;exact fun e' =>hn (e' ▸ ha)⟩
 ·rcases Xr.1 hx with hx|hx
  ·exact h.sub x hx
  ·rw [Xl.1 hx];exact he
theorem jp {α:Type}: ∀ {l m:List α},l.Nodup→(∀ x∈l,x∈m)→l.length≤m.length
 | [],_,_,_=>Xn _
 |a::l,m,hn,hs=>by
  obtain ⟨s,t,rfl⟩:=List.append_of_mem (hs a Xb);have h1:l.length≤(s++t).length:=jp (Y9.1 hn).2 fun x hx=>by
   have hne:x≠a:=fun e=>(Y9.1 hn).1 (e ▸ hx);have:=hs x (Xp _ hx);simp only [Xr,Xt] at this ⊢;rcases this with h|h|h
   ·exact .inl h
   ·exact absurd h hne
   ·exact .inr h
  simp only [Xs,Xa] at h1 ⊢;omega
theorem Vis.len {κ:Type} {es vis:List (κ × Value × Nat)} (h:Vis es vis):vis.length≤es.length:=by
 have:=jp h.nodup (m:=es.map fun e=>e.2.2) fun x hx=>by
  obtain ⟨e,he,rfl⟩:=Xu.1 hx;exact Xu.2 ⟨e,h.sub e he,rfl⟩
 simpa using this
theorem Vis.lt {κ:Type} {es vis:List (κ × Value × Nat)} (h:Vis es vis) {e:κ × Value × Nat} (he:e∈es) (hn:e.2.2∉vis.map fun e=>e.2.2):vis.length<es.length:=by
 have h1:=(h.step he hn).len;rw [Xa] at h1;exact h1
theorem j6 {α β:Type} (f:α→β) {l:List α} (h:(l.map f).Nodup):l.Nodup:=by
 rw [List.Nodup,ZV] at h;exact h.imp fun h e=>h (congrArg f e)
theorem nI {α β:Type} (f:α→β): ∀ {l:List α},(l.map f).Nodup→ ∀ {x y:α},x∈l→y∈l→f x=f y→x=y
 |a::l,h,x,y,hx,hy,e=>by
  have h' :=Y9.1 h;rcases Xt.1 hx with hx|hx<;>rcases Xt.1 hy with hy|hy
  ·rw [hx,hy]
  ·exact absurd (Xu.2 ⟨y,hy,by rw [← e,hx]⟩) h'.1
  ·exact absurd (Xu.2 ⟨x,hx,by rw [e,hy]⟩) h'.1
  ·exact nI f h'.2 hx hy e
theorem Vis.mem {κ:Type} {es vis:List (κ × Value × Nat)} {clock:Nat} [DecidableEq κ] (h:Vis es vis) (hok:MapOk es clock) (hall: ∀ e∈es,e.2.2∈vis.map fun e=>e.2.2) (e:κ × Value × Nat):e∈vis↔e∈es:=by
 refine ⟨h.sub e,fun he=> ?_⟩;obtain ⟨e',he',heq⟩:=Xu.1 (hall e he);exact nI _ hok.born (h.sub e' he') he heq ▸ he'
theorem jq {α:Type}: ∀ {l m:List α},l.Nodup→m.Nodup→(∀ a,a∈l↔a∈m)→l.Perm m
 | [],m,_,_,h=>by
  cases m with
  |nil=>exact .refl _
  |cons b m=>exact absurd ((h b).2 Xb) (by simp)
 |a::l,m,hl,hm,h=>by
  have ha:a∈m:=(h a).1 Xb;obtain ⟨s,t,rfl⟩:=List.append_of_mem ha;have hl' :=Y9.1 hl;have hp:(s++a::t).Perm (a::(s++t)):=ZO;have hm2:=Y9.1 (hp.nodup_iff.1 hm);refine (List.Perm.cons a (jq hl'.2 hm2.2 fun x=> ?_)).trans hp.symm;have hx:=h x;rw [hp.mem_iff,Xt,Xt] at hx;constructor
  ·intro hxl;rcases hx.1 (.inr hxl) with e|h1
   ·exact absurd (e ▸ hxl) hl'.1
   ·exact h1
  ·intro hxm;rcases hx.2 (.inr hxm) with e|h1
   ·exact absurd (e ▸ hxm) hm2.1
   ·exact h1
theorem Vis.perm {κ:Type} [DecidableEq κ] {es vis:List (κ × Value × Nat)} {clock:Nat} (h:Vis es vis) (hok:MapOk es clock) (hall: ∀ e∈es,e.2.2∈vis.map fun e=>e.2.2):vis.Perm es:=
 jq (j6 _ h.nodup) (j6 _ hok.born) (h.mem hok hall)
theorem Ph {P:Program} {K:TypeId} {q:IntKind} [hK:Und P K (.int q)]:KLaw P K (fun z:Int=>Value.int q z):={
 check:=fun e k w=>by
  have h: ∀ m,(Instr.checkKey e (m+1) K (.int q k)).run P w= .ok () w:=fun m=>by simp only [Instr.checkKey,Sem.run_bind,run_underlying hK.out,Result.andThen_ok,Sem.run_pure]
  exact h 9999
 find:=fun k es w=>by
  have h: ∀ (es:List (Int × Value × Nat)) (i:Nat),Instr.findNow (.int q) (.int q k) (es.map (eO fun z:Int=>Value.int q z)) i=some (bH k es i):=by
   intro es
   induction es with
   |nil=>intro i;rfl
   |cons e es ih=>
    intro i;have hb:(k==e.1)=decide (k=e.1):=by rw [XY];simp
    simp only [XD,Instr.findNow,eO,Instr.sameNow,if_true,bH,hb];by_cases hk:k=e.1
    ·simp [hk]
    ·simp only [decide_eq_false hk,hk,if_false];exact ih _
  simp only [Instr.findKey,Sem.run_bind,run_underlying hK.out,Result.andThen_ok,h,Sem.run_pure]
 stays:=fun k w=>by
  have h:Instr.sameBits 10000 (.int q k) (.int q k)=true:=by unfold Instr.sameBits;simp
  simp only [Instr.keyThatStays,h,if_true,Sem.run_pure] }
section
variable {κ:Type}
def VN (f:κ→Value) (x:κ × Nat):κ × Value × Nat:=(x.1,f x.1,x.2)
def mapM (f:κ→Value) (S:List κ):List (κ × Value × Nat):=S.zipIdx.map (VN f)
theorem fQ (f:κ→Value) (S:List κ) (i:Nat):(mapM f S)[i]? =S[i]?.map fun a=>(a,f a,i):=by
 unfold mapM;rw [XN,List.getElem?_zipIdx,Zq];cases S[i]? <;>simp [VN]
theorem tr (f:κ→Value) (S:List κ):(mapM f S).length=S.length:=by simp [mapM]
theorem uH (f:κ→Value) (S:List κ):(mapM f S).map (fun e=>e.1)=S:=by
 apply Yw;intro i;rw [XN,fQ,Zq];cases S[i]? <;>rfl
variable [DecidableEq κ]
def nj (f:κ→Value) (k:κ) (v:Value):κ→Value:=fun x=>if x=k then v else f x
theorem uL {k:κ}: ∀ {es:List (κ × Value × Nat)} {i:Nat},k∉es.map (fun e=>e.1)→bH k es i=none
 | [],_,_=>rfl
 |e::es,i,h=>by
  rw [XD,Xt,not_or] at h;rw [bH,if_neg h.1];exact uL h.2
theorem F4 {k:κ}: ∀ {es:List (κ × Value × Nat)} {i:Nat},k∈es.map (fun e=>e.1)→ ∃ j v,bH k es i=some (j,v)
 | [],_,h=>by cases h
 |e::es,i,h=>by
  by_cases hk:k=e.1
  ·exact ⟨i,e.2.1,by rw [bH,if_pos hk]⟩
  ·rw [XD,Xt] at h;rw [bH,if_neg hk];exact F4 (h.resolve_left hk)
theorem uM {f:κ→Value} {S:List κ} {k:κ} (h:k∈S): ∃ i,bH k (mapM f S) 0=some (i,f k)∧S[i]? =some k:=by
 obtain ⟨j,v,hj⟩:=F4 (k:=k) (es:=mapM f S) (i:=0) (by rw [uH];exact h);obtain ⟨b,_,hb⟩:=kD hj;rw [YC,fQ] at hb
 cases hS:S[j]? with
 |none=>rw [hS] at hb;cases hb
 |some a=>
  rw [hS] at hb;simp only [Ys,Option.some.injEq,Prod.mk.injEq] at hb;obtain ⟨h1,h2,_⟩:=hb;subst h1;exact ⟨j,by rw [hj,← h2],hS⟩
theorem oZ {f:κ→Value} {S:List κ} {k:κ} (h:k∉S):bH k (mapM f S) 0=none:=uL (by rw [uH];exact h)
theorem tu (f:κ→Value) (S:List κ) (k:κ) (z:Value):(match bH k (mapM f S) 0 with|some (_,v)=>v|none=>z)=if k∈S then f k else z:=by
 by_cases h:k∈S
 ·obtain ⟨i,h1,_⟩:=uM (f:=f) h;rw [h1,if_pos h]
 ·rw [oZ h,if_neg h]
theorem rJ (f:κ→Value) (S:List κ) (k:κ) (z:Value):(match bH k (mapM f S) 0 with|some (_,v)=>Value.tuple #[v,.bool true]|none=> .tuple #[z,.bool false])= .tuple #[if k∈S then f k else z,.bool (decide (k∈S))]:=by
 by_cases h:k∈S
 ·obtain ⟨i,h1,_⟩:=uM (f:=f) h;rw [h1,if_pos h,decide_eq_true h]
 ·rw [oZ h,if_neg h,decide_eq_false h]
theorem wW {f:κ→Value} {S:List κ} {k:κ} {v:Value} (h:k∉S):gK k v S.length (mapM f S)=(mapM (nj f k v) (S++ [k]),S.length+1):=by
 have h1:mapM (nj f k v) (S++ [k])=mapM f S++ [(k,v,S.length)]:=by
  apply Yw;intro i;rw [fQ];rcases Nat.lt_trichotomy i S.length with h2|h2|h2
  ·rw [XW h2,XW (by rw [tr];exact h2),fQ,Xf h2];have:S[i]≠k:=fun e=>h (e ▸ XO h2);simp [nj,this]
  ·subst h2;rw [Yd (Xy _),Yd (by rw [tr];exact Xy _),tr];simp [nj]
  ·rw [Yx (by simp;omega),Yx (by rw [Xa,tr];simp;omega)];rfl
 unfold gK;rw [oZ h,h1]
theorem CU {f:κ→Value} {S:List κ} {k:κ} {v:Value} {c:Nat} (hn:S.Nodup) (h:k∈S):gK k v c (mapM f S)=(mapM (nj f k v) S,c):=by
 obtain ⟨i,h1,h2⟩:=uM (f:=f) h;have h3:(mapM f S).modify i (fun e=>(k,v,e.2.2))=mapM (nj f k v) S:=by
  apply Yw;intro j;rw [ZK,fQ,fQ];by_cases e:i=j
  ·subst e;simp [h2,nj]
  ·cases hj:S[j]? with
   |none=>simp
   |some a=>
    have:a≠k:=fun e2=>e (by
     subst e2;obtain ⟨l1,g1⟩:=XJ.1 h2;obtain ⟨l2,g2⟩:=XJ.1 hj;exact (List.getElem_inj hn).1 (g1.trans g2.symm))
    simp [e,nj,this]
 unfold gK;rw [h1];simp only [h3]
end
open Go.Proofs
theorem Kk (w:World) (d:Nat) (a b:Vl):(Op.equalIn (d+3) 173 (.agg (fp a).toArray) (.agg (fp b).toArray)).run Tryz.prog w= .ok (eqV a b) w:=by
 rw [run_equalIn_agg w (d+2) 173 _ _ (by rw [Program.fieldsOf,Tryz.underlying173]) Tryz.stoodInHeld173];simp only [Program.fieldsOf,Tryz.underlying173];simp [Op.eqFields,fp,part,go_sem,DE,JA,eqV];by_cases h1:a.kind=b.kind<;>by_cases h2:a.num=b.num<;>by_cases h3:a.text=b.text<;>simp [h1,h2,h3]
theorem sK (w:World) (d:Nat) (a b:Rct):(Op.equalIn (d+3) 31 (.agg (ay a).toArray) (.agg (ay b).toArray)).run Tryz.prog w= .ok (eqR a b) w:=by
 rw [run_equalIn_agg w (d+2) 31 _ _ (by rw [Program.fieldsOf,Tryz.underlying31]) Tryz.stoodInHeld31];simp only [Program.fieldsOf,Tryz.underlying31];simp [Op.eqFields,ay,part,go_sem,DE,JA,eqR];by_cases h1:a.c1=b.c1<;>by_cases h2:a.r1=b.r1<;>by_cases h3:a.c2=b.c2<;>by_cases h4:a.r2=b.r2<;>simp [h1,h2,h3,h4]
theorem wV (w:World) (d:Nat) (a b:Rf):(Op.equalIn (d+3) 34 (.agg (aq a).toArray) (.agg (aq b).toArray)).run Tryz.prog w= .ok (eqF a b) w:=by
 rw [run_equalIn_agg w (d+2) 34 _ _ (by rw [Program.fieldsOf,Tryz.underlying34]) Tryz.stoodInHeld34];simp only [Program.fieldsOf,Tryz.underlying34];simp [Op.eqFields,aq,part,go_sem,DE,JA,eqF];by_cases h1:a.col=b.col<;>by_cases h2:a.row=b.row<;>simp [h1,h2]
theorem RC (w:World) (d:Nat) (a b:Nd):(Op.equalIn (d+5) 283 (.agg (gW a).toArray) (.agg (gW b).toArray)).run Tryz.prog w= .ok (eqN a b) w:=by
 rw [run_equalIn_agg w (d+4) 283 _ _ (by rw [Program.fieldsOf,Tryz.underlying283]) Tryz.stoodInHeld283];simp only [Program.fieldsOf,Tryz.underlying283];have hv: ∀ w,(Op.equalIn (d+4) 173 (.agg #[.int .u8 a.v.kind,.int .i64 a.v.num,.string a.v.text]) (.agg #[.int .u8 b.v.kind,.int .i64 b.v.num,.string b.v.text])).run Tryz.prog w= .ok (eqV a.v b.v) w:=fun w=>Kk w (d+1) a.v b.v;have hr: ∀ w,(Op.equalIn (d+4) 31 (.agg #[.int .i64 a.rect.c1,.int .i64 a.rect.r1,.int .i64 a.rect.c2,.int .i64 a.rect.r2]) (.agg #[.int .i64 b.rect.c1,.int .i64 b.rect.r1,.int .i64 b.rect.c2,.int .i64 b.rect.r2])).run Tryz.prog w= .ok (eqR a.rect b.rect) w:=fun w=>sK w (d+1) a.rect b.rect;simp [Op.eqFields,gW,part,go_sem,DE,JA,eqN,hv,hr];by_cases h1:a.kind=b.kind<;>by_cases h2:eqV a.v b.v=true<;>by_cases h3:eqR a.rect b.rect=true<;>by_cases h4:a.op=b.op<;>by_cases h5:a.fn=b.fn<;>by_cases h6:a.n=b.n<;>simp [h1,h2,h3,h4,h5,h6]
section
variable {w0:World} {s:az} {H:List Blk} {ty t' :TypeId} {x y:Operand}
theorem NQ {a b:Vl} (hx:ev s x=some (.agg (fp a).toArray)) (hy:ev s y=some (.agg (fp b).toArray)):VOp Tryz.prog w0 s H (.binOp .eql 173 x y t') ty (.bool (eqV a b)):=fun ρ w _ _ _ _ hρ _=>by
 have h:=Kk w 9997 a b;simp only [Nat.reduceAdd] at h;simp only [execOp,hρ x _ hx,hρ y _ hy,Sem.run_bind,run_eqGuard_agg w _ _ _ _ _ _ Tryz.eqGuardType173,Result.andThen_ok,run_eql_struct,h,Sem.run_pure]
theorem Uf {a b:Rct} (hx:ev s x=some (.agg (ay a).toArray)) (hy:ev s y=some (.agg (ay b).toArray)):VOp Tryz.prog w0 s H (.binOp .eql 31 x y t') ty (.bool (eqR a b)):=fun ρ w _ _ _ _ hρ _=>by
 have h:=sK w 9997 a b;simp only [Nat.reduceAdd] at h;simp only [execOp,hρ x _ hx,hρ y _ hy,Sem.run_bind,run_eqGuard_agg w _ _ _ _ _ _ Tryz.eqGuardType31,Result.andThen_ok,run_eql_struct,h,Sem.run_pure]
theorem NL {a b:Rct} (hx:ev s x=some (.agg (ay a).toArray)) (hy:ev s y=some (.agg (ay b).toArray)):VOp Tryz.prog w0 s H (.binOp .neq 31 x y t') ty (.bool (!eqR a b)):=fun ρ w _ _ _ _ hρ _=>by
 have h:=sK w 9997 a b;simp only [Nat.reduceAdd] at h;simp only [execOp,hρ x _ hx,hρ y _ hy,Sem.run_bind,run_eqGuard_agg w _ _ _ _ _ _ Tryz.eqGuardType31,Result.andThen_ok,run_neq_struct,h,Sem.run_pure]
theorem Ih {a b:Rf} (hx:ev s x=some (.agg (aq a).toArray)) (hy:ev s y=some (.agg (aq b).toArray)):VOp Tryz.prog w0 s H (.binOp .eql 34 x y t') ty (.bool (eqF a b)):=fun ρ w _ _ _ _ hρ _=>by
 have h:=wV w 9997 a b;simp only [Nat.reduceAdd] at h;simp only [execOp,hρ x _ hx,hρ y _ hy,Sem.run_bind,run_eqGuard_agg w _ _ _ _ _ _ Tryz.eqGuardType34,Result.andThen_ok,run_eql_struct,h,Sem.run_pure]
theorem NM {a b:Rf} (hx:ev s x=some (.agg (aq a).toArray)) (hy:ev s y=some (.agg (aq b).toArray)):VOp Tryz.prog w0 s H (.binOp .neq 34 x y t') ty (.bool (!eqF a b)):=fun ρ w _ _ _ _ hρ _=>by
 have h:=wV w 9997 a b;simp only [Nat.reduceAdd] at h;simp only [execOp,hρ x _ hx,hρ y _ hy,Sem.run_bind,run_eqGuard_agg w _ _ _ _ _ _ Tryz.eqGuardType34,Result.andThen_ok,run_neq_struct,h,Sem.run_pure]
theorem xI {a b:Nd} (hx:ev s x=some (.agg (gW a).toArray)) (hy:ev s y=some (.agg (gW b).toArray)):VOp Tryz.prog w0 s H (.binOp .neq 283 x y t') ty (.bool (!eqN a b)):=fun ρ w _ _ _ _ hρ _=>by
 have h:=RC w 9995 a b;simp only [Nat.reduceAdd] at h;simp only [execOp,hρ x _ hx,hρ y _ hy,Sem.run_bind,run_eqGuard_agg w _ _ _ _ _ _ Tryz.eqGuardType283,Result.andThen_ok,run_neq_struct,h,Sem.run_pure]
end
instance klaw_F:KLaw Tryz.prog 34 (fun a:Rf=>Value.agg (aq a).toArray):={
 check:=fun e k w=>by
  have h: ∀ m,(Instr.checkKey e (m+2) 34 (.agg (aq k).toArray)).run Tryz.prog w= .ok () w:=fun m=>by
   simp [Instr.checkKey,aq,part,go_sem,Tryz.underlying34]
  exact h 9998
 find:=fun k es w=>by
  have hask: ∀ (es:List (Rf × Value × Nat)) (i:Nat),(Instr.findAsking 34 (.agg (aq k).toArray) (es.map (eO fun a:Rf=>Value.agg (aq a).toArray)) i).run Tryz.prog w= .ok (bH k es i) w:=by
   intro es
   induction es with
   |nil=>intro i;rfl
   |cons e es ih=>
    intro i;have h:(Op.equalIn Op.maxDepth 34 (.agg (aq k).toArray) (.agg (aq e.1).toArray)).run Tryz.prog w= .ok (eqF k e.1) w:=wV w 9997 k e.1;rw [Dq] at h;simp only [XD,Instr.findAsking,eO,Op.equal,Sem.run_bind,h,Result.andThen_ok,bH];by_cases hk:k=e.1
    ·simp only [hk,decide_true,if_true,Sem.run_pure]
    ·simp only [hk,decide_false,if_false,X3];exact ih _
  have hu:=run_underlying (P:=Tryz.prog) (w:=w) Tryz.underlying34
  cases es with
  |nil=>simp only [Instr.findKey,XR,Instr.findNow,Sem.run_bind,hu,Result.andThen_ok,Sem.run_pure,bH]
  |cons e es=>
   have:=hask (e::es) 0;simp only [XD] at this ⊢;simp only [Instr.findKey,Instr.findNow,eO,Instr.sameNow,Sem.run_bind,hu,Result.andThen_ok];exact this
 stays:=fun k w=>by
  have h:Instr.sameBits 10000 (.agg (aq k).toArray) (.agg (aq k).toArray)=true:=by
   have h: ∀ m,Instr.sameBits (m+1) (.agg (aq k).toArray) (.agg (aq k).toArray)=true:=fun m=>by simp [Instr.sameBits,aq]
   exact h 9999
  simp only [Instr.keyThatStays,h,if_true,Sem.run_pure] }
@[reducible] def jN (r:Rct):Value:= .agg (ay r).toArray
structure Ak where
 fn:Int
 rect:Rct
def pu (a:Ak):List Value:= [.int .u8 a.fn,.int .i64 a.rect.c1,.int .i64 a.rect.r1,.int .i64 a.rect.c2,.int .i64 a.rect.r2]
@[reducible] def lV (a:Ak):Value:= .agg (pu a).toArray
def Mx (a b:Ak):Bool:=decide (a.fn=b.fn) && eqR a.rect b.rect
theorem GG {a b:Ak}:Mx a b=true↔a=b:=by
 obtain ⟨a1,a2⟩:=a;obtain ⟨b1,b2⟩:=b;simp [Mx,nK]
instance iN12:DecidableEq Ak:=fun a b=>decidable_of_iff (Mx a b=true) GG
theorem PK (a b:Ak):Mx a b=decide (a=b):=by rw [XY,GG];simp
theorem Ov (w:World) (d:Nat) (a b:Ak):(Op.equalIn (d+5) 232 (.agg (pu a).toArray) (.agg (pu b).toArray)).run Tryz.prog w= .ok (Mx a b) w:=by
 rw [run_equalIn_agg w (d+4) 232 _ _ (by rw [Program.fieldsOf,Tryz.underlying232]) Tryz.stoodInHeld232];simp only [Program.fieldsOf,Tryz.underlying232];have hr: ∀ w,(Op.equalIn (d+4) 31 (.agg #[.int .i64 a.rect.c1,.int .i64 a.rect.r1,.int .i64 a.rect.c2,.int .i64 a.rect.r2]) (.agg #[.int .i64 b.rect.c1,.int .i64 b.rect.r1,.int .i64 b.rect.c2,.int .i64 b.rect.r2])).run Tryz.prog w= .ok (eqR a.rect b.rect) w:=fun w=>sK w (d+1) a.rect b.rect;simp [Op.eqFields,pu,part,go_sem,DE,JA,Mx,hr];by_cases h1:a.fn=b.fn<;>by_cases h2:eqR a.rect b.rect=true<;>simp [h1,h2]
theorem TA {K:TypeId} {κ:Type} [DecidableEq κ] {enc:κ→Value} {td:TypeDesc} (hu:Tryz.prog.underlying K=some td) (hns: ∀ (k e:κ) w,(Op.equalIn Op.maxDepth K (enc k) (enc e)).run Tryz.prog w= .ok (decide (k=e)) w)
 (hnow: ∀ (k:κ) (es:List (κ × Value × Nat)) w,(Instr.findAsking K (enc k) (es.map (eO enc)) 0).run Tryz.prog w= .ok (bH k es 0) w→(Instr.findKey K (enc k) (es.map (eO enc))).run Tryz.prog w= .ok (bH k es 0) w) (k:κ) (es:List (κ × Value × Nat)) (w:World):
 (Instr.findKey K (enc k) (es.map (eO enc))).run Tryz.prog w= .ok (bH k es 0) w:=by
 refine hnow k es w ?_;have hask: ∀ (es:List (κ × Value × Nat)) (i:Nat),(Instr.findAsking K (enc k) (es.map (eO enc)) i).run Tryz.prog w= .ok (bH k es i) w:=by
  intro es
  induction es with
  |nil=>intro i;rfl
  |cons e es ih=>
   intro i;have h:=hns k e.1 w;simp only [XD,Instr.findAsking,eO,Op.equal,Sem.run_bind,h,Result.andThen_ok,bH];by_cases hk:k=e.1
   ·simp only [hk,decide_true,if_true,Sem.run_pure]
   ·simp only [hk,decide_false,if_false,X3];exact ih _
 exact hask es 0
instance klaw_R:KLaw Tryz.prog 31 jN:={
 check:=fun e k w=>by
  have h: ∀ m,(Instr.checkKey e (m+2) 31 (.agg (ay k).toArray)).run Tryz.prog w= .ok () w:=fun m=>by
   simp [Instr.checkKey,ay,part,go_sem,Tryz.underlying31]
  exact h 9998
 find:=fun k es w=>by
  refine TA Tryz.underlying31 (fun k e w=>by have h:=sK w 9997 k e;rw [w9] at h;exact h) (fun k es w h=> ?_) k es w;have hu:=run_underlying (P:=Tryz.prog) (w:=w) Tryz.underlying31
  cases es with
  |nil=>simp only [Instr.findKey,XR,Instr.findNow,Sem.run_bind,hu,Result.andThen_ok,Sem.run_pure,bH]
  |cons e es=>
   simp only [XD] at h ⊢;simp only [Instr.findKey,Instr.findNow,eO,Instr.sameNow,Sem.run_bind,hu,Result.andThen_ok];exact h
 stays:=fun k w=>by
  have h:Instr.sameBits 10000 (.agg (ay k).toArray) (.agg (ay k).toArray)=true:=by
   have h: ∀ m,Instr.sameBits (m+1) (.agg (ay k).toArray) (.agg (ay k).toArray)=true:=fun m=>by simp [Instr.sameBits,ay]
   exact h 9999
  simp only [Instr.keyThatStays,h,if_true,Sem.run_pure] }
instance klaw_A:KLaw Tryz.prog 232 lV:={
 check:=fun e k w=>by
  have h: ∀ m,(Instr.checkKey e (m+3) 232 (.agg (pu k).toArray)).run Tryz.prog w= .ok () w:=fun m=>by
   simp [Instr.checkKey,pu,part,go_sem,Tryz.underlying232,Tryz.underlying31]
  exact h 9997
 find:=fun k es w=>by
  refine TA Tryz.underlying232 (fun k e w=>by have h:=Ov w 9995 k e;rw [PK] at h;exact h) (fun k es w h=> ?_) k es w;have hu:=run_underlying (P:=Tryz.prog) (w:=w) Tryz.underlying232
  cases es with
  |nil=>simp only [Instr.findKey,XR,Instr.findNow,Sem.run_bind,hu,Result.andThen_ok,Sem.run_pure,bH]
  |cons e es=>
   simp only [XD] at h ⊢;simp only [Instr.findKey,Instr.findNow,eO,Instr.sameNow,Sem.run_bind,hu,Result.andThen_ok];exact h
 stays:=fun k w=>by
  have h:Instr.sameBits 10000 (.agg (pu k).toArray) (.agg (pu k).toArray)=true:=by
   have h: ∀ m,Instr.sameBits (m+1) (.agg (pu k).toArray) (.agg (pu k).toArray)=true:=fun m=>by simp [Instr.sameBits,pu]
   exact h 9999
  simp only [Instr.keyThatStays,h,if_true,Sem.run_pure] }
end Go.SL
