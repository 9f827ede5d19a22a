/-
  Lemmas and walks, put together: Sl21 Bt.
-/
import Derived.Laws.Bits64
import Derived.Test.YtoanpdoacdpgeaaGreatDoorKn05
import Derived.Test.YtoanpdoacdpgeaaGreatDoorKn06
set_option linter.unusedSimpArgs false
set_option linter.unusedVariables false
set_option maxRecDepth 20000
namespace Go.SL
open Go Go.RowKit
def bat (a:ByteArray) (i:Nat):Int:=(ap a).getD i 0
def sub (a:ByteArray) (lo hi:Nat):ByteArray:=a.extract lo hi
theorem dO (a:ByteArray) (lo hi:Nat):ap (sub a lo hi)=((ap a).drop lo).take (hi - lo):=xE a lo hi
theorem bV (a:ByteArray) {lo hi:Nat} (h:hi≤a.size):(sub a lo hi).size=hi - lo:=by simp [sub];omega
theorem mG (a:ByteArray) (lo:Nat):ap (sub a lo a.size)=(ap a).drop lo:=by
 rw [dO,NQ]
 simp [av]
theorem ru (a:ByteArray) (hi:Nat):ap (sub a 0 hi)=(ap a).take hi:=by
 rw [dO,OC,Pa]
theorem fR {a:ByteArray} {i:Nat} (h:i<a.size):(ap a)[i]? =some (bat a i):=by
 have hl:i<(ap a).length:=by rw [av];exact h
 rw [bat,Nx,Nc hl]
 rfl
theorem qc (a:ByteArray) (i:Nat):0≤bat a i∧bat a i<256:=by
 rw [bat,Nx]
 cases h:(ap a)[i]? with
 |none=>simp
 |some c=>exact kU a c (List.mem_of_getElem? h)
theorem bk {a:ByteArray} {i:Nat} (h:i<a.size):(ap a).drop i=bat a i::(ap a).drop (i+1):=by
 have hl:i<(ap a).length:=by rw [av];exact h
 rw [Nn hl]
 have:=fR h
 rw [Nc hl] at this
 rw [Option.some.inj this]
theorem tM:ap au= []:=rfl
theorem HT {a:ByteArray}:ap a= []↔a=au:=⟨fun h=>tL (h.trans tM.symm),fun h=>by rw [h];rfl⟩
theorem f4 (a b:ByteArray):ap (a++b)=ap a++ap b:=by simp [ap]
section
variable {P:Program} {n:Fr} {w0:World} {Q:bQ} {s:az} {H:List Blk} {l rest:List Oper} {ty:TypeId} {p:String} {af:Array Edge}
theorem aZ {x ix:Operand} {t j:Nat} {a:ByteArray} {k:IntKind} [ht:Und P t .string] (hx:ev s x=some (.string a)) (hi:ev s ix=some (.int k (j:Nat))) (hj:j<a.size):VOp P w0 s H (.index t x ix) ty (.int .u8 (bat a j)):=by
 have h:=qk (P:=P) (w0:=w0) (H:=H) (ty:=ty) (t:=t) hx hi hj
 have e:((a[j]'hj).toNat:Int)=bat a j:=by
  have h1:=fR hj
  have h2:=oY a j hj
  rw [Nc (by rw [av];exact hj),h2] at h1
  exact Option.some.inj h1
 rw [← e];exact h
theorem Li {x ix:Operand} {t:Nat} {a:ByteArray} {k:IntKind} [ht:Und P t .string] (hx:ev s x=some (.string a)) (hi:ev s ix=some (.int k 0)) (hj:0<a.size):VOp P w0 s H (.index t x ix) ty (.int .u8 (bat a 0)):=aZ (j:=0) hx hi hj
theorem fu {t lo hi:Nat} {a:ByteArray} {x q r:Operand} {k k' :IntKind} [ht:Und P t .string] (hx:ev s x=some (.string a)) (hr:ev s r=some (.int k' (lo:Nat))) (hq:ev s q=some (.int k (hi:Nat))) (h:lo≤hi∧hi≤a.size):
  VOp P w0 s H (.slice t x (some r) (some q) none) ty (.string (sub a lo hi)):=Bz hx hr hq h.1 h.2
theorem rQ {t lo:Nat} {a:ByteArray} {x r:Operand} {k' :IntKind} [ht:Und P t .string] (hx:ev s x=some (.string a)) (hr:ev s r=some (.int k' (lo:Nat))) (h1:lo≤a.size):
  VOp P w0 s H (.slice t x (some r) none none) ty (.string (sub a lo a.size)):=rW hx hr h1
theorem Jz {t:Nat} {a:ByteArray} {x r:Operand} {k' :IntKind} [ht:Und P t .string] (hx:ev s x=some (.string a)) (hr:ev s r=some (.int k' 1)) (h1:1≤a.size):
  VOp P w0 s H (.slice t x (some r) none none) ty (.string (sub a 1 a.size)):=rW (lo:=1) hx hr h1
theorem Bn {t hi:Nat} {a:ByteArray} {x q:Operand} {k:IntKind} [ht:Und P t .string] (hx:ev s x=some (.string a)) (hq:ev s q=some (.int k (hi:Nat))) (h2:hi≤a.size):
  VOp P w0 s H (.slice t x none (some q) none) ty (.string (sub a 0 hi)):=Ez hx hq h2
theorem jb {x y:Operand} {a b c:ByteArray} {t t' :TypeId} (hx:ev s x=some (.string a)) (hy:ev s y=some (.string b)) (e:a++b=c) (h:a.size+b.size≤1000000000):VOp P w0 s H (.binOp .add t x y t') ty (.string c):=e ▸ Lo hx hy (by simp only [maxLen];omega)
theorem Bs {x y:Operand} {k:IntKind} {a b:Int} {t t' :TypeId} (hx:ev s x=some (.int k a)) (hy:ev s y=some (.int k b)):VOp P w0 s H (.binOp .mul t x y t') ty (.int k (k.wrap (a*b))):=fun ρ w _ _ _ _ hρ _=>by
 simp [execOp,hρ x _ hx,hρ y _ hy,eqGuard,binOp,Op.intArith]
theorem bP {x:Operand} {k k' :IntKind} {a c:Int} {t t' :TypeId} {d:TypeDesc} [hs:Und P t d] [hd:Und P t' (.int k')] (hx:ev s x=some (.int k a)) (hw:k'.wrap a=c):VOp P w0 s H (.convert t t' x) ty (.int k' c):=hw ▸ BA hx
theorem rR {x:Operand} {A:Addr} (hx:ev s x=some (.pointer (some A))):VOp P w0 s H (.nilCheck x) ty (.pointer (some A)):=fun ρ w _ _ _ _ hρ _=>by
 simp [execOp,hρ x _ hx]
theorem wQ {ι:Type} {id:Nat} {ops:Array Oper} {d:Bool} {y z:Code} (sI:ι→az) (HI:ι→List Blk) (ok:ι→Prop) (h:W P n w0 (.seq (.region id ops d) y) (bE sI HI ok Q) s H) (k: ∀ i,ok i→W P n w0 z Q (sI i) (HI i)):
  W P n w0 (.seq (.region id ops d) y) (thn (W P n w0 z Q) Q) s H:=
 nA _ _ _ h k
theorem nz {ι:Type} {id:Nat} {ops:Array Oper} {d:Bool} {z:Code} (sI:ι→az) (HI:ι→List Blk) (ok:ι→Prop) (h:W P n w0 (.region id ops d) (bE sI HI ok Q) s H) (k: ∀ i,ok i→W P n w0 z Q (sI i) (HI i)):
  W P n w0 (.region id ops d) (thn (W P n w0 z Q) Q) s H:=
 nA _ _ _ h k
theorem Dm {ι:Type} {sb:az} {id:Nat} {ops:Array Oper} {d:Bool} {y z:Code} (ts:List Nat) (hk:zO s ts=some sb) (sI:ι→az) (HI:ι→List Blk) (ok:ι→Prop) (h:W P n w0 (.seq (.region id ops d) y) (bE (fun i=>sI i++sb) HI ok Q) s H) (k: ∀ i,ok i→W P n w0 z Q (sI i++sb) (HI i)):
  W P n w0 (.seq (.region id ops d) y) (thn (W P n w0 z Q) Q) s H:=
 nA _ _ _ h k
end
abbrev vS (x:BitVec 64):Value:= .int .u64 (x.toNat:Int)
theorem rG (x:BitVec 64):IntKind.u64.wrap (x.toNat:Int)=x.toNat:=by
 rw [IntKind.wrap_u64];have:=x.isLt;omega
theorem jc (x:BitVec 64):BitVec.ofInt 64 (x.toNat:Int)=x:=by
 rw [BitVec.ofInt_natCast,BitVec.ofNat_toNat,BitVec.setWidth_eq]
theorem Io (a b:BitVec 64):((a.toNat:Int)==b.toNat)=decide (a=b):=by
 by_cases h:a=b
 ·
  subst h;simp
 ·
  rw [decide_eq_false h,beq_eq_false_iff_ne];intro h2;exact h (PL (by omega))
section
variable {P:Program} {n:Fr} {w0:World} {Q:bQ} {s:az} {H:List Blk} {l rest:List Oper} {ty:TypeId} {p:String} {af:Array Edge}
theorem ou {x y:Operand} {a b:BitVec 64} {t t' :TypeId} (hx:ev s x=some (vS a)) (hy:ev s y=some (vS b)):
  VOp P w0 s H (.binOp .and t x y t') ty (vS (a &&& b)):=by
 have h:Go.bits .and .u64 (a.toNat:Int) b.toNat=((a &&& b).toNat:Int):=by
  show IntKind.u64.wrap ((BitVec.ofInt 64 (a.toNat:Int) &&& BitVec.ofInt 64 (b.toNat:Int)).toNat:Int)=_
  rw [jc,jc,rG]
 unfold vS at hx hy ⊢
 rw [← h]
 clear h
 generalize (a.toNat:Int)=z at hx ⊢
 generalize (b.toNat:Int)=z2 at hy ⊢
 exact fun ρ w _ _ _ _ hρ _=>by simp [execOp,hρ x _ hx,hρ y _ hy,eqGuard,binOp,intBits_and]
theorem Ln {x y:Operand} {k:IntKind} {a b:Int} {t t' :TypeId} (hx:ev s x=some (.int k a)) (hy:ev s y=some (.int k b)):
  VOp P w0 s H (.binOp .and t x y t') ty (.int k (Go.bits .and k a b)):=fun ρ w _ _ _ _ hρ _=>by
 simp [execOp,hρ x _ hx,hρ y _ hy,eqGuard,binOp,intBits_and]
theorem dg {x y:Operand} {a b:BitVec 64} {t t' :TypeId} (hx:ev s x=some (vS a)) (hy:ev s y=some (vS b)):
  VOp P w0 s H (.binOp .or t x y t') ty (vS (a|||b)):=by
 have h:Go.bits .or .u64 (a.toNat:Int) b.toNat=((a|||b).toNat:Int):=by
  show IntKind.u64.wrap ((BitVec.ofInt 64 (a.toNat:Int)|||BitVec.ofInt 64 (b.toNat:Int)).toNat:Int)=_
  rw [jc,jc,rG]
 unfold vS at hx hy ⊢
 rw [← h]
 clear h
 generalize (a.toNat:Int)=z at hx ⊢
 generalize (b.toNat:Int)=z2 at hy ⊢
 exact fun ρ w _ _ _ _ hρ _=>by simp [execOp,hρ x _ hx,hρ y _ hy,eqGuard,binOp,intBits_or]
theorem dR {x y:Operand} {a b:BitVec 64} {t t' :TypeId} (hx:ev s x=some (vS a)) (hy:ev s y=some (vS b)):
  VOp P w0 s H (.binOp .andNot t x y t') ty (vS (a &&& ~~~b)):=by
 have h:Go.bits .andNot .u64 (a.toNat:Int) b.toNat=((a &&& ~~~b).toNat:Int):=by
  show IntKind.u64.wrap ((BitVec.ofInt 64 (a.toNat:Int) &&& ~~~BitVec.ofInt 64 (b.toNat:Int)).toNat:Int)=_
  rw [jc,jc,rG]
 unfold vS at hx hy ⊢
 rw [← h]
 clear h
 generalize (a.toNat:Int)=z at hx ⊢
 generalize (b.toNat:Int)=z2 at hy ⊢
 exact fun ρ w _ _ _ _ hρ _=>by simp [execOp,hρ x _ hx,hρ y _ hy,eqGuard,binOp,intBits_andNot]
theorem JA {x y:Operand} {k' :IntKind} {a:BitVec 64} {m:Nat} {t t' :TypeId} (hx:ev s x=some (vS a)) (hy:ev s y=some (.int k' (m:Nat))) (hm:m≤64):
  VOp P w0 s H (.binOp .shr t x y t') ty (vS (a>>>m)):=by
 have h:=Gt (P:=P) (w0:=w0) (H:=H) (ty:=ty) (t:=t) (t' :=t') hx hy (by simpa [IntKind.bits] using hm)
 have e:((a.toNat:Int) / 2 ^ m)=((a>>>m).toNat:Int):=by
  rw [BitVec.toNat_ushiftRight,Nat.shiftRight_eq_div_pow];norm_cast
 rwa [e] at h
theorem wT {x y:Operand} {k' :IntKind} {a:BitVec 64} {m:Nat} {t t' :TypeId} (hx:ev s x=some (vS a)) (hy:ev s y=some (.int k' (m:Nat))) (hm:m≤64):
  VOp P w0 s H (.binOp .shl t x y t') ty (vS (a<<<m)):=by
 have e:IntKind.u64.wrap ((a.toNat:Int)*2 ^ m)=((a<<<m).toNat:Int):=by
  rw [BitVec.toNat_shiftLeft,Nat.shiftLeft_eq,IntKind.wrap_u64]
  generalize a.toNat=u
  have h64:(2:Nat) ^ 64=18446744073709551616:=by decide
  rw [h64,Int.natCast_emod,Int.natCast_mul,Int.natCast_pow];rfl
 unfold vS at hx ⊢
 rw [← e]
 clear e
 generalize (a.toNat:Int)=z at hx ⊢
 have h0:(0:Int)≤(m:Int):=by omega
 have hb:min m IntKind.u64.bits=m:=O1 hm
 exact fun ρ w _ _ _ _ hρ _=>by simp [execOp,hρ x _ hx,hρ y _ hy,eqGuard,binOp,shift_shl_any .u64 k' z m h0,hb]
theorem Jy {x y:Operand} {a b:BitVec 64} {t t' :TypeId} (hx:ev s x=some (vS a)) (hy:ev s y=some (vS b)):
  VOp P w0 s H (.binOp .sub t x y t') ty (vS (a - b)):=by
 have e:IntKind.u64.wrap ((a.toNat:Int) - b.toNat)=((a - b).toNat:Int):=by
  rw [BitVec.toNat_sub,IntKind.wrap_u64]
  have h1:=a.isLt
  have h2:=b.isLt
  omega
 unfold vS at hx hy ⊢
 rw [← e]
 clear e
 generalize (a.toNat:Int)=z at hx ⊢
 generalize (b.toNat:Int)=z2 at hy ⊢
 exact fun ρ w _ _ _ _ hρ _=>by simp [execOp,hρ x _ hx,hρ y _ hy,eqGuard,binOp,Op.intArith]
theorem Dr {x y:Operand} {a b:BitVec 64} {t t' :TypeId} (hx:ev s x=some (vS a)) (hy:ev s y=some (vS b)):
  VOp P w0 s H (.binOp .eql t x y t') ty (.bool (decide (a=b))):=fun ρ w _ _ _ _ hρ _=>by
 have e:=Io a b
 simp [execOp,hρ x _ hx,hρ y _ hy,eqGuard,binOp,Op.intCmp,e,vS]
theorem ib {x y:Operand} {a b:BitVec 64} {t t' :TypeId} (hx:ev s x=some (vS a)) (hy:ev s y=some (vS b)):
  VOp P w0 s H (.binOp .neq t x y t') ty (.bool (!decide (a=b))):=fun ρ w _ _ _ _ hρ _=>by
 have e:=Io a b
 have e2:((a.toNat:Int)=b.toNat)↔a=b:=⟨fun h=>PL (by omega),fun h=>by rw [h]⟩
 simp [execOp,hρ x _ hx,hρ y _ hy,eqGuard,binOp,Op.intCmp,vS,bne,BEq.beq,e2]
end
def xT (n:Nat):BitVec 64:=(1#64<<<n) - 1#64
def fE (x:BitVec 64) (u:Int):Bool:=decide (0≤u) && decide (u<64) && x.getLsbD u.toNat
theorem JX (x:BitVec 64) (m:Nat):decide ((x>>>m) &&& 1#64=1#64)=x.getLsbD m:=by
 have h:(x>>>m) &&& 1#64=if x.getLsbD m then 1#64 else 0#64:=by
  apply PH
  intro i hi
  rw [PG,BitVec.getLsbD_ushiftRight]
  rcases i with _|i
  ·
   cases hx:x.getLsbD m<;>simp [hx]
  ·
   cases hx:x.getLsbD m<;>simp [BitVec.getLsbD_one]
 rw [h]
 cases x.getLsbD m<;>decide
def cX (x:Int):Value:= .int .i64 x
theorem vw {P:Program} {w0:World} {s:az} {H:List Blk} {ty t t' :TypeId} {x y:Operand} {a b:Int} {c:Bool} (h:decide (a=b)=c) (hx:ev s x=some (cX a)) (hy:ev s y=some (cX b)):
  VOp P w0 s H (.binOp .eql t x y t') ty (.bool c):=fun ρ w _ _ _ _ hρ _=>by
 subst h
 have e:(a==b)=decide (a=b):=by rw [NL];simp
 simp [execOp,hρ x _ hx,hρ y _ hy,eqGuard,binOp,Op.intCmp,cX,e]
theorem vv {P:Program} {w0:World} {s:az} {H:List Blk} {ty t t' :TypeId} {x y:Operand} {a b:Int} {c:Bool} (h:decide (a=b)=c) (hx:ev s x=some (cX a)) (hy:ev s y=some (cX b)):
  VOp P w0 s H (.binOp .neq t x y t') ty (.bool (!c)):=fun ρ w _ _ _ _ hρ _=>by
 subst h
 simp [execOp,hρ x _ hx,hρ y _ hy,eqGuard,binOp,Op.intCmp,cX,bne,BEq.beq]
end Go.SL
