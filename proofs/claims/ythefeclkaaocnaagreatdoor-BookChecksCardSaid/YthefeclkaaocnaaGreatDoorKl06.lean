/-
  Lemmas and walks, put together: Lx Tr.
-/
import Derived.Test.YthefeclkaaocnaaGreatDoorKl03
set_option linter.unusedSimpArgs false
set_option linter.unusedVariables false
set_option maxRecDepth 20000
namespace Go.SL
open Go
def aC (c:Int):Bool:=decide (48≤c) && decide (c≤57)
def bH (c:Int):Bool:=(decide (65≤c) && decide (c≤90))||(decide (97≤c) && decide (c≤122))
def cC (c:Int):Bool:=bH c||aC c
def upC (c:Int):Int:=if 97≤c∧c≤122 then c - 32 else c
def aB (p:Int→Bool):List Int→Nat
 | []=>0
 |c::r=>if p c then aB p r+1 else 0
def bn:List Int→Int→Int
 | [],v=>v
 |c::r,v=>bn r (10*v+(c - 48))
def cf:Int:=9223372036854775807
def mkB (l:List Int):ByteArray:=⟨(l.map fun n=>UInt8.ofNat n.toNat).toArray⟩
def bN (l:List Int):Nat:=match l with
 |46::r=>aB aC r
 |_=>0
def jh (l:List Int):Option (Int × Nat):=
 let w:=aB aC l
 let p:=bN (l.drop w)
 if w=0∨4<p then none
 else
  let v:=bn (l.take w++(l.drop (w+1)).take p++List.replicate (4 - p) 48) 0
  if cf<v then none else some (v,if p=0 then w else w+1+p)
def i9:List Int→Option (List Int × Nat)
 | []=>none
 |c::r=>
  if c≠34 then (i9 r).map fun x=>(c::x.1,x.2+1)
  else match r with
   | []=>some ([],1)
   |d::r' =>if d=34 then (i9 r').map fun x=>(34::x.1,x.2+2) else some ([],1)
def bk:List Int→Int→Int
 | [],v=>v
 |c::r,v=>bk r (min (26*v+(upC c - 64)) 1025)
def kJ:List Int→Int→Int
 | [],v=>v
 |c::r,v=>kJ r (min (10*v+(c - 48)) 1025)
def bT (l:List Int):Int × Int × Int:=
 let a:=l.takeWhile bH
 let d:=l.dropWhile bH
 if a= []∨d= []∨d.head? =some 48∨d.all aC=false then (0,0,4)
 else if 1024<bk a 0∨1024<kJ d 0 then (0,0,3)
 else (bk a 0,kJ d 0,0)
def II (c r:Int):Rct:=⟨c,r,c,r⟩
def dg:List (List Int):= [[35,68,73,86,47,48,33],[35,86,65,76,85,69,33],[35,78,85,77,33],[35,78,47,65],[35,82,69,70,33]]
def iW (l:List Int):List (List Int)→Int→Option (Int × Nat)
 | [],_=>none
 |s::r,code=>if (l.take s.length).map upC=s then some (code,s.length) else iW l r (code+1)
def dU:List (List Int × Int):= [([60,62],8),([60,61],10),([62,61],12),([43],1),([45],2),([42],3),([47],4),([94],5),([38],6),([61],7),([60],9),([62],11),([37],13)]
def opL (l:List Int):List (List Int × Int)→Option (Int × Nat)
 | []=>none
 |(s,k)::r=>if l.take s.length=s then some (k,s.length) else opL l r
def bp (c:Int):Bool:=decide (32≤c) && decide (c≤126)
structure STree where
 ns:List Nd
 d:Nat
def STree.kind (S:STree):Int:=((S.ns.getLast?).map Nd.kind).getD 0
def Ly (n:Nd) (i:Int) (k:Int):Bool:= !(decide (k=3) && !yw n i) && !(decide (n.kind=7) && gx n.fn && decide (k≠2) && decide (k≠3))
def Gu (n:Nd):Int→List STree→Bool
 |_,[]=>true
 |i,S::r=>Ly n i S.kind && Gu n (i+1) r
def F9 (st:List STree) (k:Nat):List STree:=st.drop (st.length - k)
def Bz (top:List STree):Nat:=top.foldl (fun d S=>max d (S.d+1)) 1
def uK (st:List STree):List Nd:=st.flatMap STree.ns
def CJ (n:Nd) (top:List STree):STree:=⟨uK top++ [n],Bz top⟩
def KY (n:Nd) (st:List STree):Int ⊕ (List STree × List STree):=
 if cK n≠0 then .inl (cK n)
 else if (st.length:Int)<below n∨Gu n 0 (F9 st (below n).toNat)=false then .inl 4
 else if 32<Bz (F9 st (below n).toNat) then .inl 9
 else .inr (st.take (st.length - (below n).toNat),F9 st (below n).toNat)
abbrev BN:=List (List STree × STree)
def Jq:List Nd→List STree→BN→Int × List STree × BN
 | [],st,h=>(if st.length=1 then 0 else 4,st,h)
 |n::r,st,h=>match KY n st with
  | .inl e=>(e,st,h)
  | .inr (lo,top)=>Jq r (lo++ [CJ n top]) (h++ [(top,CJ n top)])
inductive Good:STree→Prop
 |mk (n:Nd) (top:List STree) (hg: ∀ S∈top,Good S) (hf:cK n=0) (hb:(top.length:Int)=Go.SL.below n) (hfit:Gu n 0 top=true) (hd:Bz top≤32):Good (CJ n top)
def jN:Nat→List STree→List Nat
 |_,[]=> []
 |o,S::r=>(o+S.ns.length - 1)::jN (o+S.ns.length) r
def lo (i:Nat) (x:List STree × STree):Nat:=i+1 - x.2.ns.length
def rN (i:Nat) (x:List STree × STree):List Nat:=jN (lo i x) x.1
structure Inv (dn:List Nd) (st:List STree) (h:BN):Prop where
 mQ:uK st=dn
 good: ∀ S∈st,Good S
 len:h.length=dn.length
 node: ∀ i x,h[i]? =some x→ ∃ n,dn[i]? =some n∧x.2=CJ n x.1∧(∀ T∈x.1,Good T)∧Good x.2∧x.2.ns.length≤i+1∧(dn.take (i+1)).drop (lo i x)=x.2.ns
 deep: ∀ x∈h,∃ S∈st,x.2.d≤S.d
 cut: ∀ a b,st=a++b→ ∀ j x,h[j]? =some x→(uK a).length≤j→(uK a).length≤lo j x
 lam: ∀ i j x y,h[i]? =some x→h[j]? =some y→j≤i→lo i x≤j→lo i x≤lo j y
 mid: ∀ i j x y,h[i]? =some x→h[j]? =some y→ ∀ k∈rN j y,k<i→i<j→k<lo i x
 up: ∀ k<h.length,k∈jN 0 st∨ ∃ j y,h[j]? =some y∧k∈rN j y
 apart: ∀ j y,h[j]? =some y→ ∀ k∈rN j y,k∉jN 0 st
 one: ∀ i j x y,h[i]? =some x→h[j]? =some y→ ∀ k,k∈rN i x→k∈rN j y→i=j
end Go.SL
