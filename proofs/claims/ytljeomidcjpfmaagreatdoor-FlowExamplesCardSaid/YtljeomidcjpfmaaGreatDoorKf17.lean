/-
  Lemmas and walks, put together: D12 E2 K1 Lq Lr Q1 Q2 Q3 Q4 Q5 W15 W16 W17 Rw Lc R1 W31 W32 Tr Tr2 W18 W19 W20 W21 W22 Tr5 W36 W37 R2 R3 R4 R5 R6 R7 R8 R9 R10 R11 R12 Q6 Q7 Oq Q8 Q9 W33 W34 Lu Gu Q10 Q11 Q12 Q13 Q14 Q15 Ex L1 D13 G1a G1 L2 Lo Fd Fc Sl29.
-/
import Derived.ChangeKeysEq
import Derived.Laws.Bits64
import Derived.OpenShut
import Derived.ProofKit
import Derived.Carry
import Derived.Deep.Slices
import Derived.LaidMore
import Derived.Lay
import Derived.SevenTiedAt
import Derived.Stop.Joined
import Derived.Test.YtljeomidcjpfmaaGreatDoorRows
import Derived.Test.YtljeomidcjpfmaaGreatDoorTie
import Derived.Test.YtljeomidcjpfmaaGreatDoorCards
import Derived.Test.YtljeomidcjpfmaaGreatDoorKf16
set_option linter.unusedSimpArgs false
set_option linter.unusedVariables false
set_option maxRecDepth 20000
namespace Go.SL
open Go Go.Proofs
attribute [local irreducible] W WL WQ WG WA WX WLI WR WT WC VOp RW thn blk cutP scp retP retPP endB FnAt FnIn FnP ceP
structure Et where
 at_:Rf
 input:ByteArray
def encEt (e:Et):List Value:= [.int .i64 e.at_.col,.int .i64 e.at_.row,.string e.input]
theorem encEt_len (e:Et):(encEt e).length=3:=rfl
def faultOf (b:Option Rf) (e:Et):Int:=if e.at_.valid=false then 3 else if (match b with|some p=>lessF p e.at_|none=>true)=false then 12 else if e.input=emptyB then 2 else (ofP e.input).2.2
def checkFrom:Nat→Option Rf→List Et→Int × Int
 |_,_,[]=>(0,0)
 |i,b,e::r=>if faultOf b e≠0 then ((i:Int),faultOf b e) else checkFrom (i+1) (some e.at_) r
def checkEt (L:List Et):Int × Int:=checkFrom 0 none L
def befEt (L:List Et) (i:Nat):Option Rf:=if i=0 then none else (L[i - 1]?).map Et.at_
set_option maxHeartbeats 2000000 in
theorem entryCheck_at (L : List Et) (tv : Value) (w : World) (ht : Reads w tv L.length (L.flatMap encEt)) (hlen : L.length ≤ 1000000) (hW : Words w) :
    Pure Tryz.prog 72 [tv] w (.tuple #[.int .i64 (checkEt L).1, .int .i64 (checkEt L).2]) := by
  obtain ⟨Al, cl, rfl, hl1, hl2, hl3⟩ := ht
  refine fn_at Tryz.func72 rfl Tryz.ntmps72 rfl ?_
  repeat' (first | refine sT ?_ | refine sS ?_ | refine sM fun _ => ?_ | (refine sC ?_ ?_ <;> intro hb <;> try omega) | fail)
  refine w_loopK [0, 2, 3, 9, 10] rfl (fun i : Nat => [(11, .int .i64 (i : Int))]) (fun _ => []) (fun i => i ≤ L.length ∧ checkEt L = checkFrom i (befEt L i) (L.drop i)) (fun i => L.length - i) 0 ⟨by omega, rfl⟩ sB (.refl _) ?_
  rintro i ⟨hi, hck⟩
  by_cases hlt : i < L.length
  · obtain ⟨gl, ol, rfl, hrl⟩ := hl3 (by omega)
    have he := hrl.elem encEt_len i hlt
    have hprev : ∀ h : 0 < i, Ro w gl (ol + (i - 1) * 3) (encEt L[i - 1]) := fun h => hrl.elem encEt_len (i - 1) (by omega)
    have hbef : ∀ h : 0 < i, befEt L i = some L[i - 1].at_ := fun h => by unfold befEt; rw [if_neg (by omega), List.getElem?_eq_getElem (by omega)]; rfl
    have hbef0 : i = 0 → befEt L i = none := fun h => by unfold befEt; rw [if_pos h]
    have hnext : befEt L (i + 1) = some L[i].at_ := by unfold befEt; rw [if_neg (by omega), Nat.add_sub_cancel, List.getElem?_eq_getElem hlt]; rfl
    rw [List.drop_eq_getElem_cons hlt, checkFrom, ← hnext] at hck
    generalize L[i] = e at he hck
    have hV : ∀ w', Pure Tryz.prog 87 [.agg (encF e.at_).toArray] w' (.bool e.at_.valid) := fun w' => valid_at e.at_.col e.at_.row w'
    have hO := fun (w' : World) (H' : List Blk) (hm : Mem w w' H') => Of_at e.input w' (hW.next hm)
    by_cases h0 : 0 < i
    · have hp := hprev h0
      rw [hbef h0] at hck
      generalize L[i - 1] = b at hp hck
      have hL := fun w' => Less_at b.at_ e.at_ w'
      unfold faultOf at hck
      simp only at hck
      have hofV : ∀ (A : Option Nat) (cap : Nat), ofV A cap (ofP e.input) = .tuple #[.agg (encM (ofP e.input).1 (sl A (ofP e.input).1.tree.length cap)).toArray, .int .i64 (ofP e.input).2.1, .int .i64 (ofP e.input).2.2] := fun _ _ => rfl
      simp only [hofV] at hO
      generalize ofP e.input = o at hO hck
      obtain ⟨⟨f1, f2, f3⟩, oa, oe⟩ := o
      simp only [encM] at hO
      simp only at hck
      generalize e.at_.valid = vd at hV hck
      generalize lessF b.at_ e.at_ = ls at hL hck
      repeat' (first | ((with_reducible apply wl_v (d := 14)); exact rfl; (with_reducible apply v_indexAddr); exact rfl; exact rfl; exact hlt) | ((with_reducible apply wl_v (d := 15)); exact rfl; (with_reducible apply v_loadw_ro); exact rfl; exact he; exact rfl) | ((with_reducible apply wc_v (d := 29)); (iterate 3 exact rfl); (with_reducible apply v_loads_ro (o := ol + (i - 1) * 3) (off := 0) hp (ys := encF b.at_)); (iterate 3 exact rfl)) | ((with_reducible apply wl_callp); exact rfl; exact rfl; (intro w hm; exact hV w)) | ((with_reducible apply (w_drawC0 (id := 6) [11] [])); kernel_rfl; kernel_rfl; kernel_rfl) | ((with_reducible apply wc_v); (iterate 3 exact rfl); (with_reducible apply v_indexAddr (j := i - 1)); exact rfl; exact rfl; omega) | ((with_reducible apply wl_callp (f := 81)); exact rfl; exact rfl; (intro w' hm; exact hL w')) | ((with_reducible apply wl_call (f := 108)); exact rfl; exact rfl; (intro w' hm; exact hO w' _ hm); rintro _ _ ⟨A, cap, rfl, rfl⟩) | refine sT ?_ | refine sS ?_ | refine sW ?_ | refine sN ?_ | refine sWN ?_ | refine sM fun _ => ?_ | (refine sC ?_ ?_ <;> intro hb <;> try omega) | (refine sCW ?_ ?_ <;> intro hb <;> try omega) | fail)
      all_goals clear hofV
      all_goals first
        | (refine ret2 eIO rfl rfl rfl (.nil _) ?_; rw [hck]; simp_all [emptyB]; done)
        | (refine ⟨i + 1, ⟨hlt, ?_⟩, by omega, ?_, ?_, .nil _⟩
           · rw [hck]; simp_all [emptyB]
           · exact sB
           · exact sB)
    · have h00 : i = 0 := by omega
      rw [hbef0 h00] at hck
      unfold faultOf at hck
      simp only at hck
      have hofV : ∀ (A : Option Nat) (cap : Nat), ofV A cap (ofP e.input) = .tuple #[.agg (encM (ofP e.input).1 (sl A (ofP e.input).1.tree.length cap)).toArray, .int .i64 (ofP e.input).2.1, .int .i64 (ofP e.input).2.2] := fun _ _ => rfl
      simp only [hofV] at hO
      generalize ofP e.input = o at hO hck
      obtain ⟨⟨f1, f2, f3⟩, oa, oe⟩ := o
      simp only [encM] at hO
      simp only at hck
      generalize e.at_.valid = vd at hV hck
      repeat' (first | ((with_reducible apply wl_v (d := 14)); exact rfl; (with_reducible apply v_indexAddr); exact rfl; exact rfl; exact hlt) | ((with_reducible apply wl_v (d := 15)); exact rfl; (with_reducible apply v_loadw_ro); exact rfl; exact he; exact rfl) | ((with_reducible apply wl_callp); exact rfl; exact rfl; (intro w hm; exact hV w)) | ((with_reducible apply (w_drawC0 (id := 6) [11] [])); kernel_rfl; kernel_rfl; kernel_rfl) | ((with_reducible apply wl_call (f := 108)); exact rfl; exact rfl; (intro w' hm; exact hO w' _ hm); rintro _ _ ⟨A, cap, rfl, rfl⟩) | refine sT ?_ | refine sS ?_ | refine sW ?_ | refine sN ?_ | refine sWN ?_ | refine sM fun _ => ?_ | (refine sC ?_ ?_ <;> intro hb <;> try omega) | (refine sCW ?_ ?_ <;> intro hb <;> try omega) | fail)
      all_goals clear hofV
      all_goals first
        | (refine ret2 eIO rfl rfl rfl (.nil _) ?_; rw [hck]; simp_all [emptyB]; done)
        | (refine ⟨i + 1, ⟨hlt, ?_⟩, by omega, ?_, ?_, .nil _⟩
           · rw [hck]; simp_all [emptyB]
           · exact sB
           · exact sB)
  · have e2 : i = L.length := by omega
    subst e2
    rw [List.drop_length, checkFrom] at hck
    repeat' (first | refine sT ?_ | refine sS ?_ | refine sM fun _ => ?_ | (refine sC ?_ ?_ <;> intro hb <;> try omega) | fail)
    all_goals (refine ret2 eIO rfl rfl rfl (.nil _) ?_; rw [hck])
def newL:Gr→List Et→Option Gr × Int
 |G,[]=>(some G,0)
 |G,e::r=>if (setG G e.at_ e.input).2≠0 then (none,(setG G e.at_ e.input).2) else newL (setG G e.at_ e.input).1 r
def newG (L:List Et):Option Gr × Int:=if (checkEt L).2≠0 then (none,(checkEt L).2) else newL [] L
def NewR (r:Option Gr × Int) (v:Value) (H:List Blk):Prop:=match r with
 |(none,e)=>v= .tuple #[.pointer none,.int .i64 e]∧H= []
 |(some G,_)=> ∃ gg gm E clock R,v= .tuple #[.pointer (some ⟨gg,0,none⟩),.int .i64 0]∧H=gB gg gm (E.map En.m) clock++R∧GOk R E clock G
set_option maxHeartbeats 2000000 in
theorem New_at (L:List Et) (tv:Value) (w:World) (ht:Reads w tv L.length (L.flatMap encEt)) (hlen:L.length≤1000000) (hW:Words w):
  FnAt Tryz.prog 31 [tv] w (NewR (newG L)):=by
 have hC:=fun (w' :World) (H:List Blk) (hm:Mem w w' H)=>entryCheck_at L tv w' (ht.of_w0 hm) hlen (hW.next hm)
 obtain ⟨Al,cl,rfl,hl1,hl2,hl3⟩:=ht
 refine fn_at Tryz.func31 rfl Tryz.ntmps31 rfl ?_
 unfold newG
 generalize checkEt L=c at hC
 obtain ⟨ci,ce⟩:=c
 dsimp only at hC ⊢
 by_cases hce:ce≠0
 ·
  rw [if_pos hce]
  repeat' (first|((with_reducible apply wl_callp (f:=72));exact rfl;exact rfl;(intro w' hm;exact hC w' _ hm))|refine sT ?_|refine sS ?_|refine sM fun _=> ?_|(refine sC ?_ ?_<;>intro hb<;>try omega)|fail)
  all_goals exact ret2 eIO rfl rfl rfl (.nil _) ⟨rfl,rfl⟩
 rw [if_neg hce]
 have hce0:ce=0:=by omega
 subst hce0
 repeat' (first|((with_reducible apply wl_callp (f:=72));exact rfl;exact rfl;(intro w' hm;exact hC w' _ hm))|((with_reducible apply wl_makeMap (enc:=keyF));exact rfl;intro gm)|refine sT ?_|refine sS ?_|refine sM fun _=> ?_|(refine sC ?_ ?_<;>intro hb<;>try omega)|fail)
 rename_i gg
 refine w_loopK [6,21,22] rfl (fun x:Nat × List En × Nat × Gr × List Blk=> [(23,.int .i64 (x.1:Int))]) (fun x=>gB gg gm (x.2.1.map En.m) x.2.2.1++x.2.2.2.2) (fun x=>x.1≤L.length∧GOk x.2.2.2.2 x.2.1 x.2.2.1 x.2.2.2.1∧newL [] L=newL x.2.2.2.1 (L.drop x.1)) (fun x=>L.length - x.1) (0,[],0,[],[]) ⟨by simp,gok_nil [],rfl⟩ sB (by unfold gB;exact mS) ?_
 rintro ⟨i,E,clock,G,R⟩ ⟨hi,hG,hnew⟩
 dsimp only at hi hG hnew ⊢
 by_cases hlt:i<L.length
 ·
  obtain ⟨gl,ol,rfl,hrl⟩:=hl3 (by omega)
  have he:=hrl.elem encEt_len i hlt
  rw [List.drop_eq_getElem_cons hlt,newL] at hnew
  generalize L[i]=e at he hnew
  have hS:=Set_in gg gm clock E G e.at_ e.input R w hG hW
  generalize setG G e.at_ e.input=sg at hS hnew
  obtain ⟨G',se⟩:=sg
  dsimp only at hS hnew
  repeat' (first|((with_reducible apply wl_v (d:=25));exact rfl;(with_reducible apply v_indexAddr);exact rfl;exact rfl;exact hlt)|((with_reducible apply wl_v (d:=26));exact rfl;(with_reducible apply v_loadw_ro);exact rfl;exact he;exact rfl)|((with_reducible apply wl_callin (f:=33));exact rfl;exact rfl;exact FnIn.msub hS (by unfold gB;exact mS);rintro _ _ ⟨rfl,E',clock',R',rfl,hsub,hG'⟩)|refine sT ?_|refine sS ?_|refine sN ?_|refine sM fun _=> ?_|(refine sC ?_ ?_<;>intro hb<;>try omega)|fail)
  ·
   rw [hnew,if_pos (by assumption)]
   exact ret2 eIO rfl rfl rfl (.nil _) ⟨rfl,rfl⟩
  ·
   rw [if_neg (by assumption)] at hnew
   refine ⟨(i+1,E',clock',G',R'),⟨hlt,hG',hnew⟩,(by dsimp only;omega),sB,sB,?_⟩
   unfold gB
   exact mS
 ·
  have e2:i=L.length:=by omega
  subst e2
  rw [List.drop_length,newL] at hnew
  rw [hnew]
  repeat' (first|refine sT ?_|refine sS ?_|refine sM fun _=> ?_|(refine sC ?_ ?_<;>intro hb<;>try omega)|fail)
  all_goals exact ret2 eIO rfl rfl rfl (MSub.refl _) ⟨gg,gm,E,clock,R,rfl,rfl,hG⟩
section
variable {w0:World} {s:Slots} {H:List Blk} {ty t' :TypeId} {x y:Operand}
theorem v_eqlR_to {a b:Rct} {c:Bool} (h:decide (a=b)=c) (hx:ev s x=some (.agg (encR a).toArray)) (hy:ev s y=some (.agg (encR b).toArray)):VOp Tryz.prog w0 s H (.binOp .eql 33 x y t') ty (.bool c):=by
 have h1:=v_eqlR (w0:=w0) (H:=H) (ty:=ty) (t' :=t') hx hy
 rwa [eqR_dec,h] at h1
theorem v_neqR_to {a b:Rct} {c:Bool} (h:decide (a=b)=c) (hx:ev s x=some (.agg (encR a).toArray)) (hy:ev s y=some (.agg (encR b).toArray)):VOp Tryz.prog w0 s H (.binOp .neq 33 x y t') ty (.bool (!c)):=by
 have h1:=v_neqR (w0:=w0) (H:=H) (ty:=ty) (t' :=t') hx hy
 rwa [eqR_dec,h] at h1
end
end Go.SL
namespace Go.SL
open Go Go.Proofs
attribute [local irreducible] W WL WQ WG WA VOp thn blk cutP retP FnAt FnIn Held
def aT:List Nd:= [k2,k3,j7,k6]
section
variable (w:World) (tv:Value) (h:Reads w tv 4 (aT.flatMap encN))
include h
end
end Go.SL
namespace Go.SL
open Go
structure STree where
 ns:List Nd
 d:Nat
def STree.kind (S:STree):Int:=((S.ns.getLast?).map Nd.kind).getD 0
def fit1 (n:Nd) (i:Int) (k:Int):Bool:= !(decide (k=3) && !mayAt n i) && !(decide (n.kind=7) && releasedF n.fn && decide (k≠2) && decide (k≠3))
def fitsF (n:Nd):Int→List STree→Bool
 |_,[]=>true
 |i,S::r=>fit1 n i S.kind && fitsF n (i+1) r
def lastK (st:List STree) (k:Nat):List STree:=st.drop (st.length - k)
def depthF (top:List STree):Nat:=top.foldl (fun d S=>max d (S.d+1)) 1
def flatS (st:List STree):List Nd:=st.flatMap STree.ns
def nodeF (n:Nd) (top:List STree):STree:=⟨flatS top++ [n],depthF top⟩
def stepF (n:Nd) (st:List STree):Int ⊕ (List STree × List STree):=
 if fieldsE n≠0 then .inl (fieldsE n)
 else if (st.length:Int)<below n∨fitsF n 0 (lastK st (below n).toNat)=false then .inl 4
 else if 32<depthF (lastK st (below n).toNat) then .inl 9
 else .inr (st.take (st.length - (below n).toNat),lastK st (below n).toNat)
abbrev Hist:=List (List STree × STree)
def walkF:List Nd→List STree→Hist→Int × List STree × Hist
 | [],st,h=>(if st.length=1 then 0 else 4,st,h)
 |n::r,st,h=>match stepF n st with
  | .inl e=>(e,st,h)
  | .inr (lo,top)=>walkF r (lo++ [nodeF n top]) (h++ [(top,nodeF n top)])
inductive Good:STree→Prop
 |mk (n:Nd) (top:List STree) (hg: ∀ S∈top,Good S) (hf:fieldsE n=0) (hb:(top.length:Int)=Go.SL.below n) (hfit:fitsF n 0 top=true) (hd:depthF top≤32):Good (nodeF n top)
def rootsFrom:Nat→List STree→List Nat
 |_,[]=> []
 |o,S::r=>(o+S.ns.length - 1)::rootsFrom (o+S.ns.length) r
def lo (i:Nat) (x:List STree × STree):Nat:=i+1 - x.2.ns.length
def kidsH (i:Nat) (x:List STree × STree):List Nat:=rootsFrom (lo i x) x.1
structure Inv (dn:List Nd) (st:List STree) (h:Hist):Prop where
 flat:flatS st=dn
 good: ∀ S∈st,Good S
 len:h.length=dn.length
 node: ∀ i x,h[i]? =some x→ ∃ n,dn[i]? =some n∧x.2=nodeF n x.1∧(∀ T∈x.1,Good T)∧Good x.2∧x.2.ns.length≤i+1∧(dn.take (i+1)).drop (lo i x)=x.2.ns
 deep: ∀ x∈h,∃ S∈st,x.2.d≤S.d
 cut: ∀ a b,st=a++b→ ∀ j x,h[j]? =some x→(flatS a).length≤j→(flatS a).length≤lo j x
 lam: ∀ i j x y,h[i]? =some x→h[j]? =some y→j≤i→lo i x≤j→lo i x≤lo j y
 mid: ∀ i j x y,h[i]? =some x→h[j]? =some y→ ∀ k∈kidsH j y,k<i→i<j→k<lo i x
 up: ∀ k<h.length,k∈rootsFrom 0 st∨ ∃ j y,h[j]? =some y∧k∈kidsH j y
 apart: ∀ j y,h[j]? =some y→ ∀ k∈kidsH j y,k∉rootsFrom 0 st
 one: ∀ i j x y,h[i]? =some x→h[j]? =some y→ ∀ k,k∈kidsH i x→k∈kidsH j y→i=j
structure RootOk (st:List STree) (h:Hist):Prop where
 root: ∀ a S b,st=a++S::b→ ∃ top,h[(flatS a).length+S.ns.length - 1]? =some (top,S)
 kid: ∀ j y,h[j]? =some y→ ∀ a S b,y.1=a++S::b→ ∃ top,h[lo j y+(flatS a).length+S.ns.length - 1]? =some (top,S)
def setAll (o:List Int) (ks:List Nat) (v:Int):List Int:=ks.foldl (fun o k=>o.set k v) o
def parStep (o:List Int) (x:(List STree × STree) × Nat):List Int:=setAll (o++ [-1]) (kidsH x.2 x.1) (x.2:Int)
def parH (h:Hist):List Int:=h.zipIdx.foldl parStep []
structure ParOk (st:List STree) (h:Hist):Prop where
 len:(parH h).length=h.length
 kid: ∀ j y,h[j]? =some y→ ∀ k∈kidsH j y,(parH h)[k]? =some (j:Int)
 root: ∀ k∈rootsFrom 0 st,(parH h)[k]? =some (-1)
structure Whole (L:List Nd) (S:STree) (h:Hist):Prop where
 walk:walkF L [] []=(0,[S],h)
 ns:S.ns=L
 good:Good S
 inv:Inv L [S] h
 rootOk:RootOk [S] h
 parOk:ParOk [S] h
 pos:0<L.length
 last: ∃ top,h[L.length - 1]? =some (top,S)
end Go.SL
namespace Go.SL
open Go Go.Proofs
attribute [local irreducible] W WL WQ WG WA VOp thn blk cutP retP FnAt FnIn Held
theorem rectOk_iff (r:Rct):rectOk r=true↔1≤r.c1∧r.c1≤1024∧1≤r.r1∧r.r1≤1024∧1≤r.c2∧r.c2≤1024∧1≤r.r2∧r.r2≤1024∧r.c1≤r.c2∧r.r1≤r.r2:=by
 simp only [rectOk,valid,Bool.and_eq_true,decide_eq_true_eq]
 omega
theorem touch_iff (r:Rct) (u:Us):touch r u=true↔rectOk u.rect=true∧rectOk r=true∧u.rect.c1≤r.c2∧r.c1≤u.rect.c2∧u.rect.r1≤r.r2∧r.r1≤u.rect.r2:=by
 have h:touch r u= [u.rect,r,meetM u.rect r].all rectOk:=by
  unfold touch meetR
  cases [u.rect,r,meetM u.rect r].all rectOk<;>simp
 rw [h]
 simp only [List.all_cons,List.all_nil,Bool.and_true,Bool.and_eq_true,rectOk_iff]
 generalize u.rect=a
 unfold meetM
 dsimp only
 repeat' split
 all_goals omega
theorem walkT_fields (L:List Nd): ∀ (r:List Nd) (i:Nat) (st:List Pt) (vs:List Visit),(walkT L r i st vs).1=0→ ∀ n∈r,fieldsE n=0
 | [],_,_,_=>fun _ _ h=>by cases h
 |n::r,i,st,vs=>by
  intro h
  rw [walkT] at h
  have hn:fieldsE n=0:=by
   by_cases hf:fieldsE n=0
   ·
    exact hf
   ·
    unfold stepT at h
    rw [if_pos hf] at h
    exact h
  cases hs:stepT L n i st with
  |inl e=>
   rw [hs] at h
   dsimp only at h
   unfold stepT at hs
   rw [if_neg (by omega)] at hs
   split at hs
   ·
    injection hs with hs;omega
   ·
    split at hs
    ·
     injection hs with hs;omega
    ·
     cases hs
  |inr y=>
   obtain ⟨st',kids,d⟩:=y
   rw [hs] at h
   intro m hm
   rcases List.mem_cons.1 hm with rfl|hm
   ·
    exact hn
   ·
    exact walkT_fields L r _ _ _ h m hm
theorem check_fields {L:List Nd} (h:checkE L=0): ∀ n∈L,fieldsE n=0:=by
 refine walkT_fields L L 0 [] [] ?_
 unfold checkE checkT at h
 split at h
 ·
  cases h
 split at h
 ·
  cases h
 split at h
 ·
  rename_i h3
  exact absurd h h3
 ·
  rename_i h3
  omega
theorem fields_rect {n:Nd} (h:fieldsE n=0) (hr:rangesF n=true):rectOk n.rect=true:=by
 unfold fieldsE at h
 split at h
 ·
  cases h
 rename_i hk
 have hk1:kindOk n=true:=by
  cases hh:kindOk n
  ·
   exact absurd (Or.inl hh) hk
  ·
   rfl
 simp only [rangesF,Bool.or_eq_true,decide_eq_true_eq] at hr
 unfold kindOk at hk1
 rw [if_neg (by omega),if_pos hr] at hk1
 simp only [Bool.and_eq_true,decide_eq_true_eq] at hk1
 have h1:=hk1.1
 unfold rectE at h1
 cases hq:rectOk n.rect
 ·
  rw [hq] at h1;cases h1
 ·
  rfl
theorem rectE_ne {r:Rct}:rectE r≠0↔rectOk r=false:=by unfold rectE;cases rectOk r<;>simp
end Go.SL
namespace Go.SL
open Go
theorem usesFrom_rect: ∀ (L:List Nd) (i:Nat),∀ u∈usesFrom L i,∃ n∈L,rangesF n=true∧u.rect=n.rect
 | [],_,u,h=>by cases h
 |n::r,i,u,h=>by
  rw [usesFrom] at h
  cases hr:rangesF n with
  |false=>
   rw [hr,cond_false] at h
   obtain ⟨m,hm,h1,h2⟩:=usesFrom_rect r (i+1) u h
   exact ⟨m,List.mem_cons_of_mem _ hm,h1,h2⟩
  |true=>
   rw [hr,cond_true] at h
   rcases List.mem_cons.1 h with rfl|h
   ·
    refine ⟨n,List.mem_cons_self,hr,?_⟩
    unfold useOf
    cases r with
    |nil=>rfl
    |cons m q=>dsimp only;split<;>rfl
   ·
    obtain ⟨m,hm,h1,h2⟩:=usesFrom_rect r (i+1) u h
    exact ⟨m,List.mem_cons_of_mem _ hm,h1,h2⟩
theorem uses_rect {L:List Nd} (h:checkE L=0): ∀ u∈usesF L,rectOk u.rect=true:=fun u hu=>by
 obtain ⟨n,hn,h1,h2⟩:=usesFrom_rect L 0 u hu
 rw [h2]
 exact fields_rect (check_fields h n hn) h1
structure EntOk (e:Rf × List Nd × List Us):Prop where
 at_:e.1.valid=true
 tree:checkE e.2.1=0
 uses:e.2.2=usesF e.2.1
 len:e.2.1.length≤256
theorem EntOk.rect {e:Rf × List Nd × List Us} (h:EntOk e): ∀ u∈e.2.2,rectOk u.rect=true:=by
 rw [h.uses];exact uses_rect h.tree
structure GrOk (G:Gr):Prop where
 sort:SortG G
 ent: ∀ e∈G,EntOk e
theorem grOk_nil:GrOk []:=⟨sortG_nil,fun _ h=>by cases h⟩
theorem GrOk.set {G:Gr} (h:GrOk G) (a:Rf) (b:ByteArray):GrOk (setG G a b).1:=by
 refine ⟨sortG_set h.sort a b,?_⟩
 unfold setG
 split
 ·
  exact h.ent
 ·
  rename_i hv
  split
  ·
   exact h.ent
  ·
   rename_i he
   split
   ·
    exact fun e he=>h.ent e (mem_delG.1 he).1
   ·
    rename_i hf
    intro e hm
    rcases mem_insG.1 hm with rfl|⟨hm,_⟩
    ·
     exact ⟨by simpa using hv,ofP_tree (by simpa using he) (by simpa using hf),rfl,ofP_len b⟩
    ·
     exact h.ent e hm
theorem valid_iff {c r:Int}:valid c r=true↔1≤c∧c≤1024∧1≤r∧r≤1024:=by
 simp only [valid,Bool.and_eq_true,decide_eq_true_eq]
 omega
theorem rect_one {c r:Int}:rectOk (oneA c r)=valid c r:=by
 rw [Bool.eq_iff_iff,rectOk_iff,valid_iff]
 simp only [oneA]
 omega
theorem has_touch {u:Us} {a:Rf} (hu:rectOk u.rect=true) (ha:a.valid=true):hasR u.rect a=touch (oneA a.col a.row) u:=by
 rw [Bool.eq_iff_iff,touch_iff,rect_one]
 have hv:valid a.col a.row=true:=ha
 simp only [hasR,Bool.and_eq_true,decide_eq_true_eq,oneA,hu,hv,true_and]
 omega
theorem lookG_mem {G:Gr} (h:SortG G) {e:Rf × List Nd × List Us} (he:e∈G):lookG G e.1=some e.2:=(lookG_some h).2 he
theorem usesG_mem {G:Gr} (h:SortG G) {e:Rf × List Nd × List Us} (he:e∈G):usesG G e.1=e.2.2:=by rw [usesG,lookG_mem h he];rfl
theorem mem_keysG {G:Gr} {c:Rf}:c∈keysG G↔ ∃ e∈G,e.1=c:=by simp [keysG]
theorem mem_users {G:Gr} (h:SortG G) {r:Rct} (hr:rectOk r=true) {c:Rf} (hc:c∈keysG G):c∈usersG G r↔touchesU (usesG G c) r=true:=by
 obtain ⟨e,he,rfl⟩:=mem_keysG.1 hc
 rw [usersG,if_neg (by rw [rectE_ne,hr];simp),usesG_mem h he]
 simp only [List.mem_map,List.mem_filter]
 constructor
 ·
  rintro ⟨f,⟨hf,h1⟩,h2⟩
  have:=inj_of_map (fun e:Rf × List Nd × List Us=>e.1) h.nodup hf he h2
  rw [← this];exact h1
 ·
  intro h1
  exact ⟨e,⟨he,h1⟩,rfl⟩
theorem users_keys {G:Gr} {r:Rct}: ∀ c∈usersG G r,c∈keysG G:=by
 intro c hc
 unfold usersG at hc
 split at hc
 ·
  cases hc
 ·
  simp only [List.mem_map,List.mem_filter] at hc
  obtain ⟨e,⟨he,_⟩,h⟩:=hc
  exact mem_keysG.2 ⟨e,he,h⟩
theorem users_len {G:Gr} {r:Rct}:(usersG G r).length≤G.length:=by
 unfold usersG
 split
 ·
  exact Nat.zero_le _
 ·
  rw [List.length_map];exact List.length_filter_le _ _
theorem GOk.all {R:List Blk} {E:List En} {clock:Nat} {G:Gr} (h:GOk R E clock G):allE E=G.flatMap fun e=>e.2.2.map fun u=>(e.1,u):=by
 rw [allE,h.forms,keysG,List.flatMap_map]
 have: ∀ L:Gr,(∀ e∈L,e∈G)→L.flatMap (fun e=>usesRow E e.1)=L.flatMap fun e=>e.2.2.map fun u=>(e.1,u):=by
  intro L
  induction L with
  |nil=>intro _;rfl
  |cons e r ih=>
   intro hL
   rw [List.flatMap_cons,List.flatMap_cons,ih fun f hf=>hL f (List.mem_cons_of_mem _ hf),usesRow,h.uses,usesG_mem h.sort (hL e List.mem_cons_self)]
 exact this G fun _ h=>h
theorem fold_same (r:Rct) (a:Rf): ∀ (us:List Us) (out:List Rf),out.getLast? =some a→(us.map fun u=>(a,u)).foldl (usersStep r) out=out
 | [],_,_=>rfl
 |u::q,out,h=>by
  rw [List.map_cons,List.foldl_cons]
  have:usersStep r out (a,u)=out:=by
   rw [usersStep_eq,h]
   simp
  rw [this]
  exact fold_same r a q out h
theorem fold_row (r:Rct) (a:Rf): ∀ (us:List Us) (out:List Rf),out.getLast? ≠some a→(us.map fun u=>(a,u)).foldl (usersStep r) out=if touchesU us r then out++ [a] else out
 | [],out,_=>rfl
 |u::q,out,h=>by
  rw [List.map_cons,List.foldl_cons,touchesU,List.any_cons]
  have hs:usersStep r out (a,u)=if touch r u then out++ [a] else out:=by
   rw [usersStep_eq]
   cases ho:out.getLast? with
   |none=>simp
   |some b=>
    have:b≠a:=by rintro rfl;exact h ho
    simp [this]
  rw [hs]
  cases ht:touch r u with
  |true=>
   simp only [if_true,Bool.true_or]
   exact fold_same r a q _ (by simp)
  |false=>
   simp only [Bool.false_eq_true,if_false,Bool.false_or]
   exact fold_row r a q out h
theorem fold_users (r:Rct): ∀ (L:Gr) (out:List Rf),SortG L→(∀ e∈L,out.getLast? ≠some e.1)→(L.flatMap fun e=>e.2.2.map fun u=>(e.1,u)).foldl (usersStep r) out=out++(L.filter fun e=>touchesU e.2.2 r).map fun e=>e.1
 | [],out,_,_=>by simp
 |e::q,out,hs,hl=>by
  obtain ⟨h1,h2⟩:=List.pairwise_cons.1 hs
  rw [List.flatMap_cons,List.foldl_append,fold_row r e.1 e.2.2 out (hl e List.mem_cons_self),List.filter_cons]
  cases ht:touchesU e.2.2 r with
  |true=>
   rw [if_pos rfl,if_pos rfl,fold_users r q _ h2,List.map_cons,List.append_assoc,List.singleton_append]
   intro f hf
   rw [List.getLast?_append,List.getLast?_singleton,Option.some_or]
   intro he
   exact lessF_ne (h1 f hf) (Option.some.inj he)
  |false=>
   rw [if_neg (by simp),if_neg (by simp),fold_users r q _ h2]
   exact fun f hf=>hl f (List.mem_cons_of_mem _ hf)
theorem GOk.users {R:List Blk} {E:List En} {clock:Nat} {G:Gr} (h:GOk R E clock G) (r:Rct):usersP E r=usersG G r:=by
 unfold usersP usersG
 split
 ·
  rfl
 ·
  rw [h.all,fold_users r G [] h.sort (fun _ _=>by simp),List.nil_append]
theorem GOk.allLen {R:List Blk} {E:List En} {clock:Nat} {G:Gr} (h:GOk R E clock G) (hG:GrOk G):(allE E).length≤256*G.length:=by
 rw [h.all]
 have: ∀ L:Gr,(∀ e∈L,EntOk e)→(L.flatMap fun e=>e.2.2.map fun u=>(e.1,u)).length≤256*L.length:=by
  intro L
  induction L with
  |nil=>intro _;simp
  |cons e r ih=>
   intro hL
   have h1:=ih fun f hf=>hL f (List.mem_cons_of_mem _ hf)
   have h2:=hL e List.mem_cons_self
   have h3:e.2.2.length≤256:=by
    rw [h2.uses]
    exact Nat.le_trans (usesFrom_len _ _) h2.len
   rw [List.flatMap_cons,List.length_append,List.length_map,List.length_cons]
   omega
 exact this G hG.ent
def inA:ByteArray:=⟨#[53]⟩
def inB:ByteArray:=⟨#[61,65,49,43,66,49]⟩
def inC:ByteArray:=⟨#[61,68,83,85,77,40,66,49,58,66,51,41]⟩
def inD:ByteArray:=⟨#[61,73,70,69,82,82,79,82,40,65,51,44,48,41,43,49]⟩
def exL:List Et:= [⟨⟨1,1⟩,inA⟩,⟨⟨1,2⟩,inB⟩,⟨⟨1,3⟩,inC⟩,⟨⟨1,4⟩,inD⟩]
def refN (c r:Int):Nd:=⟨2,zeroV,oneA c r,0,0,0⟩
def exG:Gr:= [
 (⟨1,2⟩,[refN 1 1,refN 2 1,nodeOp 6 1],[⟨oneA 1 1, -1,0⟩,⟨oneA 2 1, -1,0⟩]),
 (⟨1,3⟩,[⟨3,zeroV,⟨2,1,2,3⟩,0,0,0⟩,⟨7,zeroV,zeroR,0,46,1⟩],[⟨⟨2,1,2,3⟩,1,46⟩]),
 (⟨1,4⟩,[refN 1 3,⟨1,⟨1,0,emptyB⟩,zeroR,0,0,0⟩,⟨7,zeroV,zeroR,0,25,2⟩,⟨1,⟨1,10000,emptyB⟩,zeroR,0,0,0⟩,nodeOp 6 1],[⟨oneA 1 3, -1,0⟩])]
theorem ex_new:newG exL=(some exG,0):=by decide+kernel
theorem exG_ok:GrOk exG:=by
 have h: ∀ (L:List Et) (G:Gr),GrOk G→ ∀ G',newL G L=(some G',0)→GrOk G' :=by
  intro L
  induction L with
  |nil=>intro G hG G' h;cases h;exact hG
  |cons e r ih=>
   intro G hG G' h
   rw [newL] at h
   split at h
   ·
    cases h
   ·
    exact ih _ (hG.set _ _) G' h
 have h2:=ex_new
 unfold newG at h2
 split at h2
 ·
  cases h2
 ·
  exact h exL [] grOk_nil exG h2
end Go.SL
namespace Go.SL
open Go Go.Proofs
attribute [local irreducible] W WL WQ WG WA WX WLI WR WT WC VOp RW thn blk cutP scp retP retPP endB FnAt FnP ceP
theorem FnIn.re {P:Program} {f:FuncId} {args:List Value} {w0:World} {H:List Blk} {R R' :Value→List Blk→Prop} (h:FnIn P f args w0 H R) (hr: ∀ v H,R v H→ ∃ H',MSub H' H∧R' v H'):FnIn P f args w0 H R' :=
 fun w hm=>Calls.mono (h w hm) fun _ _ ⟨v,H',h1,h2,h3⟩=>let ⟨H2,h4,h5⟩:=hr v H' h3;⟨v,H2,h1,h4.use h2,h5⟩
theorem MSub.of_perm {H H' :List Blk} (h:H'.Perm H):MSub H H' :=⟨[],by simpa using h⟩
end Go.SL
namespace Go.SL
open Go Go.Proofs Go.ChangeShapes Go.WideShapes Go.ChangeAt Go.RowKit Go.Deep
section
variable {H:Type} {enc:TypeId × Value→H} {P:Program} {w:World} {base:Nat} {spare:Nat→Bool} {held:Bool}
theorem post_of_below {f:Func} {s:ChangeSpec} {apart fresh handsOn again:Bool} {W W' :World} {args:Array Value} {v:Value} {ds gs:List (DataW H)} {before pa pv:List MemPlace}
  (hW:DataW.Whole enc P f.params.toList s.vars apart W args.toList ds gs before)
  (hres: ∀ (b:Nat) (sp:Nat→Bool) (hd:Bool),DataW.TrodAll enc P W' b sp hd f.resultTypes.toList (v.resultList f.resultTypes.size) (s.fn H (ds++gs)).results [])
  (hargs: ∀ sp:Nat→Bool,(∀ p∈before,sp p.block=true)→DataW.TrodAll enc P W' 0 sp true f.params.toList args.toList (s.fn H (ds++gs)).args pa)
  (hvars: ∀ sp:Nat→Bool,(∀ p∈before,sp p.block=true)→DataW.TrodVars enc P W' sp s.vars (s.fn H (ds++gs)).vars pv)
  (hps:before=pa++pv) (hb:Below W.heap.size W W')
  (hok: ∀ (j:Nat) (t:TypeId) (r:Value),f.resultTypes[j]? =some t→(v.resultList f.resultTypes.size)[j]? =some r→Value.okWide P W' .any 0 t r):
  s.post enc P f apart fresh handsOn again W args v W' :=by
 have hold: ∀ p∈before,(fun b=>decide (b<W.heap.size)) p.block=true:=fun p hp=>by simpa using hW.lt p hp
 refine ⟨ds,gs,before,[],pa,pv,hW,hres _ _ _,hargs _ hold,hvars _ hold,hb.frame _,fun _=> ?_⟩
 have hlt:=hW.lt
 obtain ⟨_,_,_,_,_,hz,hn⟩:=hW
 refine ⟨hok,_,_,([]++pa)++pv,⟨[]++pa,pv,trodAll_append (hargs _ (fun _ _=>rfl)) (hres _ _ _),hvars _ (fun _ _=>rfl),rfl,?_,?_⟩,?_⟩
 ·
  intro b off hp
  have hp' :MemPlace.cell b off∈before:=by rw [hps];simpa using hp
  have h1:=hz b off hp'
  have h2:=hlt _ hp'
  rw [← h1]
  exact hb.frozen h2
 ·
  intro ha
  have:=hn ha
  rw [hps] at this
  simpa using this
 ·
  intro p hp _
  rw [hps]
  simpa using hp
theorem trod_stays_of {t:TypeId} (hl:laidOutB P=true) (hr:P.readableRec t=true) (hrow:t<P.types.size) {W W' :World} {v:Value} {d:DataW H} {ps:List MemPlace} {sp:Nat→Bool}
  (h:DataW.Trod enc P W 0 (fun _=>true) true t v d ps) (hb:Below W.heap.size W W') (hlt: ∀ x∈ps,x.block<W.heap.size) (hs: ∀ x∈ps,sp x.block=true):DataW.Trod enc P W' 0 sp true t v d ps:=
 WideElems.Trod_stays hl hr hrow h (fun x hx=>hb.same (hlt x hx)) hs
end
theorem Try_own:ownKnob Tryz.prog.godebug=none:=by kernel_rfl
theorem Try_laidOut:laidOutB Tryz.prog=true:=by kernel_rfl
section
variable {H:Type} {enc:TypeId × Value→H} {w:World} {base:Nat} {spare:Nat→Bool} {held:Bool}
end
end Go.SL
namespace Go.SL
open Go Go.Proofs Go.Proofs.YtljeomidcjpfmaaGreatDoor Go.ChangeShapes Go.WideShapes Go.ChangeAt Go.RowKit Go.Deep
def wordsU:List (List UInt8):= [[],[35,68,73,86,47,48,33],[35,86,65,76,85,69,33],[35,78,85,77,33],[35,78,47,65],[35,82,69,70,33],[35,67,89,67,76,69,33],[35,68,69,78,73,69,68]]
def laidWs:List (String × DataW Unit):= [("louvre/val.words",Rows.laid_louvre_val_words)]
theorem wordsU_laid:(Rows.laid_louvre_val_words:DataW Unit)= .agg (wordsU.map fun l=> .lit (.string l)):=rfl
theorem wordsU_B:wordsB=wordsU.map fun l=>⟨l.toArray⟩:=rfl
set_option maxRecDepth 100000 in
theorem words_of_laid {W:World} (h:laidMetH Tryz.prog laidWs W):Words W:=by
 rw [MakeChecks.laidMetH_plain _ _ _ (by kernel_rfl)] at h
 obtain ⟨ps,⟨g,t,cs,fuel,p,q,hg,ht,hv,hd,_,_⟩,_⟩:=h
 obtain rfl:=Option.some.inj ((show Tryz.prog.globalNamed "louvre/val.words" =some 0 by kernel_rfl).symm.trans hg)
 obtain rfl:=Option.some.inj ((show (Tryz.prog.globals[0]?).map (·.type)=some 413 by kernel_rfl).symm.trans ht)
 rw [wordsU_laid] at hd
 obtain ⟨xs,m,_,ex,_,hl,hel⟩:=DataW.trod_array Tryz.underlying413 hd
 have cS:Tryz.prog.cellsOf 9=1:=by kernel_rfl
 have hcell: ∀ (j:Nat) (v:Value),(wordsB.map Value.string)[j]? =some v→W.cell? ⟨0,0+j,none⟩=some v:=by
  intro j v hjv
  have hj:j<8:=by
   have:=(List.getElem?_eq_some_iff.1 hjv).1
   simpa [wordsB] using this
  have hE:=hel j hj
  rw [cS,Nat.mul_one,List.getElem?_eq_getElem (by omega)] at hE
  obtain ⟨s,e1,e2,_⟩:=DataW.trod_string Tryz.underlying9 hE
  have e3:(xs.map (·.1))=wordsU.map fun l=> .lit (.string l):=(DataW.agg.inj (Prod.mk.inj ex).1).symm
  have hwl:wordsU.length=8:=rfl
  have e4:(xs.map (·.1))[j]? =(wordsU.map fun l=>(DataW.lit (.string l):DataW Unit))[j]? :=by rw [e3]
  obtain ⟨u,hu⟩: ∃ u,wordsU[j]? =some u:=⟨_,List.getElem?_eq_getElem (by rw [hwl];exact hj)⟩
  rw [List.getElem?_map,List.getElem?_map,List.getElem?_eq_getElem (by omega:j<xs.length),hu,e2] at e4
  simp only [Option.map_some,Option.some.injEq,DataW.lit.injEq,Lit.string.injEq] at e4
  have hs:s=⟨u.toArray⟩:=by
   obtain ⟨d⟩:=s
   subst e4
   rfl
  have hvv:v= .string s:=by
   rw [wordsU_B,List.map_map,List.getElem?_map,hu] at hjv
   simp only [Option.map_some,Option.some.injEq,Function.comp] at hjv
   rw [← hjv,hs]
  rw [hvv,Nat.zero_add,World.var?_cell hg hv j]
  have:cs.toList[j]? =some (.string s):=by
   have h0:((cs.toList.drop j).take 1)[0]? =some (.string s):=by rw [e1];rfl
   simpa using h0
  simpa using this
 refine ⟨?_,hcell⟩
 have h5:=hcell 0 _ rfl
 simp only [World.cell?] at h5
 split at h5
 ·
  rename_i h6
  exact (Array.getElem?_eq_some_iff.1 h6).1
 ·
  cases h5
end Go.SL
namespace Go.SL
open Go Go.RowKit
section
variable {P:Program} {ops:Array Oper} {es ps:List Nat} {C:World→Prop}
theorem AnyE_firsti {Q:Act→World→Prop} {i:Nat} {oi:Oper} (hi:ops[i]? =some oi) (hsel: ∀ (j:Nat) (o:Oper) cs b,ops[j]? =some o→o.op≠ .select cs b)
  (hnb: ∀ x∈es,∀ y,y∈es∨y∈ps→x≠y→(x=i∨y=i)→NotBoth ops x y):
  ∀ (f:Nat) (L:Array Bool) (a:Act) (w:World),ClosedL ops L→C w→
   (∀ j oj,ops[j]? =some oj→j≠i→L.getD j true=false→(∀ e∈oj.after,Region.binds .any e=true→e.on≠i)→oi.apart ops oj=true)→
   i∈Region.ready .any ops L→EOp P ops es ps C (AnyE P ops es ps C Q f (L.setIfInBounds i true)) i oi a w→AnyE P ops es ps C Q (f+1) L a w
 |0,L,a,w,hcl,hC,_,hr,hy=>⟨hC,fun h=>(by rw [h] at hr;cases hr),fun j hj=>by
   by_cases hji:j=i
   ·
    subst hji;exact ⟨oi,hi,hy⟩
   ·
    exfalso
    have hne:=ready_mono hj hji
    have hE: ∃ a' w',AnyE P ops es ps C Q 0 (L.setIfInBounds i true) a' w' :=by
     cases hy with
     |pass _ hk=>exact ⟨_,_,hk⟩
     |quiet _ _ _ _ _ hk=>exact ⟨_,_,hk⟩
     |eff _ _ hk=>obtain ⟨v,w',h⟩:=hk.ex;exact ⟨_,_,h⟩
    obtain ⟨a',w',_,h0,_⟩:=hE
    rw [h0] at hne
    cases hne⟩
 |f+1,L,a,w,hcl,hC,hfree,hr,hy=>⟨hC,fun h=>(by rw [h] at hr;cases hr),fun j hj=>by
   by_cases hji:j=i
   ·
    subst hji;exact ⟨oi,hi,hy⟩
   ·
    have hj' :=ready_mono hj hji
    obtain ⟨hjun,oj,hoj,hall⟩:=mem_ready.1 hj
    have hnot: ∀ e∈oj.after,Region.binds .any e=true→e.on≠i:=fun e he hb heq=>by
     have h1:=hall e he hb
     have h0:=(mem_ready.1 hr).1
     rw [heq] at h1
     rcases Nat.lt_or_ge i L.size with h' |h'
     ·
      simp [h'] at h0 h1;rw [h0] at h1;cases h1
     ·
      simp [Array.getElem?_eq_none h'] at h1
    have hap:=hfree j oj hoj hji hjun hnot
    obtain ⟨h1,h2,h3⟩:=Oper.apart_spec hap
    have hsi:=fun cs b=>hsel i oi cs b hi
    have hsj:=fun cs b=>hsel j oj cs b hoj
    have hej: ∀ v,execOp (a.put oi.dst v).eval oj=execOp a.eval oj:=fun v=>execOp_put oj hsj a oi.dst v h1
    have hwj: ∀ v,Region.wanted oj (yielded ops (a.put oi.dst v).tmps)=Region.wanted oj (yielded ops a.tmps):=fun v=>wanted_put oj a oi.dst v h1
    have hcomm: ∀ v u,(a.put oi.dst v).put oj.dst u=(a.put oj.dst u).put oi.dst v:=fun v u=>Act.put_comm a v u h2
    have hset:(L.setIfInBounds i true).setIfInBounds j true=(L.setIfInBounds j true).setIfInBounds i true:=Array.setIfInBounds_comm _ _ (Ne.symm hji)
    have hfree' : ∀ k ok,ops[k]? =some ok→k≠i→(L.setIfInBounds j true).getD k true=false→
      (∀ e∈ok.after,Region.binds .any e=true→e.on≠i)→oi.apart ops ok=true:=fun k ok hk hki hun hno=>by
     refine hfree k ok hk hki ?_ hno
     by_cases hjk:j=k
     ·
      subst hjk;exact hjun
     ·
      rw [getD_set_ne true hjk] at hun;exact hun
    have ih:=AnyE_firsti (Q:=Q) hi hsel hnb f (L.setIfInBounds j true)
    have hcl' :=hcl.set hj
    have hr' :=ready_mono hr (Ne.symm hji)
    -- what comes of j behind an outcome of i
    have hJ: ∀ v w',AnyE P ops es ps C Q (f+1) (L.setIfInBounds i true) (a.put oi.dst v) w' →EOp P ops es ps C (AnyE P ops es ps C Q f ((L.setIfInBounds j true).setIfInBounds i true)) j oj (a.put oi.dst v) w' :=fun v w' h=>by
     obtain ⟨o,ho,hE⟩:=h.2.2 j hj'
     have e:o=oj:=Option.some.inj (ho.symm.trans hoj)
     subst e
     rw [hset] at hE
     exact hE
    refine ⟨oj,hoj,?_⟩
    have hstill:(∃ v,AnyE P ops es ps C Q (f+1) (L.setIfInBounds i true) (a.put oi.dst v) w∧ ∀ (u:Value) (w2:World) (K' :Act→World→Prop),C w2→(i∈ps→w2=w)→K' ((a.put oj.dst u).put oi.dst v) w2→EOp P ops es ps C K' i oi (a.put oj.dst u) w2)∨
      (Region.wanted oi (yielded ops a.tmps)=true∧i∈es∧NormUp P (fun v w' =>AnyE P ops es ps C Q (f+1) (L.setIfInBounds i true) (a.put oi.dst v) w') ((execOp a.eval oi).run P w)):=by
     cases hy with
     |pass hw hk=>exact .inl ⟨undef,hk,fun u w2 K' _ _ hk' => .pass ((wanted_put oi a oj.dst u h3).trans hw) hk'⟩
     |quiet hw hies v hrun hst hk=>
      refine .inl ⟨v,hk,fun u w2 K' hC2 hps hk' => ?_⟩
      have he:=execOp_put oi hsi a oj.dst u h3
      have hrun2:(execOp a.eval oi).run P w2= .ok (.value v) w2:=by
       rcases hst with h|h
       ·
        rw [hps h];exact hrun
       ·
        exact h w2 hC2
      exact .quiet ((wanted_put oi a oj.dst u h3).trans hw) hies v (by rw [he];exact hrun2) (by rw [he];exact hst) hk'
     |eff hw hies hk=>exact .inr ⟨hw,hies,hk⟩
    rcases hstill with ⟨v,hk,hS⟩|⟨hw,hies,hk⟩
    ·
     cases hJ v w hk with
     |pass hwj' hkj=>exact .pass ((hwj v).symm.trans hwj') (ih _ w hcl' hC hfree' hr' (hS undef w _ hC (fun _=>rfl) (by rw [← hcomm];exact hkj)))
     |quiet hwj' hjes u hrun hst hkj=>
      rw [hej] at hrun hst
      exact .quiet ((hwj v).symm.trans hwj') hjes u hrun hst (ih _ w hcl' hC hfree' hr' (hS u w _ hC (fun _=>rfl) (by rw [← hcomm];exact hkj)))
     |eff hwj' hjes hkj=>
      rw [hej] at hkj
      exact .eff ((hwj v).symm.trans hwj') hjes (hkj.mono fun u w2 hk2=>ih _ w2 hcl' hk2.inC hfree' hr' (hS u w2 _ hk2.inC (fun hps=>(hnb j hjes i (.inr hps) hji (.inr rfl) L hcl hj hr).elim) (by rw [← hcomm];exact hk2)))
    ·
     obtain ⟨v0,w1,h0⟩:=hk.ex
     cases hJ v0 w1 h0 with
     |pass hwj' hkj=>
      have hwa:=(hwj v0).symm.trans hwj'
      refine .pass hwa (ih _ w hcl' hC hfree' hr' (EOp.of_put hap hsi (.eff hw hies hk) fun v w' h=> ?_))
      cases hJ v w' h with
      |pass _ h' =>rw [← hcomm];exact h'
      |quiet hw2 _ _ _ _ _=>rw [hwj,hwa] at hw2;cases hw2
      |eff hw2 _ _=>rw [hwj,hwa] at hw2;cases hw2
     |quiet hwj' hjes u hrun hst hkj=>
      have hwa:=(hwj v0).symm.trans hwj'
      have hst2: ∀ w1,C w1→(execOp a.eval oj).run P w1= .ok (.value u) w1:=by
       rcases hst with h|h
       ·
        exact (hnb i hies j (.inr h) (Ne.symm hji) (.inl rfl) L hcl hr hj).elim
       ·
        rw [hej] at h;exact h
      refine .quiet hwa hjes u (hst2 w hC) (.inr hst2) (ih _ w hcl' hC hfree' hr' (EOp.of_put hap hsi (.eff hw hies hk) fun v w' h=> ?_))
      cases hJ v w' h with
      |pass hw2 _=>rw [hwj,hwa] at hw2;cases hw2
      |eff _ hjes2 _=>exact absurd hjes2 hjes
      |quiet _ _ u' hr2 hst' h' =>
       have hst3:(execOp a.eval oj).run P w= .ok (.value u') w:=by
        rcases hst' with h|h
        ·
         exact (hnb i hies j (.inr h) (Ne.symm hji) (.inl rfl) L hcl hr hj).elim
        ·
         have:=h w hC
         rw [hej] at this;exact this
       rw [hst2 w hC] at hst3
       injection hst3 with h4
       injection h4 with h4
       subst h4
       rw [← hcomm];exact h'
     |eff hwj' hjes hkj=>exact (hnb i hies j (.inl hjes) (Ne.symm hji) (.inl rfl) L hcl hr hj).elim⟩
end
section
variable {P:Program} {n:Fr} {w0:World} {Q:Post} {s:Slots} {H S:List Blk} {l:List Oper} {ty:TypeId} {p:String} {af:Array Edge} {es:List Nat} {gu:Option (Nat × Bool)} {f:Nat} {L:Array Bool}
def WE (P:Program) (n:Fr) (w0:World) (l:List Oper) (S:List Blk) (es:List Nat) (Q:Post) (f:Nat) (L:Array Bool) (s:Slots) (H:List Blk):Prop:=
 ∀ a w,St n s a→Mem w0 w H→Mem w0 w S→ClosedL l.toArray L→AnyE P l.toArray es [] (fun w=>Mem w0 w S) (post n w0 Q .normal) f L a w
theorem w_drawE {id:Nat} (es:List Nat) (S:List Blk) (N:Nat) (hN:l.length=N) (hm:P.follows .mixedOrders=true) (hS:MSub S H)
  (h:WE P n w0 l S es Q N (Array.replicate N false) s H):W P n w0 (.region id l.toArray true) Q s H:=by
 intro a w hs hmem
 subst hN
 refine wp_region_any hm (wpAny_of_AnyE (es:=es) (ps:= []) (C:=fun w=>Mem w0 w S) (Q:=post n w0 Q .normal) (fun _ _ h=>h) _ _ _ _ ?_)
 have hcl:ClosedL l.toArray (Array.replicate l.length false):=fun i o _ hi=>by
  rw [Array.getD_eq_getD_getElem?,Array.getElem?_replicate] at hi
  split at hi<;>cases hi
 have:=h a _ hs hmem.drew (hS.use hmem.drew) hcl
 simpa using this
theorem we_done (hr:Region.ready .any l.toArray L= []) (h:Q .normal s H):WE P n w0 l S es Q f L s H:=by
 intro a w hs hm hS hcl
 cases f with
 |zero=>exact ⟨hS,hr,s,H,hs,hm,h⟩
 |succ f=>exact ⟨hS,fun _=>⟨s,H,hs,hm,h⟩,fun i hi=>by rw [hr] at hi;cases hi⟩
theorem we_v {i:Nat} {op:Op} {d:Nat} {v:Value} (hi:l[i]? =some ⟨some d,op,ty,p,af,gu⟩) (hn:Nat.blt d n.sz=true) (hg:gok l s gu=some true) (hk:es.contains i=false) (hsel:Region.noSelect l.toArray=true)
  (hr:(Region.ready .any l.toArray L).contains i=true) (hf:Region.free .any l.toArray L i=true) (hv:VOp P w0 s S op ty v) (h:WE P n w0 l S es Q f (L.setIfInBounds i true) ((d,v)::s) H):WE P n w0 l S es Q (f+1) L s H:=by
 intro a w hs hm hS hcl
 have hi' :l.toArray[i]? =some ⟨some d,op,ty,p,af,gu⟩:=by simpa using hi
 have hr' :i∈Region.ready .any l.toArray L:=by simpa using hr
 have hk' :i∉es:=by simpa using hk
 refine AnyE_firsti hi' (Region.noSelect_spec hsel) (fun x hx y hy _ hxy=> ?_) f L a w hcl hS (Region.free_spec hi' hf) hr'
  (.quiet (gok_wanted rfl hg hs) hk' v (hv a.eval w (some d) p af gu hs.eval hS) (.inr fun w1 h1=>hv a.eval w1 (some d) p af gu hs.eval h1) (h _ _ (hs.put (Nat.blt_eq ▸ hn) v) hm hS (hcl.set hr')))
 rcases hxy with rfl|rfl
 ·
  exact (hk' hx).elim
 ·
  rcases hy with hy|hy
  ·
   exact (hk' hy).elim
  ·
   cases hy
theorem we_step {i:Nat} {op:Op} {dst:Option Tmp} (hi:l[i]? =some ⟨dst,op,ty,p,af,gu⟩) (hg:gok l s gu=some true) (hk:es.contains i=true) (hr:(Region.ready .any l.toArray L).contains i=true)
  (h:WL P n w0 #[] [⟨dst,op,ty,p,af,none⟩] (ceP S (WE P n w0 l S es Q f (L.setIfInBounds i true))) s H) (a:Act) (w:World) (hs:St n s a) (hm:Mem w0 w H) (hcl:ClosedL l.toArray L):
  EOp P l.toArray es [] (fun w=>Mem w0 w S) (AnyE P l.toArray es [] (fun w=>Mem w0 w S) (post n w0 Q .normal) f (L.setIfInBounds i true)) i ⟨dst,op,ty,p,af,gu⟩ a w:=by
 have hr' :i∈Region.ready .any l.toArray L:=by simpa using hr
 refine .eff (gok_wanted rfl hg hs) (by simpa using hk) ?_
 have h1:=h a w hs hm
 unfold wpList at h1
 simp only [Region.wanted,if_true] at h1
 replace h1:=h1.elim id fun ⟨_,a0,w1,s',H'',_,_,he,_⟩=>by cases he
 have hexec:execOp a.eval ⟨dst,op,ty,p,af,gu⟩=execOp a.eval ⟨dst,op,ty,p,af,none⟩:=rfl
 rw [hexec]
 have nxt: ∀ (a' :Act) (w' :World),wpList P #[] (post n w0 (ceP S (WE P n w0 l S es Q f (L.setIfInBounds i true)))) [] a' w' →AnyE P l.toArray es [] (fun w=>Mem w0 w S) (post n w0 Q .normal) f (L.setIfInBounds i true) a' w' :=by
  rintro a' w' ⟨s',H',hs',hm',_,hSub,hK⟩
  exact hK a' w' hs' hm' (hSub.use hm') (hcl.set hr')
 unfold Oper.wp at h1
 generalize (execOp a.eval ⟨dst,op,ty,p,af,none⟩).run P w=r at h1 ⊢
 cases r with
 |ok x w' =>
  cases x<;>simp only [Oper.upon] at h1<;>simp only [NormUp]
  case value u=>exact nxt _ _ h1
  case skip=>exact nxt _ _ h1
  case defer dd=>
   obtain ⟨s',H'',hs',_⟩:=h1
   have h2:=congrArg List.length (hs'.defers.trans hs.defers.symm)
   cases dst<;>simp [Act.put] at h2
  case enter f args=>
   refine h1.mono fun e w'' he=> ?_
   cases e with
   |returned v=>exact ⟨v,rfl,nxt _ _ he⟩
   |panicked c=>
    obtain ⟨s',H'',_,_,he',_⟩:=he
    cases he'
   |outgrown=>
    obtain ⟨a0,w1,s',H'',_,_,he',_⟩:=he
    cases he'
  case row f args=>exact Rows.mono h1 fun u w'' he=>nxt _ _ he
 |halt x w' =>
  cases x<;>simp only [Oper.upon] at h1
  all_goals
   obtain ⟨s',H'',_,_,he',_⟩:=h1
   cases he'
theorem we_one {i:Nat} {op:Op} {dst:Option Tmp} (hi:l[i]? =some ⟨dst,op,ty,p,af,gu⟩) (hg:gok l s gu=some true) (hk:es.contains i=true) (hr:Region.ready .any l.toArray L= [i])
  (h:WL P n w0 #[] [⟨dst,op,ty,p,af,none⟩] (ceP S (WE P n w0 l S es Q f (L.setIfInBounds i true))) s H):WE P n w0 l S es Q (f+1) L s H:=by
 intro a w hs hm hS hcl
 refine ⟨hS,fun h0=>(by rw [hr] at h0;cases h0),fun j hj=> ?_⟩
 rw [hr] at hj
 have e:j=i:=by simpa using hj
 subst e
 exact ⟨_,by simpa using hi,we_step hi hg hk (by rw [hr];simp) h a w hs hm hcl⟩
theorem we_two {i j:Nat} {op op' :Op} {dst dst' :Option Tmp} {ty' :TypeId} {p' :String} {af' :Array Edge} {gu' :Option (Nat × Bool)} (hi:l[i]? =some ⟨dst,op,ty,p,af,gu⟩) (hj:l[j]? =some ⟨dst',op',ty',p',af',gu'⟩) (hg:gok l s gu=some true) (hg' :gok l s gu' =some true)
  (hk:es.contains i=true) (hk' :es.contains j=true) (hr:Region.ready .any l.toArray L= [i,j])
  (h:WL P n w0 #[] [⟨dst,op,ty,p,af,none⟩] (ceP S (WE P n w0 l S es Q f (L.setIfInBounds i true))) s H)
  (h' :WL P n w0 #[] [⟨dst',op',ty',p',af',none⟩] (ceP S (WE P n w0 l S es Q f (L.setIfInBounds j true))) s H):WE P n w0 l S es Q (f+1) L s H:=by
 intro a w hs hm hS hcl
 refine ⟨hS,fun h0=>(by rw [hr] at h0;cases h0),fun k hk0=> ?_⟩
 rw [hr] at hk0
 rcases List.mem_cons.1 hk0 with e|hk0
 ·
  subst e
  exact ⟨_,by simpa using hi,we_step hi hg hk (by rw [hr];simp) h a w hs hm hcl⟩
 ·
  have e:k=j:=by simpa using hk0
  subst e
  exact ⟨_,by simpa using hj,we_step hj hg' hk' (by rw [hr];simp) h' a w hs hm hcl⟩
end
end Go.SL
