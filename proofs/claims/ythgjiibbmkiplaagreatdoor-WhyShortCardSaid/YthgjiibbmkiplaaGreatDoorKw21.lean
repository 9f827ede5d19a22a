/-
  Lemmas and walks, put together: Fd Fp Td.
-/
import Derived.Test.YthgjiibbmkiplaaGreatDoorKw20
set_option linter.unusedSimpArgs false
set_option linter.unusedVariables false
set_option maxRecDepth 20000
namespace Go.SL
open Go Go.Proofs Go.ChangeShapes Go.WideShapes Go.ChangeAt Go.RowKit Go.Deep
section
variable {H:Type} {enc:TypeId × Value→H} {w:World} {base:Nat} {spare:Nat→Bool} {held:Bool}
set_option maxRecDepth 100000 in
theorem LZ {α:Type} [Inhabited α] {encA:α→List Value} {ok:α→Prop} {t e m:Nat} {v:Value} {d:DataW H} {p:List MemPlace} (ht:Tryz.prog.underlying t=some (.slice e)) (hm:Tryz.prog.cellsOf e=m) (hm0:0<m) (hlenA: ∀ a,(encA a).length=m)
 (helem: ∀ (n:Nat) (cs:List Value) (y:DataW H × List MemPlace),DataW.trod enc Tryz.prog w 0 spare held n e cs=some y→ ∃ a,cs=encA a∧ok a)
 (hv:Value.okWide Tryz.prog w .any base t v) (h:DataW.Trod enc Tryz.prog w 0 spare held t v d p): ∃ L:List α,Reads w v L.length (L.flatMap encA)∧ ∀ a∈L,ok a:=by
 obtain ⟨fuel,hf⟩:=h;have hc:v.cells.toList= [v]:=by
  obtain ⟨a,n,c,rfl⟩:=okWide_slice ht hv
  rfl
 rw [hc] at hf;obtain ⟨v',L,q,h1,h2⟩:=mi ht hm hm0 hlenA helem hf;simp only [List.cons.injEq,and_true] at q;subst q;exact ⟨L,h1,h2⟩
end
section
variable {H:Type} {enc:TypeId × Value→H} {w:World} {base:Nat} {spare:Nat→Bool} {held:Bool}
set_option maxRecDepth 100000 in
theorem Be {v:Value} {d:DataW H} {p:List MemPlace} (hv:Value.okWide Tryz.prog w .any base 36 v) (h:DataW.Trod enc Tryz.prog w 0 spare held 36 v d p): ∃ L:List Rf,Reads w v L.length (L.flatMap aq)∧ ∀ a∈L,okF a:=
 LZ Tryz.underlying36 (by kernel_rfl) (by decide) bD (fun _ _ _ h=>sw h) hv h
end
section
variable {G:Gr} {w:Lw} {u:Nat} {hid:Rct→List Rct}
theorem pT (hG:GrOk G) (hw:HidW w u hid): ∀ (l:List Rf) (c:Rf),fI G w u (c::l)=true→ ¬ seesP G w u c
 | [],c,h,hs=>by
  rw [fI,Xo,Y4] at h;rw [(fj hG hw hs).1] at h;cases h.2
 |b::l,c,h,hs=>by
  rw [fI,Xo,Xo,Xo,XQ] at h;obtain ⟨⟨_,_,r,hr,h2⟩,h3⟩:=h;obtain ⟨h4,h5,h6⟩:=(fj hG hw hs).2 r hr;have hb:=pT hG hw l b h3;by_cases hk:b∈ap G
  ·exact hb (h6 b hk h2)
  ·cases hrd:rdU w u b with
   |true=>exact hb ((rB hk).2 hrd)
   |false=>
    obtain ⟨p,hp,_⟩:=hw.cov r h4 b h2 hrd;rw [h5] at hp;cases hp
end
end Go.SL
