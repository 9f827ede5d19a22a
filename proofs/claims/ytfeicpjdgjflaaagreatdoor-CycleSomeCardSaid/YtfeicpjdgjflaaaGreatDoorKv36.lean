/-
  Lemmas and walks, put together: Fp.
-/
import Derived.Test.YtfeicpjdgjflaaaGreatDoorKv19
set_option linter.unusedSimpArgs false
set_option linter.unusedVariables false
set_option maxRecDepth 20000
namespace Go.SL
open Go Go.Proofs Go.ChangeShapes Go.WideShapes Go.ChangeAt Go.RowKit Go.Deep
section
variable {H:Type} {enc:TypeId × Value→H} {w:World} {base:Nat} {spare:Nat→Bool} {held:Bool}
set_option maxRecDepth 100000 in
theorem Gc {v:Value} {d:DataW H} {p:List MemPlace} (hv:Value.okWide Tryz.prog w .any base 24 v) (h:DataW.Trod enc Tryz.prog w 0 spare held 24 v d p): ∃ x:BitVec 64,v=vS x:=by
 obtain ⟨x,rfl,_,_,wx⟩:=open_int Tryz.underlying24 hv h;have w1:0≤x∧x≤18446744073709551615:=by
  simp [Lit.wf] at wx;exact wx
 refine ⟨BitVec.ofNat 64 x.toNat,?_⟩;unfold vS;rw [BitVec.toNat_ofNat];congr 1;omega
end
end Go.SL
