/-
  Lemmas and walks, put together: Th.
-/
import Derived.Test.YthgjiibbmkiplaaGreatDoorKw22
import Derived.Test.YthgjiibbmkiplaaGreatDoorKw31
set_option linter.unusedSimpArgs false
set_option linter.unusedVariables false
set_option maxRecDepth 20000
namespace Go.SL
open Go
section
variable {G:Gr} {w:Lw} {u:Nat} {hid:Rct→List Rct}
theorem yh (hG:GrOk G) (hw:HidW w u hid) {c:Rf} (hv:c.valid=true) (h:(gA G w c).getLsbD u=false): ∃ l,cZ G w u hid c=⟨false,c::l,[]⟩∧fI G w u (c::l)=true:=by
 obtain ⟨l,h1,h2⟩:=(pw hG.sort.nodup).path hG hw hv fun hs=>by rw [fR.2 hs] at h;cases h
 refine ⟨l,?_,h2⟩;unfold cZ;rw [if_neg (by rw [h];decide),h1]
end
end Go.SL
