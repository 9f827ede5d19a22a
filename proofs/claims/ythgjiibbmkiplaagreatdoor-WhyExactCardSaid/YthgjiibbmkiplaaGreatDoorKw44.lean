/-
  Lemmas and walks, put together: Wu.
-/
import Derived.Test.YthgjiibbmkiplaaGreatDoorKw32
import Derived.Test.YthgjiibbmkiplaaGreatDoorKw36
import Derived.Test.YthgjiibbmkiplaaGreatDoorKw40
set_option linter.unusedSimpArgs false
set_option linter.unusedVariables false
set_option maxRecDepth 20000
namespace Go.SL
open Go Go.Proofs
theorem Ip {L:List Rct} (hL: ∀ p∈L,aA p=true):(nn L).length≤2000000:=by
 have h:=(CP hL (dJ L).length (Xy _)).1;have h2:=AW hL;rw [E3] at h;omega
theorem yM {G:Gr} {w:Lw} {u:Nat} {hid:Rct→List Rct} (hG:GrOk G) (hw:HidW w u hid) {c:Rf} (hv:c.valid=true):(da G hid c).length≤2000000:=by
 refine Ip fun p hp=> ?_;obtain ⟨l,hl,h2⟩:=XL.1 hp;exact (hw.un l (kV hG ((eE hv).1 hl)) p h2).1
end Go.SL
