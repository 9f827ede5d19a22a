/-
  Lemmas and walks, put together: Yf.
-/
import Derived.Test.YtfeicpjdgjflaaaGreatDoorKv32
import Derived.Test.YtfeicpjdgjflaaaGreatDoorKv33
set_option linter.unusedSimpArgs false
set_option linter.unusedVariables false
set_option maxRecDepth 20000
namespace Go.SL
open Go Go.Proofs
attribute [local irreducible] W WL WQ WG WA WX WLI WR WT WC WE VOp RW thn blk bg scp aS aV bi FnAt FnIn FnP ceP
theorem tO {gg:Nat} {G:Gr} {B H:List Blk} {w0:World} (h:Rdr gg G B w0) {A:Option Nat} {c:Nat} {M:List Rf} (hp:PlcF G M) (hs:MSub (.own A 35 2 M.length c (M.flatMap aw)::B) H):
 FnIn Tryz.prog 21 [.pointer (some ⟨gg,0,none⟩),sl A M.length c] w0 H fun v H' =>v= .bool true∧H' =H:=by
 obtain ⟨F,hpm⟩:=hs;have h1:=F5 h (MSub.appL B F) A c M hp;refine (h1.msub (MSub.of_perm hpm)).re ?_;rintro v H' ⟨hv,rfl⟩;exact ⟨_,MSub.of_perm hpm.symm,hv,rfl⟩
end Go.SL
