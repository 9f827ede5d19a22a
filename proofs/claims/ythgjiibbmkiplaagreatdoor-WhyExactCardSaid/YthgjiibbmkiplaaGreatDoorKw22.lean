/-
  Lemmas and walks, put together: Td.
-/
import Derived.Test.YthgjiibbmkiplaaGreatDoorKw20
set_option linter.unusedSimpArgs false
set_option linter.unusedVariables false
set_option maxRecDepth 20000
namespace Go.SL
open Go
section
variable {G:Gr} {w:Lw} {u:Nat} {hid:Rct→List Rct}
theorem DistOk.path (hG:GrOk G) (hw:HidW w u hid) {O:List (Rf × Nat)} (h:DistOk G w u hid (ap G) O) {c:Rf} (hv:c.valid=true) (hs: ¬ seesP G w u c): ∃ l,gV G w u hid O c=c::l∧fI G w u (c::l)=true:=by
 unfold gV;split
 ·rename_i hr;exact ⟨[],rfl,by rw [fI,hv,hr];rfl⟩
 ·rename_i hr;have hr' :rdU w u c=true:=by simpa using hr
  cases hd:dOf O c with
  |none=>exact absurd ((h.sees hG hw).2 ⟨hr',GL.1 hd⟩) hs
  |some d=>exact ⟨_,rfl,h.way hG hw d c ((px h.od).1 hd)⟩
end
end Go.SL
