/-
  Lemmas and walks, put together: Wx Wy.
-/
import Derived.Test.YthgjiibbmkiplaaGreatDoorKw21
import Derived.Test.YthgjiibbmkiplaaGreatDoorKw36
set_option linter.unusedSimpArgs false
set_option linter.unusedVariables false
set_option maxRecDepth 20000
namespace Go.SL
open Go Go.Proofs
section
variable {G:Gr} {w:Lw} {u:Nat} {hid:Rct→List Rct}
theorem DistOk.wayLen (hG:GrOk G) (hw:HidW w u hid) {O:List (Rf × Nat)} (h:DistOk G w u hid (ap G) O): ∀ d c,(c,d)∈O→(eD G w u hid O d c).length=d
 |0,c,_=>rfl
 |1,c,_=>rfl
 |k+2,c,hc=>by
  obtain ⟨b,hb,h3,_⟩:=tj (h.nxt _ hc k rfl).2.1;rw [eD,hb,Ze,Xs,DistOk.wayLen hG hw h (k+1) b h3]
theorem DistOk.pathKey {O:List (Rf × Nat)} (h:DistOk G w u hid (ap G) O) {c:Rf} {d:Nat} (hc:(c,d)∈O):gV G w u hid O c=c::eD G w u hid O d c:=by
 unfold gV;rw [if_neg (by rw [(h.key _ hc).2.1];decide),(px h.od).2 hc]
end
attribute [local irreducible] FnAt FnIn FnP RW VOp W WA WC WE WG WL WLI WQ WR WT WX aX aY bA blk bw ceP scp thn
theorem yX (L:List Rf): ∀ u∈L.flatMap aq,u.oneCell' =true:=fun u hu=>by
 obtain ⟨a,_,h⟩:=XL.1 hu;simp only [aq,Xt,YQ,or_false] at h;rcases h with rfl|rfl<;>rfl
end Go.SL
