/-
  Lemmas and walks, put together: Nc.
-/
import Derived.Test.YthefeclkaaocnaaGreatDoorKf34
set_option linter.unusedSimpArgs false
set_option linter.unusedVariables false
set_option maxRecDepth 20000
namespace Go.SL
open Go Go.Proofs
attribute [local irreducible] W WL WQ WG WA WX WLI WR WT WC WE VOp RW thn blk bF scp ba aZ bC FnAt FnIn FnP ceP gA cP dR
theorem oR {L:List Rl} {N:List Gn} {ok:Bool} (ho:ok=true) (hL:(dw 64 L).2=0) (hN:(gQ 64 N).2=0):stE ok L N=0:=by
 unfold stE
 rw [if_neg (by rw [ho];decide),if_neg (by rw [hL];decide)];exact hN
theorem JF {G:Gr} {L:List Rl} {N:List Gn} (hL:(dw 64 L).2=0) (hN:(gQ 64 N).2=0) {c:Rf} (hc:c.valid=true):zq G L N c=(dr G (aI L N) c,0):=by
 unfold zq
 rw [if_neg (by rw [oR hc hL hN];decide)]
theorem Py {G:Gr} {L:List Rl} {N:List Gn} (hL:(dw 64 L).2=0) (hN:(gQ 64 N).2=0) {r:Rct} (hr:dY r=0):KD G L N r=(G3 G (aI L N) r,0):=by
 unfold KD
 rw [if_neg (by rw [oR (decide_eq_true hr) hL hN];decide)]
theorem Qg {G:Gr} (hG:GrOk G) {L:List Rl} {N:List Gn} (hL:(dw 64 L).2=0) (hN:(gQ 64 N).2=0) {c:Rf} (hc:c.valid=true) {u:Us} (hu:u∈aK G c) (hp:0≤u.node):LI G L N c u.node=(G3 G (aI L N) u.rect|||(aI L N).to u,0):=by
 unfold LI Si
 rw [if_neg (by rw [oR hc hL hN];decide),(zQ hG hu hp).2.2]
theorem JL {G:Gr} (hG:GrOk G) {L:List Rl} {N:List Gn} (hL:(dw 64 L).2=0) (hN:(gQ 64 N).2=0) {c:Rf} {u:Us} (hu:u∈aK G c) (hp:0≤u.node):(dO u.fn u.rect L N).1=(aI L N).to u∧(dO u.fn u.rect L N).2.2=0:=by
 constructor
 ·
  unfold aI
  dsimp only
  rw [if_neg (by omega)]
 ·
  have h:=zQ hG hu hp
  unfold dO
  rw [if_neg (by omega),if_neg (by rw [jg hG hu];decide),if_neg (by rw [hL];decide),if_neg (by rw [hN];decide)]
theorem MF {L:List Rl} {N:List Gn} {u:Us} (h:u.node<0):(aI L N).to u=0#64:=by
 unfold aI
 dsimp only
 rw [if_pos h]
section
variable {P:Program} {w0:World} {s:aB} {H:List Blk} {ty:TypeId}
theorem j6 {x y:Operand} {a:BitVec 64} {t t' :TypeId} (hx:ev s x=some (vS a)) (hy:ev s y=some (vS a)):VOp P w0 s H (.binOp .neq t x y t') ty (.bool false):=by
 have h:=BG (P:=P) (w0:=w0) (H:=H) (ty:=ty) (t:=t) (t' :=t') hx hy
 rwa [decide_eq_true rfl] at h
end
end Go.SL
