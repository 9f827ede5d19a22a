/-
  Lemmas and walks, put together: Wv.
-/
import Derived.Test.YthgjiibbmkiplaaGreatDoorKw32
import Derived.Test.YthgjiibbmkiplaaGreatDoorKw36
set_option linter.unusedSimpArgs false
set_option linter.unusedVariables false
set_option maxRecDepth 20000
namespace Go.SL
open Go Go.Proofs
attribute [local irreducible] W WL WQ WG WA WX WLI WR WT WC WE VOp RW thn blk bA scp aY aX bw FnAt FnIn FnP ceP
theorem FQ {L:List Et} {G:Gr} (hG:jr L=(some G,0)) (hGo:GrOk G) (hGl:G.length≤900) (lv:Value) (w0 w:World) (hw: ∀ gg gm E clock R,GOk R E clock G→Rdr gg G (gB gg gm (E.map En.m) clock++R) w0) (ht:Reads w lv L.length (L.flatMap bN)) (hlen:L.length≤1000000) (hW:Words w):
 FnAt Tryz.prog 21 [lv] w fun v H=> ∃ gg B,Rdr gg G B w0∧v= .tuple #[.pointer (some ⟨gg,0,none⟩),.int .i64 0]∧H=B:=by
 have h:=zr L lv w ht hlen hW;rw [hG] at h;refine h.mono fun v H hh=> ?_;obtain ⟨gg,gm,E,clock,R,h1,h2,h3⟩:=(show ∃ gg gm E clock R,v= .tuple #[.pointer (some ⟨gg,0,none⟩),.int .i64 0]∧H=gB gg gm (E.map En.m) clock++R∧GOk R E clock G from hh);exact ⟨gg,_,hw gg gm E clock R h3,h1,h2⟩
end Go.SL
