/-
  Lemmas and walks, put together: W28 W29 W30 Gp D5 D6 D7.
-/
import Derived.Test.YtlnecnbfmnfigaaGreatDoorKu16
set_option linter.unusedSimpArgs false
set_option linter.unusedVariables false
set_option maxRecDepth 20000
namespace Go.SL
open Go Go.Proofs
attribute [local irreducible] W WL WQ WG WA VOp thn blk bZ bA FnAt FnIn WLI
def nA (n:Nd) (i:Nat) (r:List Nd):Us:=match r with
 |m::_=>if m.kind=7∧46≤m.fn then ⟨n.rect,((i+1:Nat):Int),m.fn⟩ else ⟨n.rect, -1,0⟩
 | []=>⟨n.rect, -1,0⟩
def dI:List Nd→Nat→List Us
 | [],_=> []
 |n::r,i=>bif fQ n then nA n i r::dI r (i+1) else dI r (i+1)
def dY (L:List Nd):List Us:=dI L 0
set_option maxHeartbeats 4000000 in
theorem Je (L:List Nd) (tv:Value) (w0:World) (ht:Reads w0 tv L.length (L.flatMap bg)) (hlen:L.length≤1000000) (g:Nat):
  Mw Tryz.prog 206 [.pointer (some ⟨g,0,none⟩)] w0 [.box g 69 [tv]] (dY L) (fun u=> [.agg (bQ u).toArray]):=by
 obtain ⟨Al,cl,rfl,hl1,hl2,hl3⟩:=ht
 intro l I J H0 hy h0
 refine FnIn.msub (H' := .box g 69 [.slice Al L.length cl]::H0) ?_ (MSub.rot (MSub.refl _))
 refine bM Tryz.func206 rfl Tryz.ntmps206 rfl ?_
 repeat' (first|refine sT ?_|refine sM fun _=> ?_|(refine sC ?_ ?_<;>intro hb<;>try omega)|fail)
 refine eH (fun y:Nat × List Us × List Blk=> [(0,.func (.yield l) #[] #[]),(1,.pointer (some ⟨g,0,none⟩)),(6,.slice Al L.length cl),(7,.int .i64 (L.length:Int)),(8,.int .i64 (y.1:Int))])
  (fun y=> .box g 69 [.slice Al L.length cl]::y.2.2)
  (fun y=>y.1≤L.length∧dY L=y.2.1++dI (L.drop y.1) y.1∧I y.2.1 y.2.2) (fun y=>L.length - y.1) (0,[],H0) ⟨by omega,rfl,h0⟩ ?_ ?_ ?_
 ·
  exact sB
 ·
  exact MSub.refl _
 rintro ⟨i,pre,H1⟩ ⟨hi,hus,hI⟩
 dsimp only at hi hus hI ⊢
 by_cases hlt:i<L.length
 ·
  obtain ⟨gl,ol,rfl,hrl⟩:=hl3 (by omega)
  have he:=hrl.elem cE i hlt
  rw [Pf hlt,dI] at hus
  generalize hn:L[i]=n at hus he
  have hran:=fun w=>Hs n w
  have next: ∀ (us:List Us) (HU:List Blk),dY L=us++dI (L.drop (i+1)) (i+1)→I us HU→i+1≤L.length∧dY L=us++dI (L.drop (i+1)) (i+1)∧I us HU:=fun us HU h1 h2=>⟨hlt,h1,h2⟩
  generalize fQ n=q at hus hran
  cases q
  ·
   rw [cond_false] at hus
   repeat' (first|(apply aa;exact rfl;exact rfl;(intro w hm;exact hran w))|refine sT ?_|refine sN ?_|refine sO ?_|refine sM fun _=> ?_|(refine sC ?_ ?_<;>intro hb<;>try omega)|fail)
   refine ⟨(i+1,pre,H1),next _ _ hus hI,(by dsimp only;omega),?_,?_⟩
   ·
    exact sB
   ·
    exact mS
  rw [cond_true] at hus
  by_cases hn1:i+1<L.length
  ·
   have he1:=hrl.elem cE (i+1) hn1
   have hd:=Pf hn1
   generalize L[i+1]=m at he1 hd
   by_cases hrel:m.kind=7∧46≤m.fn
   ·
    have hu:nA n i (L.drop (i+1))=⟨n.rect,((i+1:Nat):Int),m.fn⟩:=by rw [hd];simp only [nA,if_pos hrel]
    rw [hu] at hus
    repeat' (first|(apply aa;exact rfl;exact rfl;(intro w hm;exact hran w))|(apply lO (id:=7))|((with_reducible apply qd (id:=6) (T:=89) (fun D=> [.int .i64 n.rect.c1,.int .i64 n.rect.r1,.int .i64 n.rect.c2,.int .i64 n.rect.r2,.int .i64 (bif D 9 then ((i+1:Nat):Int) else -1),.int .u8 (bif D 11 then m.fn else 0)]) (xs' := [.int .i64 n.rect.c1,.int .i64 n.rect.r1,.int .i64 n.rect.c2,.int .i64 n.rect.r2,.int .i64 ((i+1:Nat):Int),.int .u8 m.fn]));kernel_rfl;kernel_rfl;exact .hd;exact rfl;(intro D hD;simp only [hD 9 (by decide),hD 11 (by decide),cond_true]))|(apply AV;exact rfl;(intro D ht;first|(apply gI;exact rfl;exact rfl;(simp only [maxLen] at*;omega))|(apply ag;exact rfl;exact rfl;(first|assumption|omega))|(apply dG;exact rfl;assumption;exact rfl));exact fun _=>rfl)|refine sT ?_|refine sI ?_|refine sN ?_|refine sO ?_|refine sG ?_|refine sM fun _=> ?_|(refine sC ?_ ?_<;>intro hb<;>try omega)|fail)
    (with_reducible apply j8)
    ·
     exact rfl
    ·
     exact rfl
    ·
     exact rfl
    ·
     exact MSub.app3
    ·
     exact fun w hm=>hy pre ⟨n.rect,((i+1:Nat):Int),m.fn⟩ _ hus H1 _ hI w hm
    intro bb H2 hq
    cases bb
    ·
     repeat' (first|refine sT ?_|refine sI ?_|refine sM fun _=> ?_|(refine sC ?_ ?_<;>intro hb<;>try omega)|fail)
     exact jv eIO Tryz.results206 (H' :=H2++ [.box g 69 [.slice (some ⟨gl,ol,none⟩) L.length cl]]) MSub.app3r ⟨H2,.inr ⟨_,hq⟩,MSub.refl _⟩
    ·
     repeat' (first|refine sT ?_|refine sI ?_|refine sN ?_|refine sM fun _=> ?_|(refine sC ?_ ?_<;>intro hb<;>try omega)|fail)
     refine ⟨(i+1,_,H2),next _ _ (hus.trans (by rw [List.append_assoc];rfl)) hq,(by dsimp only;omega),?_,?_⟩
     ·
      exact sB
     ·
      exact MSub.app3'
   ·
    have hu:nA n i (L.drop (i+1))=⟨n.rect, -1,0⟩:=by rw [hd];simp only [nA,if_neg hrel]
    rw [hu] at hus
    repeat' (first|(apply aa;exact rfl;exact rfl;(intro w hm;exact hran w))|(apply lO (id:=7))|refine sT ?_|refine sI ?_|refine sN ?_|refine sO ?_|refine sM fun _=> ?_|(refine sC ?_ ?_<;>intro hb<;>try omega)|fail)
    all_goals
     (with_reducible apply j8)
     ·
      exact rfl
     ·
      exact rfl
     ·
      exact rfl
     ·
      exact MSub.app3
     ·
      exact fun w hm=>hy pre ⟨n.rect, -1,0⟩ _ hus H1 _ hI w hm
     intro bb H2 hq
     cases bb
     ·
      repeat' (first|refine sT ?_|refine sI ?_|refine sM fun _=> ?_|(refine sC ?_ ?_<;>intro hb<;>try omega)|fail)
      exact jv eIO Tryz.results206 (H' :=H2++ [.box g 69 [.slice (some ⟨gl,ol,none⟩) L.length cl]]) MSub.app3r ⟨H2,.inr ⟨_,hq⟩,MSub.refl _⟩
     ·
      repeat' (first|refine sT ?_|refine sI ?_|refine sN ?_|refine sM fun _=> ?_|(refine sC ?_ ?_<;>intro hb<;>try omega)|fail)
      refine ⟨(i+1,_,H2),next _ _ (hus.trans (by rw [List.append_assoc];rfl)) hq,(by dsimp only;omega),?_,?_⟩
      ·
       exact sB
      ·
       exact MSub.app3'
  ·
   have hu:nA n i (L.drop (i+1))=⟨n.rect, -1,0⟩:=by rw [PA (by omega)];rfl
   rw [hu] at hus
   repeat' (first|(apply aa;exact rfl;exact rfl;(intro w hm;exact hran w))|(apply lO (id:=7))|refine sT ?_|refine sI ?_|refine sN ?_|refine sO ?_|refine sM fun _=> ?_|(refine sC ?_ ?_<;>intro hb<;>try omega)|fail)
   (with_reducible apply j8)
   ·
    exact rfl
   ·
    exact rfl
   ·
    exact rfl
   ·
    exact MSub.app3
   ·
    exact fun w hm=>hy pre ⟨n.rect, -1,0⟩ _ hus H1 _ hI w hm
   intro bb H2 hq
   cases bb
   ·
    repeat' (first|refine sT ?_|refine sI ?_|refine sM fun _=> ?_|(refine sC ?_ ?_<;>intro hb<;>try omega)|fail)
    exact jv eIO Tryz.results206 (H' :=H2++ [.box g 69 [.slice (some ⟨gl,ol,none⟩) L.length cl]]) MSub.app3r ⟨H2,.inr ⟨_,hq⟩,MSub.refl _⟩
   ·
    repeat' (first|refine sT ?_|refine sI ?_|refine sN ?_|refine sM fun _=> ?_|(refine sC ?_ ?_<;>intro hb<;>try omega)|fail)
    refine ⟨(i+1,_,H2),next _ _ (hus.trans (by rw [List.append_assoc];rfl)) hq,(by dsimp only;omega),?_,?_⟩
    ·
     exact sB
    ·
     exact MSub.app3'
 ·
  have e:i=L.length:=by omega
  subst e
  rw [PT,dI,Pa] at hus
  repeat' (first|refine sT ?_|refine sM fun _=> ?_|(refine sC ?_ ?_<;>intro hb<;>try omega)|fail)
  refine jv (.inr rfl) Tryz.results206 (H' := .box g 69 [.slice Al L.length cl]::H1) mS ⟨H1,.inl (hus ▸ hI),?_⟩
  exact MSub.snoc .hd (MSub.refl _)
end Go.SL
namespace Go.SL
open Go Go.Proofs
attribute [local irreducible] W WL WQ WG WA VOp thn blk bZ bA FnAt FnIn WLI WR WT ck yT ra u6
theorem Jf (A:Option Addr) (m c:Nat) (w:World):FnAt Tryz.prog 154 [.slice A m c] w fun v H=> ∃ g,v= .func (.func 206) #[] #[.pointer (some ⟨g,0,none⟩)]∧H= [.box g 69 [.slice A m c]]:=by
 refine aA Tryz.func154 rfl Tryz.ntmps154 rfl ?_
 repeat' (first|refine sT ?_|refine sM fun _=> ?_|(refine sC ?_ ?_<;>intro hb<;>try omega)|fail)
 refine bK (.inl rfl) Tryz.results154 rfl (MSub.refl _) ?_
 exact ⟨_,rfl,rfl⟩
def iH (L:List Nd):List Us × Int:=if dB L≠0 then ([],dB L) else (dY L,0)
theorem fL: ∀ (L:List Nd) (i:Nat),(dI L i).length≤L.length
 | [],_=>Ph _
 |n::r,i=>by
  have:=fL r (i+1)
  unfold dI
  cases fQ n<;>simp<;>omega
theorem xP (L:List Nd):(dY L).length≤L.length:=fL L 0
theorem oK {α:Type} (f:α→List Value) (xs:List α) (x:α):(xs++ [x]).flatMap f=xs.flatMap f++f x:=by simp
set_option maxHeartbeats 4000000 in
theorem Ms (L:List Nd) (tv:Value) (w:World) (ht:Reads w tv L.length (L.flatMap bg)) (hlen:L.length≤1000000):
  FnAt Tryz.prog 111 [tv] w fun v H=> ∃ A cap,v= .tuple #[sl A (iH L).1.length cap,.int .i64 (iH L).2]∧H= [.own A 89 6 (iH L).1.length cap ((iH L).1.flatMap bQ)]:=by
 have ht' :=ht
 obtain ⟨Al,cl,rfl,hl1,hl2,hl3⟩:=ht
 refine tr Tryz.func111 rfl Tryz.ntmps111 (by rfl) ?_
 have hck:=fun w0 (hm:Reads w0 (.slice Al L.length cl) L.length (L.flatMap bg))=>Dr L _ w0 hm
 unfold iH
 generalize dB L=e at hck
 refine p8 ?_
 refine aK 89 6 ?_
 repeat' (first|(apply aa;exact rfl;exact rfl;(intro w' hm;exact hck w' (ht'.of_w0 hm)))|(apply aS;exact rfl;exact rfl;(intro w' hm;exact Jf _ _ _ w');(rintro v H' ⟨gu,rfl,rfl⟩))|refine sT ?_|refine sR ?_|refine sM fun _=> ?_|(refine sC ?_ ?_<;>intro hb<;>try omega)|(refine sCR ?_ ?_<;>intro hb<;>try omega)|fail)
 ·
  refine Gf ?_
  refine cN (.inl rfl) Tryz.results111 rfl rfl (H' := [.own none 89 6 0 0 []]) mS ⟨none,0,?_⟩
  rw [if_pos hb]
  exact ⟨rfl,rfl⟩
 rename_i gb
 rw [if_neg hb]
 have hul:=xP L
 refine ut (ps:= [14]) (us:=dY L) (encs:=fun u=> [.agg (bQ u).toArray]) (Hc:= [.box gu 69 [.slice Al L.length cl]]) (HU0:= [.box gb 86 [.slice none 0 0],.own none 89 6 0 0 []]) rfl (fun _=>rfl) rfl (Je L _ w ht' hlen gu)
  (fun pre HU=> ∃ A cap,HU= [.box gb 86 [sl A pre.length cap],.own A 89 6 pre.length cap (pre.flatMap bQ)]) (fun _=>False) ?_ ⟨none,0,rfl⟩ ?_ ?_ ?_
 ·
  exact mS
 ·
  rintro l pre u post hus _ ⟨A,cap,rfl⟩ F F'
  have hlu:=congrArg List.length hus
  simp only [O2,Pe] at hlu
  change WR _ _ _ l _ _ ((14,Value.agg (bQ u).toArray)::_) (.box gb 86 [sl A pre.length cap]:: .own A 89 6 pre.length cap (pre.flatMap bQ)::F)
  repeat' (first|refine sT ?_|refine sR ?_|refine sM fun _=> ?_|(refine sC ?_ ?_<;>intro hb<;>try omega)|(refine sCR ?_ ?_<;>intro hb<;>try omega)|fail)
  rename_i g6
  refine wR ⟨[.box g6 89 (bQ u),.box gb 86 [sl A pre.length cap],.own A 89 6 pre.length cap (pre.flatMap bQ)],MSub.refl _,?_⟩
  change WR _ _ _ l _ _ _ (.box g6 89 (bQ u):: .box gb 86 [sl A pre.length cap]:: .own A 89 6 pre.length cap (pre.flatMap bQ)::F')
  repeat' (first|(apply bU;(iterate 3 exact rfl);(repeat first|exact .hd|apply Sel.tl|apply In.tl);(intro w hm;exact hm.cells_own (by (repeat first|exact .hd|apply Sel.tl|apply In.tl)));exact rfl;(simp [Value.oneCell',sl]);omega;(simp only [maxLen];omega);(intro A' cap' hA'))|refine sT ?_|refine sR ?_|refine sM fun _=> ?_|(refine sC ?_ ?_<;>intro hb<;>try omega)|(refine sCR ?_ ?_<;>intro hb<;>try omega)|fail)
  refine oF [.box gb 86 [sl A' (pre.length+1) cap'],.own A' 89 6 (pre.length+1) cap' (pre.flatMap bQ++bQ u)] ?_ ⟨A',cap',?_⟩
  ·
   change MSub (_::_::F') _
   exact mS
  ·
   rw [oK,O2]
   rfl
 ·
  rintro D _ ⟨A,cap,rfl⟩
  change ck _ _ _ _ _ (jG D:: .box gb 86 [sl A (dY L).length cap]:: .own A 89 6 (dY L).length cap ((dY L).flatMap bQ)::_)
  repeat' (first|refine sT ?_|refine sR ?_|refine sM fun _=> ?_|(refine sC ?_ ?_<;>intro hb<;>try omega)|(refine sCR ?_ ?_<;>intro hb<;>try omega)|fail)
  refine wG .hd ?_
  refine cN (.inl rfl) Tryz.results111 rfl rfl (H' := [.own A 89 6 (dY L).length cap ((dY L).flatMap bQ)]) mS ⟨A,cap,rfl,rfl⟩
 ·
  rintro D HU h
  exact h.elim
def rel (u:Us):Bool:=decide (0≤u.node)
def ku (r:Rct) (u:Us):Bool:=(nU u.rect r).2
end Go.SL
namespace Go.SL
open Go
abbrev Gr:=List (Rf × List Nd × List Us)
def aq (G:Gr):List Rf:=G.map fun e=>e.1
def SortG (G:Gr):Prop:=G.Pairwise fun x y=>bp x.1 y.1=true
def kI (G:Gr) (a:Rf):Option (List Nd × List Us):=(G.find? fun e=>decide (e.1=a)).map fun e=>e.2
def xy (G:Gr) (a:Rf):Gr:=G.filter fun e=>decide (e.1≠a)
def tO (G:Gr) (a:Rf) (x:List Nd × List Us):Gr:=G.filter (fun e=>bp e.1 a)++(a,x)::G.filter fun e=>bp a e.1
def gy (G:Gr) (a:Rf):List Nd:=((kI G a).map fun x=>x.1).getD []
def aD (G:Gr) (a:Rf):List Us:=((kI G a).map fun x=>x.2).getD []
def isG (G:Gr) (a:Rf):Bool:=(kI G a).isSome
def aG (us:List Us) (r:Rct):Bool:=us.any (ku r)
def cj (G:Gr) (r:Rct):List Rf:=if iL r≠0 then [] else (G.filter fun e=>aG e.2.2 r).map fun e=>e.1
def ia (us:List Us) (a:Rf):Bool:=us.any fun u=>gQ u.rect a
def dS (G:Gr):List (Rf × Rf):=G.flatMap fun e=>(G.filter fun f=>ia e.2.2 f.1).map fun f=>(e.1,f.1)
def fX (G:Gr) (a:Rf) (b:ByteArray):Gr × Int:=
 if a.valid=false then (G,3)
 else if (ofP b).2.2≠0 then (G,(ofP b).2.2)
 else if (ofP b).1.formula=false then (xy G a,0)
 else (tO G a ((ofP b).1.tree,dY (ofP b).1.tree),0)
theorem l5 {a b:Rf}:bp a b=true↔a.row<b.row∨(a.row=b.row∧a.col<b.col):=by simp [bp]
theorem oH (a:Rf):bp a a=false:=by simp [bp]
theorem s9 {a b c:Rf} (h:bp a b=true) (k:bp b c=true):bp a c=true:=by
 rw [l5] at*
 omega
theorem lm {a b:Rf} (h:bp a b=true):bp b a=false:=by
 rw [← Bool.not_eq_true,l5]
 rw [l5] at h
 omega
theorem CC {a b:Rf} (h:a≠b):bp a b=true∨bp b a=true:=by
 rw [l5,l5]
 rcases Int.lt_trichotomy a.row b.row with h1|h1|h1
 ·
  exact .inl (.inl h1)
 ·
  rcases Int.lt_trichotomy a.col b.col with h2|h2|h2
  ·
   exact .inl (.inr ⟨h1,h2⟩)
  ·
   refine absurd ?_ h
   obtain ⟨a1,a2⟩:=a
   obtain ⟨b1,b2⟩:=b
   simp only at h1 h2
   subst h1 h2;rfl
  ·
   exact .inr (.inr ⟨h1.symm,h2⟩)
 ·
  exact .inr (.inl h1)
theorem iz {a b:Rf} (h:bp a b=true):a≠b:=by
 rintro rfl
 rw [oH] at h
 cases h
theorem SortG.nodup {G:Gr} (h:SortG G):(aq G).Nodup:=by
 rw [aq,List.Nodup,SH]
 exact h.imp fun h=>iz h
theorem xU:SortG []:=List.Pairwise.nil
theorem rJ {G:Gr} (h:SortG G) (a:Rf):SortG (xy G a):=h.filter _
theorem rI {G:Gr} (h:SortG G) (a:Rf) (x:List Nd × List Us):SortG (tO G a x):=by
 refine QO.2 ⟨h.filter _,Qn.2 ⟨fun e he=> ?_,h.filter _⟩,fun e he f hf=> ?_⟩
 ·
  exact (QL.1 he).2
 ·
  have h1:=(QL.1 he).2
  rcases PF.1 hf with rfl|hf
  ·
   exact h1
  ·
   exact s9 h1 (QL.1 hf).2
theorem Ha {G:Gr} (h:SortG G) (a:Rf) (b:ByteArray):SortG (fX G a b).1:=by
 unfold fX
 split
 ·
  exact h
 ·
  split
  ·
   exact h
  ·
   split
   ·
    exact rJ h a
   ·
    exact rI h a _
theorem vU {G:Gr} {a:Rf} {x:List Nd × List Us} {e:Rf × List Nd × List Us}:e∈tO G a x↔e=(a,x)∨(e∈G∧e.1≠a):=by
 simp only [tO,Pz,PF,QL]
 constructor
 ·
  rintro (⟨h1,h2⟩|rfl|⟨h1,h2⟩)
  ·
   exact .inr ⟨h1,iz h2⟩
  ·
   exact .inl rfl
  ·
   exact .inr ⟨h1,(iz h2).symm⟩
 ·
  rintro (rfl|⟨h1,h2⟩)
  ·
   exact .inr (.inl rfl)
  ·
   rcases CC h2 with h|h
   ·
    exact .inl ⟨h1,h⟩
   ·
    exact .inr (.inr ⟨h1,h⟩)
theorem vV {G:Gr} {a:Rf} {e:Rf × List Nd × List Us}:e∈xy G a↔e∈G∧e.1≠a:=by simp [xy]
theorem mO {G:Gr} (h:SortG G) {a:Rf} {x:List Nd × List Us}:kI G a=some x↔(a,x)∈G:=by
 constructor
 ·
  intro hl
  obtain ⟨e,he,rfl⟩:=P7.1 hl
  have h1:=Sg he
  have h2:=QJ he
  simp only [decide_eq_true_eq] at h1
  subst h1
  exact h2
 ·
  intro hm
  have hn:=h.nodup
  cases hf:G.find? fun e=>decide (e.1=a) with
  |none=>
   rw [QV] at hf
   exact absurd (hf _ hm) (by simp)
  |some e=>
   have h1:=Sg hf
   have h2:=QJ hf
   simp only [decide_eq_true_eq] at h1
   have:=mT (fun e:Rf × List Nd × List Us=>e.1) hn h2 hm h1
   rw [kI,hf,this];rfl
theorem vZ {G:Gr} {a:Rf}:kI G a=none↔ ∀ e∈G,e.1≠a:=by
 rw [kI,Option.map_eq_none_iff,QV]
 simp
theorem nW {G:Gr} (h:SortG G):(aq G).Pairwise fun x y=>bp x y=true:=by
 rw [aq,SH];exact h
theorem lF {L:List Rf} (h:L.Pairwise fun x y=>bp x y=true):sortRf L=L:=by
 refine List.mergeSort_of_pairwise ?_
 exact h.imp fun h=>by rw [lm h];rfl
end Go.SL
namespace Go.SL
open Go Go.Proofs
attribute [local irreducible] W WL WQ WG WA WX WLI WR WT WC VOp RW thn blk bZ scp bA bV ck FnAt FnIn FnP ceP
theorem kg {P:Program} {n:Fr} {w0:World} {Q:cd} {s:aB} {H:List Blk} {l:List Oper} {id:Nat} (es ps:List Nat) (hm:P.follows .mixedOrders=true) (hB:Region.lexB .any l.toArray=true) (hch:Ag l es ps=true)
  (h:WC P n w0 l H es ps Q l 0 s H):W P n w0 (.region id l.toArray true) Q s H:=fj es ps H hm hB hch (MSub.refl H) h
theorem yE (L:List Us): ∀ u∈L.flatMap bQ,u.oneCell' =true:=by
 intro u hu
 obtain ⟨n,_,h⟩:=RZ.1 hu
 simp only [bQ,PF,RI,or_false] at h
 rcases h with rfl|rfl|rfl|rfl|rfl|rfl<;>rfl
theorem ID (L:List Us) (tv:Value) (w:World) (ht:Reads w tv L.length (L.flatMap bQ)) (hlen:L.length≤1000000):
  FnAt Tryz.prog 98 [tv] w fun v H=> ∃ A cap,v=sl A L.length cap∧H= [.own A 89 6 L.length cap (L.flatMap bQ)]:=by
 have ht' :=ht
 obtain ⟨At,ct,rfl,ht1,ht2,ht3⟩:=ht
 refine aA Tryz.func98 rfl Tryz.ntmps98 rfl ?_
 have hl:(L.flatMap bQ).length=L.length*6:=aQ gG L
 refine aK 89 6 ?_
 repeat' (first|(apply aj;exact rfl;apply uM;exact rfl)|(apply cG;exact rfl;intro gb)|(apply cB (n' :=0) (c:=0) (A:=some _) (m:=L.length);(iterate 3 exact rfl);exact pK;(intro w hm;exact ht'.of_w0 hm);exact hl;exact yE L;omega;(simp only [maxLen];omega);intro A' cap' hA)|refine sT ?_|refine sM fun _=> ?_|(refine sC ?_ ?_<;>intro hb<;>try omega)|fail)
 ·
  have e:L.length=0:=by
   rcases QB L.length with h|h
   ·
    exact h
   ·
    obtain ⟨g,o,rfl,_⟩:=ht3 h
    cases hb
  have e' :L= []:=Qk e
  subst e'
  exact bK (.inl rfl) Tryz.results98 rfl (.refl _) ⟨none,0,rfl,rfl⟩
 ·
  exact bK (.inl rfl) Tryz.results98 rfl (H' := [.own A' 89 6 (0+L.length) cap' ([]++L.flatMap bQ)]) mS ⟨A',cap',by rw [Pn],by rw [Pn];rfl⟩
structure En where
 at_:Rf
 ta:Option Addr
 tc:Nat
 ua:Option Addr
 uc:Nat
 tree:List Nd
 uses:List Us
 born:Nat
def En.tv (e:En):Value:= .slice e.ta e.tree.length e.tc
def En.uv (e:En):Value:= .slice e.ua e.uses.length e.uc
def En.m (e:En):Rf × Value × Nat:=(e.at_,.agg #[e.tv,e.uv],e.born)
abbrev rm:Value:= .agg [Value.slice none 0 0,.slice none 0 0].toArray
def rdIn (R:List Blk) (v:Value) (m:Nat) (xs:List Value):Prop:= ∀ w0 w,Mem w0 w R→Reads w v m xs
theorem rdIn.sub {R R' :List Blk} {v:Value} {m:Nat} {xs:List Value} (h:rdIn R v m xs) (hs:MSub R R'):rdIn R' v m xs:=fun w0 w hm=>h w0 w (hs.use hm)
theorem rdIn.nil (R:List Blk):rdIn R (.slice none 0 0) 0 []:=fun _ _ _=>⟨none,0,rfl,Ph _,Pb _,fun h=>by cases h⟩
theorem rdIn.own {R:List Blk} {A:Option Nat} {t sz m c:Nat} {xs:List Value} (hi:In (.own A t sz m c xs) R):rdIn R (sl A m c) m xs:=fun _ _ hm=>Reads.of_own hm hi
structure EnOk (R:List Blk) (e:En):Prop where
 tree:rdIn R e.tv e.tree.length (e.tree.flatMap bg)
 uses:rdIn R e.uv e.uses.length (e.uses.flatMap bQ)
 tl:e.tree.length≤1000000
 ul:e.uses.length≤1000000
theorem EnOk.sub {R R' :List Blk} {e:En} (h:EnOk R e) (hs:MSub R R'):EnOk R' e:=⟨h.tree.sub hs,h.uses.sub hs,h.tl,h.ul⟩
def y4 (a:Rf):En:=⟨a,none,0,none,0,[],[],0⟩
theorem Gn (R:List Blk) (a:Rf):EnOk R (y4 a):=⟨rdIn.nil _,rdIn.nil _,by simp [y4],by simp [y4]⟩
def dR (E:List En) (a:Rf):Option En:=E.find? fun e=>decide (e.at_=a)
def aY (E:List En) (a:Rf):En:=(dR E a).getD (y4 a)
theorem H6 {E:List En} {a:Rf} {e:En} (h:dR E a=some e):e∈E:=QJ h
theorem oJ {R:List Blk} {E:List En} (h: ∀ e∈E,EnOk R e) (a:Rf):EnOk R (aY E a):=by
 unfold aY
 cases hf:dR E a with
 |none=>exact Gn _ _
 |some e=>exact h e (H6 hf)
theorem F8 (E:List En) (a:Rf): ∀ i:Nat,(cA a (E.map En.m) i).map (fun x=>x.2)=(dR E a).map fun e=>e.m.2.1:=by
 induction E with
 |nil=>intro i;rfl
 |cons e r ih=>
  intro i
  simp only [PB,cA,dR,List.find?_cons]
  by_cases h:a=e.at_
  ·
   simp [En.m,h]
  ·
   have h' : ¬ e.at_=a:=fun x=>h x.symm
   simp only [En.m,h,if_false,h',decide_false]
   exact ih (i+1)
theorem ER (E:List En) (a:Rf):(match cA a (E.map En.m) 0 with|some (_,v)=>v|none=>rm)= .agg #[(aY E a).tv,(aY E a).uv]:=by
 have h:=F8 E a 0
 unfold aY
 cases hk:cA a (E.map En.m) 0 with
 |none=>rw [hk] at h;cases hf:dR E a with
  |none=>rfl
  |some e=>rw [hf] at h;cases h
 |some x=>rw [hk] at h;cases hf:dR E a with
  |none=>rw [hf] at h;cases h
  |some e=>rw [hf] at h;exact Option.some.inj h
theorem J5 (E:List En) (a:Rf):(match cA a (E.map En.m) 0 with|some (_,v)=>Value.tuple #[v,.bool true]|none=> .tuple #[rm,.bool false])= .tuple #[.agg #[(aY E a).tv,(aY E a).uv],.bool (dR E a).isSome]:=by
 have h:=F8 E a 0
 unfold aY
 cases hk:cA a (E.map En.m) 0 with
 |none=>rw [hk] at h;cases hf:dR E a with
  |none=>rfl
  |some e=>rw [hf] at h;cases h
 |some x=>rw [hk] at h;cases hf:dR E a with
  |none=>rw [hf] at h;cases h
  |some e=>
   rw [hf] at h
   have h1:x.2=e.m.2.1:=Option.some.inj h
   simp only [Qb,Option.isSome_some,Option.getD_some]
   rw [h1];rfl
instance klaw_key:KLaw Tryz.prog 24 aO:=klaw_F
instance:FldT Tryz.prog 180 1 86 1:=⟨_,_,Tryz.underlying180,rfl,rfl,rfl⟩
set_option maxHeartbeats 1000000 in
theorem Mr (gg gm clock:Nat) (E:List En) (a:Rf) (R:List Blk) (w0:World) (hE: ∀ e∈E,EnOk R e):
  FnIn Tryz.prog 38 [.pointer (some ⟨gg,0,none⟩),aO a] w0 (gB gg gm (E.map En.m) clock++R) fun v H=> ∃ A cap,v=sl A (aY E a).uses.length cap∧H= .own A 89 6 (aY E a).uses.length cap ((aY E a).uses.flatMap bQ)::(gB gg gm (E.map En.m) clock++R):=by
 refine bM Tryz.func38 rfl Tryz.ntmps38 rfl ?_
 have hl:=ER E a
 have hok:=oJ hE a
 generalize aY E a=e at hl hok
 have hcl:=fun (w' :World) (H' :List Blk) (hs:MSub R H') (hm:Mem w0 w' H')=>ID e.uses e.uv w' (hok.uses _ w' (hs.use hm)) hok.ul
 unfold gB
 repeat' (first|(apply aj;exact rfl;apply dr;exact rfl)|(apply kg (id:=3) [7] [];kernel_rfl;kernel_rfl;kernel_rfl)|(apply ep;(iterate 3 exact rfl);apply cH (enc:=aO) (z:=rm);exact rfl;exact rfl;exact pK;exact hl)|(apply ep;(iterate 3 exact rfl);apply dz;exact rfl;exact rfl)|(apply aS (f:=98);exact rfl;exact rfl;(intro w' hm;exact hcl w' _ mS hm);rintro _ _ ⟨A,cap,rfl,rfl⟩)|refine sT ?_|refine sS ?_|refine sW ?_|refine sM fun _=> ?_|(refine sC ?_ ?_<;>intro hb<;>try omega)|(refine sCW ?_ ?_<;>intro hb<;>try omega)|fail)
 all_goals exact bK eIO rfl rfl mS ⟨A,cap,rfl,rfl⟩
set_option maxHeartbeats 1000000 in
theorem Mu (gg gm clock:Nat) (E:List En) (a:Rf) (R:List Blk) (w0:World) (hE: ∀ e∈E,EnOk R e):
  FnIn Tryz.prog 33 [.pointer (some ⟨gg,0,none⟩),aO a] w0 (gB gg gm (E.map En.m) clock++R) fun v H=> ∃ A cap,v= .tuple #[sl A (aY E a).tree.length cap,.bool (dR E a).isSome]∧H= .own A 157 11 (aY E a).tree.length cap ((aY E a).tree.flatMap bg)::(gB gg gm (E.map En.m) clock++R):=by
 refine bM Tryz.func33 rfl Tryz.ntmps33 rfl ?_
 have hl:=J5 E a
 have hok:=oJ hE a
 generalize aY E a=e at hl hok
 have hcl:=fun (w' :World) (H' :List Blk) (hs:MSub R H') (hm:Mem w0 w' H')=>KM e.tree e.tv w' (hok.tree _ w' (hs.use hm)) hok.tl
 unfold gB
 repeat' (first|(apply aj;exact rfl;apply dr;exact rfl)|(apply kg (id:=3) [9,10] [];kernel_rfl;kernel_rfl;kernel_rfl)|(apply ep;(iterate 3 exact rfl);apply uH (enc:=aO) (z:=rm);exact rfl;exact rfl;exact pK;exact hl)|(apply aS (f:=95);exact rfl;exact rfl;(intro w' hm;exact hcl w' _ mS hm);rintro _ _ ⟨A,cap,rfl,rfl⟩)|refine sT ?_|refine sS ?_|refine sW ?_|refine sM fun _=> ?_|(refine sC ?_ ?_<;>intro hb<;>try omega)|(refine sCW ?_ ?_<;>intro hb<;>try omega)|fail)
 all_goals exact cN eIO rfl rfl rfl mS ⟨A,cap,rfl,rfl⟩
theorem Kk (u:Us) (b:Rf) (g:Nat) (w:World) (hr:Ro w g 0 (aw b)):aF Tryz.prog 129 [.agg (bQ u).toArray,.pointer (some ⟨g,0,none⟩)] w (.bool (gQ u.rect b)):=by
 refine aA Tryz.func129 rfl Tryz.ntmps129 rfl ?_
 have hh:=fun w=>Az u.rect b w
 repeat' (first|(apply aj;exact rfl;apply aZ (o:=0);exact rfl;exact hr;exact rfl)|(apply aa;exact rfl;exact rfl;(intro w hm;exact hh w))|refine sT ?_|refine sM fun _=> ?_|(refine sC ?_ ?_<;>intro hb<;>try omega)|fail)
 all_goals exact bK eIO rfl rfl (.nil _) rfl
def EV (q:Us→Bool) (L:List Us):Int:=match L.findIdx? q with|some i=>(i:Int)|none=> -1
set_option maxHeartbeats 1000000 in
theorem IB (f:FuncId) [Callable Tryz.prog f] (caps:List Value) (q:Us→Bool) (L:List Us) (hlen:L.length≤1000000) (tv:Value) (w:World) (ht:Reads w tv L.length (L.flatMap bQ))
  (hf: ∀ u w' H,Mem w w' H→aF Tryz.prog f ([.agg (bQ u).toArray]++caps) w' (.bool (q u))):
  aF Tryz.prog 127 [tv,.func (.func f) #[] caps.toArray] w (.int .i64 (EV q L)):=by
 obtain ⟨Al,cl,rfl,hl1,hl2,hl3⟩:=ht
 refine aA Tryz.func127 rfl Tryz.ntmps127 rfl ?_
 repeat' (first|refine sT ?_|refine sM fun _=> ?_|(refine sC ?_ ?_<;>intro hb<;>try omega)|fail)
 refine eH (fun i:Nat=> [(0,.slice Al L.length cl),(1,.func (.func f) #[] caps.toArray),(7,.int .i64 (L.length:Int)),(8,.int .i64 (i:Int))]) (fun _=> []) (fun i=>i≤L.length∧ ∀ j (h:j<L.length),j<i→q L[j]=false) (fun i=>L.length - i) 0 ⟨by omega,fun j _ h=>by omega⟩ sB (.refl _) ?_
 rintro i ⟨hi,hno⟩
 by_cases hlt:i<L.length
 ·
  obtain ⟨gl,ol,rfl,hrl⟩:=hl3 (by omega)
  have he:=hrl.elem gG i hlt
  have hq:=fun w' H=>hf L[i] w' H
  have hnext:q L[i]=false→ ∀ j (h:j<L.length),j<i+1→q L[j]=false:=fun h0 j h hj=>by
   by_cases e:j=i
   ·
    subst e;exact h0
   ·
    exact hno j h (by omega)
  have hres:q L[i]=true→EV q L=(i:Int):=fun h0=>by
   unfold EV
   rw [P8.2 ⟨hlt,h0,fun j hj=>by rw [hno j (by omega) hj];simp⟩]
  generalize L[i]=u at he hq hnext hres
  generalize q u=b at hq hnext hres
  repeat' (first|(apply iP;exact rfl;exact rfl;infer_instance;exact rfl;(intro w' hm;exact hq w' _ hm))|refine sT ?_|refine sN ?_|refine sO ?_|refine sM fun _=> ?_|(refine sC ?_ ?_<;>intro hb<;>try omega)|fail)
  all_goals first
   |(refine bK eIO rfl rfl (.nil _) ?_;rw [hres (by assumption)];done)
   |(refine ⟨i+1,⟨hlt,hnext (by assumption)⟩,by omega,?_,.nil _⟩;exact sB;done)
 ·
  have e:i=L.length:=by omega
  subst e
  have hres:EV q L= -1:=by
   unfold EV
   rw [Qg.2 fun x hx=>by
    obtain ⟨j,hj,rfl⟩:=P1 hx
    exact hno j hj hj]
  repeat' (first|refine sT ?_|refine sM fun _=> ?_|(refine sC ?_ ?_<;>intro hb<;>try omega)|fail)
  all_goals (refine bK eIO rfl rfl (.nil _) ?_;rw [hres])
theorem rk (f:FuncId) [Callable Tryz.prog f] (caps:List Value) (q:Us→Bool) (L:List Us) (hlen:L.length≤1000000) (tv:Value) (w:World) (ht:Reads w tv L.length (L.flatMap bQ))
  (hf: ∀ u w' H,Mem w w' H→aF Tryz.prog f ([.agg (bQ u).toArray]++caps) w' (.bool (q u))):
  aF Tryz.prog 73 [tv,.func (.func f) #[] caps.toArray] w (.bool (L.any q)):=by
 refine aA Tryz.func73 rfl Tryz.ntmps73 rfl ?_
 have hI:=fun (w' :World) (H:List Blk) (hm:Mem w w' H)=>IB f caps q L hlen tv w' (ht.of_w0 hm) (fun u w2 H2 hm2=>hf u w2 _ (hm.call hm2))
 have hres:decide (0≤EV q L)=L.any q:=by
  unfold EV
  cases h:L.findIdx? q with
  |none=>
   rw [Qg] at h
   have:L.any q=false:=by rw [List.any_eq_false];exact fun x hx=>by rw [h x hx];simp
   rw [this];rfl
  |some i=>
   obtain ⟨h1,h2,_⟩:=P8.1 h
   have:L.any q=true:=Ql.2 ⟨_,PG h1,h2⟩
   rw [this];simp
 repeat' (first|(apply aa (f:=127);exact rfl;exact rfl;(intro w' hm;exact hI w' _ hm))|refine sT ?_|refine sM fun _=> ?_|(refine sC ?_ ?_<;>intro hb<;>try omega)|fail)
 all_goals (refine bK eIO rfl rfl (.nil _) ?_;rw [hres])
def dm (p:Rf × Rf):List Value:= [.int .i64 p.1.col,.int .i64 p.1.row,.int .i64 p.2.col,.int .i64 p.2.row]
theorem r9 (p:Rf × Rf):(dm p).length=4:=rfl
def lG (q:Rf→Rf→Bool) (F:List Rf) (a:Rf):List (Rf × Rf):=(F.filter (q a)).map fun b=>(a,b)
def iA (q:Rf→Rf→Bool) (F G:List Rf):List (Rf × Rf):=G.flatMap (lG q F)
theorem Hm {q:Rf→Rf→Bool} {F:List Rf} {a:Rf} {k:Nat} (h:k<F.length):lG q (F.take (k+1)) a=if q a F[k] then lG q (F.take k) a++ [(a,F[k])] else lG q (F.take k) a:=by
 rw [Po h]
 simp only [lG,List.filter_append,P4,RA,SB]
 split<;>simp
theorem Da {q:Rf→Rf→Bool} {F G:List Rf} {i:Nat} (h:i<G.length):iA q F (G.take (i+1))=iA q F (G.take i)++lG q F G[i]:=by
 rw [Po h]
 simp only [iA,Pj,Pd,Pq,Pa]
theorem BH (q:Rf→Rf→Bool) (F:List Rf) (a:Rf):(lG q F a).length≤F.length:=by
 simp only [lG,Ps]
 exact QE _ _
theorem wL (q:Rf→Rf→Bool) (F:List Rf): ∀ G:List Rf,(iA q F G).length≤G.length*F.length
 | []=>Pb _
 |a::r=>by
  have h1:=BH q F a
  have h2:=wL q F r
  have:iA q F (a::r)=lG q F a++iA q F r:=rfl
  rw [this,O2,Pe,QH,RK]
  omega
def si (E:List En):List (Rf × Rf):=iA (fun a b=>ia (aY E a).uses b) (f7 (E.map En.m)) (f7 (E.map En.m))
theorem mV (es:List (Rf × Value × Nat)):(f7 es).length=es.length:=by
 have:=(SA (es.map fun e=>e.1) (fun x y=> !(bp y x))).length_eq
 simp [f7,sortRf]
set_option maxHeartbeats 2000000 in
theorem KL (gg gm clock:Nat) (E:List En) (hok:MapOk (E.map En.m) clock) (hlen:E.length≤1000) (R:List Blk) (w0:World) (hE: ∀ e∈E,EnOk R e):
  FnIn Tryz.prog 77 [.pointer (some ⟨gg,0,none⟩)] w0 (gB gg gm (E.map En.m) clock++R) fun v H=> ∃ A cap,v=sl A (si E).length cap∧H= .own A 151 4 (si E).length cap ((si E).flatMap dm)::(gB gg gm (E.map En.m) clock++R):=by
 refine bM Tryz.func77 rfl Tryz.ntmps77 rfl ?_
 have hF:=fun R=>oo gg gm clock (E.map En.m) hok (by simp;omega) R w0
 have hfl:(f7 (E.map En.m)).length≤1000:=by rw [mV];simpa using hlen
 have hl2:(E.map En.m).length=(f7 (E.map En.m)).length:=(mV _).symm
 unfold si
 rw [hl2] at hF
 generalize f7 (E.map En.m)=F at hF hfl
 refine aK 151 4 ?_
 repeat' (first|(apply ak (f:=28);exact rfl;exact rfl;exact FnIn.msub (hF (.own none 151 4 0 0 []::R)) (by unfold gB;exact mS);rintro _ _ ⟨A0,c0,rfl,rfl⟩)|refine sT ?_|refine sS ?_|refine sM fun _=> ?_|(refine sC ?_ ?_<;>intro hb<;>try omega)|fail)
 unfold gB
 refine ax [0,4,14,15] rfl (fun x:Nat × Option Nat × Nat=> [(3,sl x.2.1 (iA (fun a b=>ia (aY E a).uses b) F (F.take x.1)).length x.2.2),(16,.int .i64 (x.1:Int))])
  (fun x=> .own x.2.1 151 4 (iA (fun a b=>ia (aY E a).uses b) F (F.take x.1)).length x.2.2 ((iA (fun a b=>ia (aY E a).uses b) F (F.take x.1)).flatMap dm):: .own A0 24 2 F.length c0 (F.flatMap aw):: .box gg 165 [.map (some gm)]:: .obj gm (cw aO (E.map En.m) clock)::R)
  (fun x=>x.1≤F.length) (fun x=>F.length - x.1) (0,none,0) (Pb _) ?_ ?_ ?_
 ·
  exact sB
 ·
  simp only [iA,Qj,Pq,Qh]
  exact mS
 rintro ⟨i,A,cap⟩ hi
 dsimp only at hi ⊢
 by_cases hlt:i<F.length
 ·
  have htake:=Da (q:=fun a b=>ia (aY E a).uses b) (F:=F) hlt
  have hel:(iA (fun a b=>ia (aY E a).uses b) F (F.take i)).length≤1000*1000:=by
   have h1:=wL (fun a b=>ia (aY E a).uses b) F (F.take i)
   rw [Pr] at h1
   exact PK h1 (Nat.mul_le_mul (by omega) hfl)
  have hv0:((F.flatMap aw).drop (i*2)).take 2=aw F[i]:=cK dO F i hlt
  have hl:=ER E F[i]
  have hoke:=oJ hE F[i]
  have hq:lG (fun a b=>ia (aY E a).uses b) F F[i]=lG (fun _ b=>ia (aY E F[i]).uses b) F F[i]:=rfl
  rw [hq] at htake
  generalize F[i]=a at hv0 hl hoke htake
  generalize aY E a=e at hl hoke htake
  generalize iA (fun a b=>ia (aY E a).uses b) F (F.take i)=X at htake hel
  refine bW (A:=A0) pK (by omega) fun g0 hA0=> ?_
  subst hA0
  repeat' (first|(apply aj;exact rfl;apply ag;exact rfl;exact rfl;exact hlt)|(apply aj;exact rfl;apply az (ys:=aw a);exact rfl;exact pK;(rw [Pn];exact hv0);exact rfl)|(apply ep;(iterate 3 exact rfl);apply dr;exact rfl)|(apply kg (id:=8) [] [];kernel_rfl;kernel_rfl;kernel_rfl)|(apply ep;(iterate 3 exact rfl);apply cH (enc:=aO) (z:=rm);exact rfl;exact rfl;exact pK;exact hl)|(apply ep;(iterate 3 exact rfl);apply dz;exact rfl;exact rfl)|refine sT ?_|refine sS ?_|refine sW ?_|refine sN ?_|refine sWN ?_|refine sM fun _=> ?_|(refine sC ?_ ?_<;>intro hb<;>try omega)|(refine sCW ?_ ?_<;>intro hb<;>try omega)|fail)
  rename_i g6
  refine ax [0,4,6,7,14,15,16,27,28] rfl (fun x:Nat × Option Nat × Nat=> [(3,sl x.2.1 (X++lG (fun _ b=>ia e.uses b) (F.take x.1) a).length x.2.2),(29,.int .i64 (x.1:Int))])
   (fun x=> .box g6 24 (aw a):: .own x.2.1 151 4 (X++lG (fun _ b=>ia e.uses b) (F.take x.1) a).length x.2.2 ((X++lG (fun _ b=>ia e.uses b) (F.take x.1) a).flatMap dm):: .own (some g0) 24 2 F.length c0 (F.flatMap aw):: .box gg 165 [.map (some gm)]:: .obj gm (cw aO (E.map En.m) clock)::R)
   (fun x=>x.1≤F.length) (fun x=>F.length - x.1) (0,A,cap) (Pb _) ?_ ?_ ?_
  ·
   simp only [lG,Qj,SB,P3,Pa]
   exact sB
  ·
   simp only [lG,Qj,SB,P3,Pa]
   exact mS
  rintro ⟨k,A2,cap2⟩ hk
  dsimp only at hk ⊢
  by_cases hkt:k<F.length
  ·
   have hrow:=Hm (q:=fun _ b=>ia e.uses b) (a:=a) hkt
   have hrl:(lG (fun _ b=>ia e.uses b) (F.take k) a).length≤1000:=by
    have:=BH (fun _ b=>ia e.uses b) (F.take k) a
    rw [Pr] at this
    omega
   have hv1:((F.flatMap aw).drop (k*2)).take 2=aw F[k]:=cK dO F k hkt
   generalize F[k]=b at hv1 hrow
   have hcf:=fun (g9:Nat) (w' :World) (H' :List Blk) (hs:MSub R H') (hi:In (.box g9 24 (aw b)) H') (hm:Mem w0 w' H')=>rk 129 [.pointer (some ⟨g9,0,none⟩)] (fun u=>gQ u.rect b) e.uses hoke.ul e.uv w' (hoke.uses _ w' (hs.use hm)) (fun u w2 H2 hm2=>Kk u b g9 w2 (Ro.next (Ro.of_box hm hi) hm2))
   have hU:(e.uses.any fun u=>gQ u.rect b)=ia e.uses b:=rfl
   rw [hU] at hcf
   generalize ia e.uses b=yes at hcf hrow
   generalize lG (fun _ b=>ia e.uses b) (F.take k) a=Y at hrow hrl
   have hXY:(X++Y).length≤1002000:=by rw [O2];omega
   have hXYs:(X++Y).length+1=(X++(Y++ [(a,b)])).length:=by simp [Qf]
   have hXYf:(X++Y).flatMap dm++dm (a,b)=(X++(Y++ [(a,b)])).flatMap dm:=by simp
   repeat' (first|(apply aj;exact rfl;apply ag;exact rfl;exact rfl;exact hkt)|(apply aj;exact rfl;apply az (ys:=aw b);exact rfl;exact pK;(rw [Pn];exact hv1);exact rfl)|(apply aa (f:=73);exact rfl;exact rfl;(intro w' hm;exact hcf _ w' _ mS pK hm))|(apply ux;(iterate 6 exact rfl))|(apply aU (news:=dm (a,b));(iterate 3 exact rfl);exact pK;exact pK;exact rfl;(simp [dm,Value.oneCell']);omega;(simp only [maxLen];omega);(intro g3 cap3;rw [hXYs,hXYf]))|refine sT ?_|refine sS ?_|refine sN ?_|refine sM fun _=> ?_|(refine sC ?_ ?_<;>intro hb<;>try omega)|fail)
   ·
    rw [hb] at hrow
    simp only [if_true] at hrow
    refine ⟨(k+1,some g3,cap3),hkt,(by dsimp only;omega),?_,?_,?_⟩
    ·
     dsimp only
     rw [hrow]
     exact sB
    ·
     exact sB
    ·
     dsimp only
     rw [hrow]
     exact mS
   ·
    rw [hb] at hrow
    simp only [PH,if_false] at hrow
    refine ⟨(k+1,A2,cap2),hkt,(by dsimp only;omega),?_,?_,?_⟩
    ·
     dsimp only
     rw [hrow]
     exact sB
    ·
     exact sB
    ·
     dsimp only
     rw [hrow]
     exact mS
  ·
   have e2:k=F.length:=by omega
   subst e2
   have htake' :=htake
   rw [show F.take F.length=F from Qe] at*
   repeat' (first|refine sT ?_|refine sS ?_|refine sN ?_|refine sM fun _=> ?_|(refine sC ?_ ?_<;>intro hb<;>try omega)|fail)
   refine ⟨(i+1,A2,cap2),hlt,(by dsimp only;omega),?_,?_,?_⟩
   ·
    dsimp only
    rw [htake]
    exact sB
   ·
    exact sB
   ·
    dsimp only
    rw [htake]
    exact mS
 ·
  have e2:i=F.length:=by omega
  subst e2
  rw [Qe]
  repeat' (first|refine sT ?_|refine sS ?_|refine sM fun _=> ?_|(refine sC ?_ ?_<;>intro hb<;>try omega)|fail)
  all_goals exact bK eIO rfl rfl mS ⟨A,cap,rfl,rfl⟩
end Go.SL
