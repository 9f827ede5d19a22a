/-
  Lemmas and walks, put together: Q9 Q10 G1 Fd Fc G2 Rf Ri Hd Ro.
-/
import Derived.Carry
import Derived.Deep.Slices
import Derived.OpenShut
import Derived.ProofKit
import Derived.LaidMore
import Derived.Lay
import Derived.SevenTiedAt
import Derived.Stop.Joined
import Derived.Test.YthefeclkaaocnaaGreatDoorRows
import Derived.Test.YthefeclkaaocnaaGreatDoorCards
import Derived.Test.YthefeclkaaocnaaGreatDoorTie
import Derived.Test.YthefeclkaaocnaaGreatDoorKl27
import Derived.Test.YthefeclkaaocnaaGreatDoorKl28
set_option linter.unusedSimpArgs false
set_option linter.unusedVariables false
set_option maxRecDepth 20000
namespace Go.SL
open Go Go.Proofs
attribute [local irreducible] W WL WQ WG WA WX WLI WR WT WC VOp RW thn blk bS scp bq bF cj aS FnIn FnP ceP
set_option maxHeartbeats 2000000 in
theorem FK (b:ByteArray) (w:World):aS Tryz.prog 159 [.string b] w fun v H=> ∃ A cap,v=ofV A cap (ofP b)∧H= [.own A 174 11 (ofP b).1.tree.length cap ((ofP b).1.tree.flatMap bY)]:=by
 refine aq Tryz.func159 rfl Tryz.ntmps159 rfl ?_
 refine aJ 174 11 ?_
 rw [Ke]
 unfold ofR
 by_cases hlen:256<b.size
 ·
  rw [if_pos hlen]
  repeat' (first|refine sT ?_|refine sS ?_|refine sT2 ?_|refine sM fun _=> ?_|(refine sC ?_ ?_<;>intro hb<;>try omega)|fail)
  all_goals first
   |(exfalso;omega)
   |exact eR eIO rfl rfl pK rfl rfl rfl (H' := [.own none 174 11 0 0 []]) mS ⟨none,0,rfl,rfl⟩
 rw [if_neg hlen]
 repeat' (first|refine sT ?_|refine sS ?_|refine sT2 ?_|refine sM fun _=> ?_|(refine sC ?_ ?_<;>intro hb<;>try omega)|fail)
 all_goals try (exfalso;omega)
 rename_i g2
 refine ax [0,2] rfl (fun i:Nat=> [(5,.int .i64 (i:Int))]) (fun _=> [.box g2 192 [.bool false,.int .u8 0,.int .i64 0,.string av,.slice none 0 0],.own none 174 11 0 0 []]) (fun i=>i≤b.size∧ ∀ j,j<i→bp (bat b j)=true) (fun i=>b.size - i) 0 ⟨by omega,fun j h=>by omega⟩ sB mS ?_
 rintro i ⟨hi,hpl⟩
 by_cases hlt:i<b.size
 ·
  by_cases hc:bp (bat b i)=true
  ·
   have hc' :=hc
   simp only [bp,LM,decide_eq_true_eq] at hc'
   repeat' (first|(apply ak (d:=21);exact rfl;apply aU (j:=i);exact rfl;exact rfl;omega)|(apply ak (d:=26);exact rfl;apply aU (j:=i);exact rfl;exact rfl;omega)|refine sT ?_|refine sS ?_|refine sT2 ?_|refine sN ?_|refine sM fun _=> ?_|(refine sC ?_ ?_<;>intro hb<;>try omega)|fail)
   all_goals try (exfalso;omega)
   refine ⟨i+1,?_,(by first|omega|(dsimp only;omega)),sB,sB,mS⟩
   refine ⟨hlt,fun j hj=> ?_⟩
   rcases (by omega:j<i∨j=i) with h|rfl
   ·
    exact hpl j h
   ·
    exact hc
  ·
   have hc' :=hc
   simp only [bp,LM,decide_eq_true_eq] at hc'
   have hf:(ap b).findIdx? (fun c=> !bp c)=some i:=lz hlt (by simp [hc]) fun j hj=>by rw [hpl j hj];rfl
   rw [hf]
   repeat' (first|(apply ak (d:=21);exact rfl;apply aU (j:=i);exact rfl;exact rfl;omega)|(apply ak (d:=26);exact rfl;apply aU (j:=i);exact rfl;exact rfl;omega)|refine sT ?_|refine sS ?_|refine sT2 ?_|refine sN ?_|refine sM fun _=> ?_|(refine sC ?_ ?_<;>intro hb<;>try omega)|fail)
   all_goals first
    |(exfalso;omega)
    |exact eR eIO rfl rfl pK rfl rfl rfl (H' := [.own none 174 11 0 0 []]) mS ⟨none,0,rfl,rfl⟩
 ·
  have e:i=b.size:=by omega
  subst e
  have hf:(ap b).findIdx? (fun c=> !bp c)=none:=kz fun j hj=>by rw [hpl j hj];rfl
  rw [hf]
  dsimp only
  have hhd:(ap b).headD 0=bat b 0:=by have:=lp (a:=b) (i:=0);rwa [MP] at this
  rw [hhd]
  have hC:=fun w=>xU b (by omega) w
  by_cases h61:bat b 0≠61
  ·
   rw [if_pos h61]
   by_cases h0:b=av
   ·
    repeat' (first|(apply ak (d:=32);exact rfl;apply kP;exact rfl;exact rfl;exact h0)|(apply aa;exact rfl;exact rfl;(intro w hm;exact hC w))|refine sT ?_|refine sS ?_|refine sT2 ?_|refine sN ?_|refine sM fun _=> ?_|(refine sC ?_ ?_<;>intro hb<;>try omega)|fail)
    all_goals first
     |(exfalso;omega)
     |exact eR eIO rfl rfl pK rfl rfl rfl (H' := [.own none 174 11 0 0 []]) mS ⟨none,0,rfl,rfl⟩
   ·
    have hpos:0<b.size:=by
     rcases Mx b.size with h|h
     ·
      exact absurd (ByteArray.ext (Array.eq_empty_of_size_eq_zero h)) h0
     ·
      exact h
    repeat' (first|(apply ak (d:=32);exact rfl;apply dz;exact rfl;exact rfl;exact h0)|(apply ak (d:=35);exact rfl;apply aU (j:=0);exact rfl;exact rfl;exact hpos)|(apply aa;exact rfl;exact rfl;(intro w hm;exact hC w))|refine sT ?_|refine sS ?_|refine sT2 ?_|refine sN ?_|refine sM fun _=> ?_|(refine sC ?_ ?_<;>intro hb<;>try omega)|fail)
    all_goals first
     |(exfalso;omega)
     |exact eR eIO rfl rfl pK rfl rfl rfl (H' := [.own none 174 11 0 0 []]) mS ⟨none,0,rfl,rfl⟩
  ·
   rw [if_neg h61]
   have h61:bat b 0=61:=Classical.not_not.1 h61
   have hpos:0<b.size:=by
    rcases Mx b.size with h|h
    ·
     rw [gT (by omega)] at h61;cases h61
    ·
     exact h
   have h0:b≠av:=by
    rintro rfl
    exact absurd hpos (by decide)
   have hF:=fun (w' :World)=>tB (sub b 1 b.size) w' _ rfl
   obtain ⟨⟨t,at0,e0⟩,hr⟩: ∃ x,cP (bG bz (ap (sub b 1 b.size))) ((sub b 1 b.size).size:Int)=x:=⟨_,rfl⟩
   simp only [hr,Cu] at hF
   rw [hr]
   dsimp only
   by_cases he:e0≠0
   ·
    rw [if_pos he]
    repeat' (first|(apply ak (d:=32);exact rfl;apply dz;exact rfl;exact rfl;exact h0)|(apply ak (d:=35);exact rfl;apply aU (j:=0);exact rfl;exact rfl;exact hpos)|(apply ak (d:=43);exact rfl;apply qG (lo:=1);exact rfl;exact rfl;omega)|(apply aG (f:=210);exact rfl;exact rfl;(intro w' hm';exact hF w');rintro _ _ ⟨A,cap,rfl,rfl⟩)|(apply ak;exact rfl;apply qO;exact rfl;exact rfl)|refine sT ?_|refine sS ?_|refine sT2 ?_|refine sN ?_|refine sM fun _=> ?_|(refine sC ?_ ?_<;>intro hb<;>try omega)|fail)
    all_goals first
     |(exfalso;omega)
     |exact eR eIO rfl rfl pK rfl rfl rfl (H' := [.own none 174 11 0 0 []]) mS ⟨none,0,rfl,rfl⟩
   ·
    rw [if_neg he]
    repeat' (first|(apply ak (d:=32);exact rfl;apply dz;exact rfl;exact rfl;exact h0)|(apply ak (d:=35);exact rfl;apply aU (j:=0);exact rfl;exact rfl;exact hpos)|(apply ak (d:=43);exact rfl;apply qG (lo:=1);exact rfl;exact rfl;omega)|(apply aG (f:=210);exact rfl;exact rfl;(intro w' hm';exact hF w');rintro _ _ ⟨A,cap,rfl,rfl⟩)|(apply ak;exact rfl;apply qO;exact rfl;exact rfl)|refine sT ?_|refine sS ?_|refine sT2 ?_|refine sN ?_|refine sM fun _=> ?_|(refine sC ?_ ?_<;>intro hb<;>try omega)|fail)
    all_goals first
     |(exfalso;omega)
     |exact eR eIO rfl rfl pK rfl rfl rfl (H' := [.own A 174 11 t.length cap (t.flatMap bY)]) mS ⟨A,cap,rfl,rfl⟩
set_option maxHeartbeats 2000000 in
theorem xR (L:List Et) (tv:Value) (w:World) (ht:Reads w tv L.length (L.flatMap aH)) (i:Nat) (hlt:i<L.length):
  ay Tryz.prog 126 [tv,.int .i64 (i:Int)] w (.int .i64 (jk (ia L i) L[i])):=by
 obtain ⟨Al,cl,rfl,hl1,hl2,hl3⟩:=ht
 refine aq Tryz.func126 rfl Tryz.ntmps126 rfl ?_
 obtain ⟨gl,ol,rfl,hrl⟩:=hl3 (by omega)
 have he:=hrl.elem aW i hlt
 have hprev: ∀ h:0<i,Ro w gl (ol+(i - 1)*3) (aH L[i - 1]):=fun h=>hrl.elem aW (i - 1) (by omega)
 have hbef: ∀ h:0<i,ia L i=some L[i - 1].at_:=fun h=>by unfold ia;rw [if_neg (by omega),LF (by omega)];rfl
 have hbef0:i=0→ia L i=none:=fun h=>by unfold ia;rw [if_pos h]
 generalize L[i]=e at he ⊢
 obtain ⟨fo,hfo⟩: ∃ fo,jk (ia L i) e=fo:=⟨_,rfl⟩
 rw [hfo]
 have hV: ∀ w',ay Tryz.prog 157 [.agg (cB e.at_).toArray] w' (.bool e.at_.valid):=fun w' =>kX e.at_.col e.at_.row w'
 have hO:=fun (w' :World)=>FK e.input w'
 have hofV: ∀ (A:Option Nat) (cap:Nat),ofV A cap (ofP e.input)= .tuple #[.agg (zb (ofP e.input).1 (sl A (ofP e.input).1.tree.length cap)).toArray,.int .i64 (ofP e.input).2.1,.int .i64 (ofP e.input).2.2]:=fun _ _=>rfl
 simp only [hofV] at hO
 unfold jk at hfo
 generalize ofP e.input=o at hO hfo
 obtain ⟨⟨f1,f2,f3⟩,oa,oe⟩:=o
 simp only [zb] at hO
 generalize e.at_.valid=vd at hV hfo
 have hle: ∀ (w' :World),True:=fun _=>trivial
 by_cases h0:0<i
 ·
  have hp:=hprev h0
  rw [hbef h0] at hfo
  generalize L[i - 1]=b at hp hfo
  have hL:=fun w' =>AH b.at_ e.at_ w'
  replace hfo:(if vd=false then (3:Int) else if fj b.at_ e.at_=false then 12 else if e.input=av then 2 else oe)=fo:=hfo
  generalize fj b.at_ e.at_=ls at hL hfo
  repeat' (first|(apply ak (d:=10);exact rfl;apply aj;exact rfl;exact rfl;exact hlt)|(apply ak (d:=12);exact rfl;apply dY (off:=0) (ys:=cB e.at_) he;(iterate 3 exact rfl))|(apply aK (d:=20);exact rfl;apply du;exact rfl;exact rfl;exact h0;(simp only [maxLen] at*;omega))|(apply aK (d:=21);exact rfl;apply aj (j:=i - 1);exact rfl;exact rfl;omega)|(apply aK (d:=23);exact rfl;apply dY (off:=0) (ys:=cB b.at_) hp;(iterate 3 exact rfl))|(apply aK (d:=26);exact rfl;apply aj (j:=i);exact rfl;exact rfl;exact hlt)|(apply aK (d:=28);exact rfl;apply dY (off:=0) (ys:=cB e.at_) he;(iterate 3 exact rfl))|(apply ak (d:=34);exact rfl;apply aj;exact rfl;exact rfl;exact hlt)|(apply ak (d:=36);exact rfl;apply dh (off:=2);exact rfl;exact he;exact rfl)|(apply ak (d:=41);exact rfl;apply aj;exact rfl;exact rfl;exact hlt)|(apply ak (d:=43);exact rfl;apply dh (off:=2);exact rfl;exact he;exact rfl)|(apply aa;exact rfl;exact rfl;(intro w hm;exact hV w))|(apply dX;exact rfl;exact rfl;(intro w hm;exact hL w))|(apply aG (f:=159);exact rfl;exact rfl;(intro w' hm;exact hO w');rintro _ _ ⟨A,cap,rfl,rfl⟩)|refine sT ?_|refine sS ?_|refine sQ ?_|refine sN ?_|refine sNQ ?_|refine sD ?_|refine sM fun _=> ?_|(refine sC ?_ ?_<;>intro hb<;>try omega)|(refine sCQ ?_ ?_<;>intro hb<;>try omega)|fail)
  all_goals (refine cQ eIO rfl rfl (.nil _) ?_;simp_all [av];done)
 ·
  rw [hbef0 (by omega)] at hfo
  repeat' (first|(apply ak (d:=10);exact rfl;apply aj;exact rfl;exact rfl;exact hlt)|(apply ak (d:=12);exact rfl;apply dY (off:=0) (ys:=cB e.at_) he;(iterate 3 exact rfl))|(apply ak (d:=34);exact rfl;apply aj;exact rfl;exact rfl;exact hlt)|(apply ak (d:=36);exact rfl;apply dh (off:=2);exact rfl;exact he;exact rfl)|(apply ak (d:=41);exact rfl;apply aj;exact rfl;exact rfl;exact hlt)|(apply ak (d:=43);exact rfl;apply dh (off:=2);exact rfl;exact he;exact rfl)|(apply aa;exact rfl;exact rfl;(intro w hm;exact hV w))|(apply aG (f:=159);exact rfl;exact rfl;(intro w' hm;exact hO w');rintro _ _ ⟨A,cap,rfl,rfl⟩)|refine sT ?_|refine sS ?_|refine sQ ?_|refine sN ?_|refine sNQ ?_|refine sD ?_|refine sM fun _=> ?_|(refine sC ?_ ?_<;>intro hb<;>try omega)|(refine sCQ ?_ ?_<;>intro hb<;>try omega)|fail)
  all_goals first
   |(exfalso;omega)
   |(refine cQ eIO rfl rfl (.nil _) ?_;simp_all [av];done)
theorem tC (L:List Et) (tv:Value) (w:World) (ht:Reads w tv L.length (L.flatMap aH)) (hlen:L.length≤1000000):
    ay Tryz.prog 66 [tv] w (.tuple #[.int .i64 (gS L).1,.int .i64 (gS L).2]):=by
  have hF:=fun (w' :World) (H' :List Blk) (hm:Mem w w' H') (i:Nat) (hi:i<L.length)=>xR L tv w' (ht.of_w0 hm) i hi
  obtain ⟨Al,cl,rfl,hl1,hl2,hl3⟩:=ht
  refine aq Tryz.func66 rfl Tryz.ntmps66 rfl ?_
  repeat' (first|refine sT ?_|refine sS ?_|refine sM fun _=> ?_|(refine sC ?_ ?_<;>intro hb<;>try omega)|fail)
  refine ax [0] rfl (fun i:Nat=> [(4,.int .i64 (i:Int))]) (fun _=> []) (fun i=>i≤L.length∧gS L=fI i (ia L i) (L.drop i)) (fun i=>L.length - i) 0 ⟨by omega,rfl⟩ sB (.refl _) ?_
  rintro i ⟨hi,hck⟩
  by_cases hlt:i<L.length
  · have hF:=fun w' H' hm=>hF w' H' hm i hlt
    have hnext:ia L (i+1)=some L[i].at_:=by unfold ia;rw [if_neg (by omega),M3,LF hlt];rfl
    rw [LJ hlt,fI,← hnext] at hck
    generalize jk (ia L i) L[i]=e at hF hck
    repeat' (first|(apply aa (f:=126);exact rfl;exact rfl;(intro w' hm;exact hF w' _ hm))|refine sT ?_|refine sS ?_|refine sN ?_|refine sM fun _=> ?_|(refine sC ?_ ?_<;>intro hb<;>try omega)|fail)
    all_goals first
      |(exfalso;omega)
      |(refine ic eIO rfl rfl rfl (.nil _) ?_;rw [hck,if_pos (by assumption)];done)
      | (rw [if_neg (by assumption)] at hck
         refine ⟨i+1,⟨hlt,hck⟩,by omega,?_,?_,.nil _⟩
         · exact sB
         · exact sB)
  · have e2:i=L.length:=by omega
    subst e2
    rw [LU,fI] at hck
    repeat' (first|refine sT ?_|refine sS ?_|refine sM fun _=> ?_|(refine sC ?_ ?_<;>intro hb<;>try omega)|fail)
    all_goals first
      |(exfalso;omega)
      |(refine ic eIO rfl rfl rfl (.nil _) ?_;rw [hck])
def Lz (e:En):List Value:= [.int .i64 e.at_.col,.int .i64 e.at_.row,e.tv,e.uv]
def rgB (g:Nat) (A:Option Nat) (cap:Nat) (L:List En):List Blk:= [.box g 220 [sl A L.length cap],.own A 255 4 L.length cap (L.flatMap Lz)]
structure RGOk (R:List Blk) (L:List En) (G:Gr):Prop where
 en: ∀ e∈L,EnOk R e
 rel:L.map En.abs=G
end Go.SL
namespace Go.SL
open Go Go.Proofs
attribute [local irreducible] W WL WQ WG WA WX WLI WR WT WC VOp RW thn blk bS scp bq bF cj aS FnP ceP
structure Gs where
 gg:Nat
 gm:Nat
 E:List En
 clock:Nat
 R1:List Blk
 gr:Nat
 A:Option Nat
 cap:Nat
 Q:List En
 R2:List Blk
end Go.SL
namespace Go.SL
open Go Go.Proofs Go.ChangeShapes Go.WideShapes Go.ChangeAt Go.RowKit Go.Deep
section
variable {H:Type} {enc:TypeId × Value→H} {P:Program} {w:World} {base:Nat} {spare:Nat→Bool} {held:Bool}
theorem tG {f:Func} {s:ChangeSpec} {apart fresh handsOn again:Bool} {W W' :World} {args:Array Value} {v:Value} {ds gs:List (DataW H)} {before pa pv:List MemPlace}
  (hW:DataW.Whole enc P f.params.toList s.vars apart W args.toList ds gs before)
  (hres: ∀ (b:Nat) (sp:Nat→Bool) (hd:Bool),DataW.TrodAll enc P W' b sp hd f.resultTypes.toList (v.resultList f.resultTypes.size) (s.fn H (ds++gs)).results [])
  (hargs: ∀ sp:Nat→Bool,(∀ p∈before,sp p.block=true)→DataW.TrodAll enc P W' 0 sp true f.params.toList args.toList (s.fn H (ds++gs)).args pa)
  (hvars: ∀ sp:Nat→Bool,(∀ p∈before,sp p.block=true)→DataW.TrodVars enc P W' sp s.vars (s.fn H (ds++gs)).vars pv)
  (hps:before=pa++pv) (hb:Below W.heap.size W W')
  (hok: ∀ (j:Nat) (t:TypeId) (r:Value),f.resultTypes[j]? =some t→(v.resultList f.resultTypes.size)[j]? =some r→Value.okWide P W' .any 0 t r):
  s.post enc P f apart fresh handsOn again W args v W' :=by
 have hold: ∀ p∈before,(fun b=>decide (b<W.heap.size)) p.block=true:=fun p hp=>by simpa using hW.lt p hp
 refine ⟨ds,gs,before,[],pa,pv,hW,hres _ _ _,hargs _ hold,hvars _ hold,hb.frame _,fun _=> ?_⟩
 have hlt:=hW.lt
 obtain ⟨_,_,_,_,_,hz,hn⟩:=hW
 refine ⟨hok,_,_,([]++pa)++pv,⟨[]++pa,pv,trodAll_append (hargs _ (fun _ _=>rfl)) (hres _ _ _),hvars _ (fun _ _=>rfl),rfl,?_,?_⟩,?_⟩
 ·
  intro b off hp
  have hp' :MemPlace.cell b off∈before:=by rw [hps];simpa using hp
  have h1:=hz b off hp'
  have h2:=hlt _ hp'
  rw [← h1]
  exact hb.frozen h2
 ·
  intro ha
  have:=hn ha
  rw [hps] at this
  simpa using this
 ·
  intro p hp _
  rw [hps]
  simpa using hp
theorem jt {t:TypeId} (hl:laidOutB P=true) (hr:P.readableRec t=true) (hrow:t<P.types.size) {W W' :World} {v:Value} {d:DataW H} {ps:List MemPlace} {sp:Nat→Bool}
  (h:DataW.Trod enc P W 0 (fun _=>true) true t v d ps) (hb:Below W.heap.size W W') (hlt: ∀ x∈ps,x.block<W.heap.size) (hs: ∀ x∈ps,sp x.block=true):DataW.Trod enc P W' 0 sp true t v d ps:=
 WideElems.Trod_stays hl hr hrow h (fun x hx=>hb.same (hlt x hx)) hs
end
theorem Jf:ownKnob Tryz.prog.godebug=none:=by kernel_rfl
theorem jo:laidOutB Tryz.prog=true:=by kernel_rfl
section
variable {H:Type} {enc:TypeId × Value→H} {w:World} {base:Nat} {spare:Nat→Bool} {held:Bool}
theorem sx {α:Type} {enc:α→List Value} {m:Nat} (hm: ∀ a,(enc a).length=m) (w:World) (g o:Nat): ∀ (L:List α),(∀ (i:Nat) (a:α),L[i]? =some a→Cells w g (o+i*m) (enc a))→Cells w g o (L.flatMap enc):=by
 intro L h j v hv
 by_cases hm0:m=0
 ·
  have:(L.flatMap enc).length=0:=by rw [aD hm,hm0,Nat.mul_zero]
  rw [ML (by omega)] at hv
  cases hv
 have hlen:(L.flatMap enc).length=L.length*m:=aD hm L
 have hj:j<(L.flatMap enc).length:=(LV.1 hv).1
 have hi:j / m<L.length:=by rw [Nat.div_lt_iff_lt_mul (by omega)];omega
 have hk:j % m<m:=Nat.mod_lt _ (by omega)
 have he:j / m*m+j % m=j:=by rw [Nat.mul_comm];exact Nat.div_add_mod j m
 have h1:=uJ hm L (j / m) (j % m) hi hk
 rw [he,hv] at h1
 have h2:=h (j / m) L[j / m] (LF hi) (j % m) v h1.symm
 rw [show o+j / m*m+j % m=o+j by omega] at h2
 exact h2
theorem jQ {α:Type} [Inhabited α] {encA:α→List Value} {ok:α→Prop} {P:Program} {t e m fuel:Nat} {cs:List Value} {x:DataW H × List MemPlace} (ht:P.underlying t=some (.slice e)) (hm:P.cellsOf e=m) (hm0:0<m) (hlenA: ∀ a,(encA a).length=m)
  (helem: ∀ (n:Nat) (cs:List Value) (y:DataW H × List MemPlace),DataW.trod enc P w 0 spare held n e cs=some y→ ∃ a,cs=encA a∧ok a) (h:DataW.trod enc P w 0 spare held fuel t cs=some x):
  ∃ (v:Value) (L:List α),cs= [v]∧Reads w v L.length (L.flatMap encA)∧ ∀ a∈L,ok a:=by
 rcases open_slice ht h with ⟨h0,_⟩|⟨a,len,cap,mm,n,D,Pl,h0,hb,hl,hmx,hmm,_,hx⟩
 ·
  exact ⟨_,[],h0,⟨none,0,rfl,LK _,LS _,fun h=>by cases h⟩,fun _ h=>by cases h⟩
 ·
  have hlm:len≤mm:=by rw [hmm];split<;>omega
  obtain ⟨F,hF⟩:=choose_lt (α:=α) (n:=len) (p:=fun i nd=>w.cells? 0 (a.add (i*m)) m=some (encA nd)∧ok nd) (fun i hi=>by
   obtain ⟨cs',h1,h2⟩:=hx i (by omega)
   rw [hm] at h1
   obtain ⟨nd,rfl,hw⟩:=helem _ _ _ h2
   exact ⟨nd,h1,hw⟩)
  have hlen:((List.range len).map F).length=len:=by simp
  refine ⟨_,(List.range len).map F,h0,⟨some a,cap,by rw [hlen],by omega,hmx,fun hpos=> ?_⟩,fun n hn=> ?_⟩
  rotate_left
  ·
   obtain ⟨i,hi,rfl⟩:=Nk.1 hn
   exact (hF i (List.mem_range.1 hi)).2
  rw [hlen] at hpos
  obtain ⟨g,o,spot⟩:=a
  have hspot:spot=none:=by
   obtain ⟨_,_,h3⟩:=World.cells?_some (hF 0 (by omega)).1
   have h4' :=h3 0 hm0
   rw [LF (by rw [hlenA];exact hm0)] at h4'
   have h4:=World.cell?_spot h4'
   simpa [Addr.add] using h4
  subst hspot
  have hcell: ∀ (i:Nat) (nd:α),((List.range len).map F)[i]? =some nd→Cells w g (o+i*m) (encA nd):=by
   intro i nd hnd k v hv
   have hil:i<len:=by have:=(LV.1 hnd).1;omega
   have hnd' :F i=nd:=by simpa [hil] using hnd
   subst hnd'
   have hk:k<m:=by have:=(LV.1 hv).1;rwa [hlenA] at this
   obtain ⟨_,_,h3⟩:=World.cells?_some (hF i hil).1
   have:=h3 k hk
   rw [hv,cw,cw] at this
   exact this
  refine ⟨g,o,rfl,?_,sx hlenA w g o _ hcell⟩
  obtain ⟨u,hu⟩: ∃ u,(encA (F 0))[0]? =some u:=⟨_,LF (by rw [hlenA];exact hm0)⟩
  have h5:=hcell 0 (F 0) (by simp [hpos]) 0 u hu
  simp only [World.cell?] at h5
  split at h5
  ·
   rename_i h6
   exact (Mb.1 h6).1
  ·
   cases h5
theorem fO {n:Nat} {c:Value} {x:DataW H × List MemPlace} (h:DataW.trod enc Tryz.prog w base spare held n 3 [c]=some x): ∃ a,c= .int .i64 a∧I64 a:=by
 obtain ⟨a0,q0,_,w0⟩:=DataW.trod_int Tryz.underlying3 h
 simp only [List.cons.injEq,and_true] at q0
 exact ⟨a0,q0,bounds_i64 w0⟩
def okF (a:Rf):Prop:=I64 a.col∧I64 a.row
def okR (r:Rct):Prop:=I64 r.c1∧I64 r.r1∧I64 r.c2∧I64 r.r2
set_option maxRecDepth 100000 in
theorem qU {fuel:Nat} {cs:List Value} {x:DataW H × List MemPlace} (h:DataW.trod enc Tryz.prog w base spare held fuel 51 cs=some x): ∃ v:Rf,cs=cB v∧okF v:=by
 obtain ⟨xs,n,_,_,hlen,hxl,hf⟩:=DataW.trod_struct Tryz.underlying51 h
 have eS:Tryz.prog.cellsOf 51=2:=by kernel_rfl
 have eI:Tryz.prog.cellsOf 3=1:=by kernel_rfl
 rw [eS] at hlen
 match cs,hlen,xs,hxl with
 | [c0,c1],_,[x0,x1],_=>
  have h0:DataW.trod enc Tryz.prog w base spare held n 3 ((([c0,c1]:List Value).drop 0).take (Tryz.prog.cellsOf 3))=some x0:=hf 0 _ rfl
  rw [eI] at h0
  obtain ⟨a0,rfl,w0⟩:=fO (c:=c0) h0
  have h1:DataW.trod enc Tryz.prog w base spare held n 3 ((([Value.int .i64 a0,c1]:List Value).drop 1).take (Tryz.prog.cellsOf 3))=some x1:=hf 1 _ rfl
  rw [eI] at h1
  obtain ⟨a1,rfl,w1⟩:=fO (c:=c1) h1
  exact ⟨⟨a0,a1⟩,rfl,w0,w1⟩
set_option maxRecDepth 100000 in
theorem lQ {fuel:Nat} {cs:List Value} {x:DataW H × List MemPlace} (h:DataW.trod enc Tryz.prog w base spare held fuel 33 cs=some x): ∃ v:Rct,cs=bO v∧okR v:=by
 obtain ⟨xs,n,_,_,hlen,hxl,hf⟩:=DataW.trod_struct Tryz.underlying33 h
 have eS:Tryz.prog.cellsOf 33=4:=by kernel_rfl
 have eI:Tryz.prog.cellsOf 3=1:=by kernel_rfl
 rw [eS] at hlen
 match cs,hlen,xs,hxl with
 | [c0,c1,c2,c3],_,[x0,x1,x2,x3],_=>
  have h0:DataW.trod enc Tryz.prog w base spare held n 3 ((([c0,c1,c2,c3]:List Value).drop 0).take (Tryz.prog.cellsOf 3))=some x0:=hf 0 _ rfl
  rw [eI] at h0
  obtain ⟨a0,rfl,w0⟩:=fO (c:=c0) h0
  have h1:DataW.trod enc Tryz.prog w base spare held n 3 ((([Value.int .i64 a0,c1,c2,c3]:List Value).drop 1).take (Tryz.prog.cellsOf 3))=some x1:=hf 1 _ rfl
  rw [eI] at h1
  obtain ⟨a1,rfl,w1⟩:=fO (c:=c1) h1
  have h2:DataW.trod enc Tryz.prog w base spare held n 3 ((([Value.int .i64 a0,.int .i64 a1,c2,c3]:List Value).drop 2).take (Tryz.prog.cellsOf 3))=some x2:=hf 2 _ rfl
  rw [eI] at h2
  obtain ⟨a2,rfl,w2⟩:=fO (c:=c2) h2
  have h3:DataW.trod enc Tryz.prog w base spare held n 3 ((([Value.int .i64 a0,.int .i64 a1,.int .i64 a2,c3]:List Value).drop 3).take (Tryz.prog.cellsOf 3))=some x3:=hf 3 _ rfl
  rw [eI] at h3
  obtain ⟨a3,rfl,w3⟩:=fO (c:=c3) h3
  exact ⟨⟨a0,a1,a2,a3⟩,rfl,w0,w1,w2,w3⟩
instance:Inhabited Et:=⟨⟨⟨0,0⟩,av⟩⟩
set_option maxRecDepth 100000 in
theorem DW {α:Type} [Inhabited α] {encA:α→List Value} {ok:α→Prop} {t e m:Nat} {v:Value} {d:DataW H} {p:List MemPlace} (ht:Tryz.prog.underlying t=some (.slice e)) (hm:Tryz.prog.cellsOf e=m) (hm0:0<m) (hlenA: ∀ a,(encA a).length=m)
  (helem: ∀ (n:Nat) (cs:List Value) (y:DataW H × List MemPlace),DataW.trod enc Tryz.prog w 0 spare held n e cs=some y→ ∃ a,cs=encA a∧ok a)
  (hv:Value.okWide Tryz.prog w .any base t v) (h:DataW.Trod enc Tryz.prog w 0 spare held t v d p): ∃ L:List α,Reads w v L.length (L.flatMap encA)∧ ∀ a∈L,ok a:=by
 obtain ⟨fuel,hf⟩:=h
 have hc:v.cells.toList= [v]:=by
  obtain ⟨a,n,c,rfl⟩:=okWide_slice ht hv
  rfl
 rw [hc] at hf
 obtain ⟨v',L,q,h1,h2⟩:=jQ ht hm hm0 hlenA helem hf
 simp only [List.cons.injEq,and_true] at q
 subst q
 exact ⟨L,h1,h2⟩
end
end Go.SL
namespace Go.SL
open Go Go.Proofs Go.Proofs.YthefeclkaaocnaaGreatDoor Go.ChangeShapes Go.WideShapes Go.ChangeAt Go.RowKit Go.Deep
def oG:List (List UInt8):= [[],[35,68,73,86,47,48,33],[35,86,65,76,85,69,33],[35,78,85,77,33],[35,78,47,65],[35,82,69,70,33],[35,67,89,67,76,69,33],[35,68,69,78,73,69,68]]
def rM:List (String × DataW Unit):= [("louvre/val.words",Rows.laid_louvre_val_words)]
theorem wU:(Rows.laid_louvre_val_words:DataW Unit)= .agg (oG.map fun l=> .lit (.string l)):=rfl
theorem EQ:bZ=oG.map fun l=>⟨l.toArray⟩:=rfl
set_option maxRecDepth 100000 in
theorem s8 {W:World} (h:laidMetH Tryz.prog rM W):Words W:=by
 rw [MakeChecks.laidMetH_plain _ _ _ (by kernel_rfl)] at h
 obtain ⟨ps,⟨g,t,cs,fuel,p,q,hg,ht,hv,hd,_,_⟩,_⟩:=h
 obtain rfl:=Option.some.inj ((show Tryz.prog.globalNamed "louvre/val.words" =some 0 by kernel_rfl).symm.trans hg)
 obtain rfl:=Option.some.inj ((show (Tryz.prog.globals[0]?).map (·.type)=some 328 by kernel_rfl).symm.trans ht)
 rw [wU] at hd
 obtain ⟨xs,m,_,ex,_,hl,hel⟩:=DataW.trod_array Tryz.underlying328 hd
 have cS:Tryz.prog.cellsOf 9=1:=by kernel_rfl
 have hcell: ∀ (j:Nat) (v:Value),(bZ.map Value.string)[j]? =some v→W.cell? ⟨0,0+j,none⟩=some v:=by
  intro j v hjv
  have hj:j<8:=by
   have:=(LV.1 hjv).1
   simpa [bZ] using this
  have hE:=hel j hj
  rw [cS,Ni,LF (by omega)] at hE
  obtain ⟨s,e1,e2,_⟩:=DataW.trod_string Tryz.underlying9 hE
  have e3:(xs.map (·.1))=oG.map fun l=> .lit (.string l):=(DataW.agg.inj (Prod.mk.inj ex).1).symm
  have hwl:oG.length=8:=rfl
  have e4:(xs.map (·.1))[j]? =(oG.map fun l=>(DataW.lit (.string l):DataW Unit))[j]? :=by rw [e3]
  obtain ⟨u,hu⟩: ∃ u,oG[j]? =some u:=⟨_,LF (by rw [hwl];exact hj)⟩
  rw [MD,MD,LF (by omega:j<xs.length),hu,e2] at e4
  simp only [ME,Option.some.injEq,DataW.lit.injEq,Lit.string.injEq] at e4
  have hs:s=⟨u.toArray⟩:=by
   obtain ⟨d⟩:=s
   subst e4
   rfl
  have hvv:v= .string s:=by
   rw [EQ,Om,MD,hu] at hjv
   simp only [ME,Option.some.injEq,Function.comp] at hjv
   rw [← hjv,hs]
  rw [hvv,LZ,World.var?_cell hg hv j]
  have:cs.toList[j]? =some (.string s):=by
   have h0:((cs.toList.drop j).take 1)[0]? =some (.string s):=by rw [e1];rfl
   simpa using h0
  simpa using this
 refine ⟨?_,hcell⟩
 have h5:=hcell 0 _ rfl
 simp only [World.cell?] at h5
 split at h5
 ·
  rename_i h6
  exact (Mb.1 h6).1
 ·
  cases h5
end Go.SL
namespace Go.SL
open Go Go.Proofs
attribute [local irreducible] W WL WQ WG WA WX WLI WR WT WC VOp RW thn blk bS scp bq bF cj aS FnP ceP
structure Gp where
 gg:Nat
 gm:Nat
 E:List En
 clock:Nat
 gr:Nat
 A:Option Nat
 cap:Nat
 Q:List En
 R:List Blk
end Go.SL
namespace Go.SL
open Go Go.Proofs
theorem JM {P:Program} {n:Fr} {w0:World} {Q:bI} {s:az} {H:List Blk} {c:Code} {A:Option Nat} {t sz m cap:Nat} {xs:List Value} (hi:In (.own A t sz m cap xs) H) (h:m≤cap→W P n w0 c Q s H):W P n w0 c Q s H:=fun a w hs hmem=>
 h (hmem.on _ hi.mem).1.2.1 a w hs hmem
theorem DJ (w:World):Reads w (.slice none 0 0) 0 []:=⟨none,0,rfl,LK _,LS _,fun h=>absurd h (Nat.lt_irrefl 0)⟩
attribute [local irreducible] W WL WQ WG WA WX WLI WR WT WC WE VOp RW thn blk bS scp bq bF cj aS FnIn FnP ceP
end Go.SL
namespace Go.SL
open Go Go.Proofs
attribute [local irreducible] W WL WQ WG WA WX WLI WR WT WC WE VOp RW thn blk bS scp bq bF cj aS FnIn FnP ceP
theorem oK {P:Program} {w0:World} {s:az} {H:List Blk} {ty t e lo m c sz g:Nat} {x xl:Operand} [ht:Und P t (.slice e)] [hz:Size P e sz] (hx:ev s x=some (.slice (some ⟨g,0,none⟩) m c)) (hxl:ev s xl=some (.int .i64 (lo:Nat))) (h1:lo<m) (h2:m≤c):
  VOp P w0 s H (.slice t x (some xl) none none) ty (.slice (some ⟨g,lo*sz,none⟩) (m - lo) (c - lo)):=by
 have h:=j8 (P:=P) (w0:=w0) (s:=s) (H:=H) (ty:=ty) (t:=t) (lo:=lo) (hi:=m) (x:=x) (xl:=some xl) (xh:=none) hx ⟨_,hxl⟩ rfl (by omega) h2
 rw [if_neg (show ¬ c=lo by omega)] at h
 have ha:(⟨g,0,none⟩:Addr).add (lo*sz)=⟨g,lo*sz,none⟩:=by unfold Addr.add;split<;>simp_all
 rw [ME,ha] at h
 exact h
theorem ub {P:Program} {w0:World} {s:az} {H:List Blk} {ty t e hi m c sz:Nat} {A:Option Addr} {x xh:Operand} [ht:Und P t (.slice e)] [hz:Size P e sz] (hx:ev s x=some (.slice A m c)) (hxh:ev s xh=some (.int .i64 (hi:Nat))) (h2:hi≤c):
  VOp P w0 s H (.slice t x none (some xh) none) ty (.slice A hi c):=by
 have h:=j8 (P:=P) (w0:=w0) (s:=s) (H:=H) (ty:=ty) (t:=t) (lo:=0) (hi:=hi) (x:=x) (xl:=none) (xh:=some xh) hx rfl ⟨_,hxh⟩ (by omega) h2
 have ha:(if c=0 then A else A.map (·.add (0*sz)))=A:=by
  split
  ·
   rfl
  ·
   cases A with
   |none=>rfl
   |some a=>rw [Nat.zero_mul];simp [Addr.add]
 rw [ha] at h
 exact h
theorem J6 {L:List Int} {k:Nat} (h:k<L.length):(L.map eP)[0+k*1]? =some (eP L[k]):=by
 rw [LZ,Ni,MD,LF h];rfl
theorem Jw {L:List Int} {a k:Nat} (h:a+k<L.length):(L.map eP)[a*1+k*1]? =some (eP L[a+k]):=by
 rw [Ni,Ni,MD,LF h];rfl
set_option maxHeartbeats 4000000 in
theorem zE (L:List Int) (A:Option Nat) (cap:Nat) (hL:L.length≤1000000) (R:List Blk) (w0:World):
    FnIn Tryz.prog 165 [sl A L.length cap] w0 (.own A 3 1 L.length cap (L.map eP)::R) fun v H=>v=sl A (fq L).length cap∧H= .own A 3 1 (fq L).length cap ((fq L).map eP)::R:=by
  refine dM Tryz.func165 rfl Tryz.ntmps165 rfl ?_
  refine JM (A:=A) .hd fun hle=> ?_
  by_cases h2:L.length<2
  · have hc:=zk (L:=L) (by omega)
    repeat' (first|refine sT ?_|refine sS ?_|refine sN ?_|refine sM fun _=> ?_|(refine sC ?_ ?_<;>intro hb<;>try omega)|fail)
    all_goals first
      |(exfalso;omega)
      |(refine cQ eIO rfl rfl (.refl _) ?_;rw [hc];exact ⟨rfl,rfl⟩)
      |trace_state
  · refine dP (A:=A) .hd (by omega) fun g hA=> ?_
    subst hA
    repeat' (first|refine sT ?_|refine sS ?_|refine sN ?_|refine sM fun _=> ?_|(refine sC ?_ ?_<;>intro hb<;>try omega)|fail)
    all_goals try (exfalso;omega)
    refine ax [0] rfl (fun k:Nat=> [(3,.int .i64 (k:Int))]) (fun _=> .own (some g) 3 1 L.length cap (L.map eP)::R) (fun k=>1≤k∧k≤L.length∧fq (L.take k)=L.take k) (fun k=>L.length - k) 1 ⟨LK _,by omega,zk (by rw [LP];omega)⟩ sB mS ?_
    rintro k ⟨hk1,hk,hck⟩
    by_cases hlt:k<L.length
    · have hr1:=J6 hlt
      have hr2:=J6 (L:=L) (k:=k - 1) (by omega)
      have hst:=uU hlt hk1
      have htk:L.take (k+1)=L.take k++ [L[k]]:=by rw [LQ hlt]
      obtain ⟨c,hc⟩: ∃ c,decide (L[k]=L[k - 1])=c:=⟨_,rfl⟩
      cases c with
      |false=>
        have hne: ¬ L[k]=L[k - 1]:=by simpa using hc
        rw [if_neg hne,hck,← htk] at hst
        repeat' (first|(apply aK;exact rfl;apply du;exact rfl;exact rfl;omega;(simp only [maxLen];omega))|(apply aK;exact rfl;apply aj (j:=k);exact rfl;exact rfl;omega)|(apply aK;exact rfl;apply aj (j:=k - 1);exact rfl;exact rfl;omega)|(apply aK;exact rfl;apply bU;exact rfl;exact pK;(first|exact hr1|exact hr2))|(apply aK;exact rfl;apply uf hc;exact rfl;exact rfl)|refine sT ?_|refine sS ?_|refine sQ ?_|refine sN ?_|refine sNQ ?_|refine sD ?_|refine sM fun _=> ?_|(refine sC ?_ ?_<;>intro hb<;>try omega)|(refine sCQ ?_ ?_<;>intro hb<;>try omega)|fail)
        all_goals first
          |(exfalso;omega)
          |(refine ⟨k+1,⟨by omega,hlt,hst⟩,by omega,by exact sB,by exact sB,by exact mS⟩;done)
          |trace_state
      |true=>
        have hne:L[k]=L[k - 1]:=by simpa using hc
        rw [if_pos hne,hck] at hst
        repeat' (first|(apply aK;exact rfl;apply du;exact rfl;exact rfl;omega;(simp only [maxLen];omega))|(apply aK;exact rfl;apply aj (j:=k);exact rfl;exact rfl;omega)|(apply aK;exact rfl;apply aj (j:=k - 1);exact rfl;exact rfl;omega)|(apply aK;exact rfl;apply bU;exact rfl;exact pK;(first|exact hr1|exact hr2))|(apply aK;exact rfl;apply uf hc;exact rfl;exact rfl)|(apply ak;exact rfl;apply oK (lo:=k);exact rfl;exact rfl;omega;exact hle)|refine sT ?_|refine sS ?_|refine sQ ?_|refine sN ?_|refine sNQ ?_|refine sD ?_|refine sM fun _=> ?_|(refine sC ?_ ?_<;>intro hb<;>try omega)|(refine sCQ ?_ ?_<;>intro hb<;>try omega)|fail)
        all_goals try (exfalso;omega)
        refine ax [0,4] rfl (fun y:Nat × Nat × List Int=> [(5,.int .i64 (y.1:Int)),(3,.int .i64 (y.2.1:Int))]) (fun y=> .own (some g) 3 1 L.length cap (y.2.2.map eP)::R) (fun y=>1≤y.1∧k+y.1≤L.length∧y.2.1+1≤k+y.1∧y.2.2.length=L.length∧y.2.2.take y.2.1=fq (L.take (k+y.1))∧ ∀ j,k+y.1≤j+1→y.2.2[j]? =L[j]?) (fun y=>L.length - y.1) (1,k,L) ⟨LK _,by omega,LK _,rfl,hst.symm,fun _ _=>rfl⟩ sB mS ?_
        rintro ⟨i,k',ys⟩ ⟨hi1,hi2,hi3,hi4,hi5,hi6⟩
        dsimp only at hi1 hi2 hi3 hi4 hi5 hi6 ⊢
        by_cases hli:k+i<L.length
        · have hy1:k+i<ys.length:=by omega
          have hr3:=Jw (L:=ys) (a:=k) (k:=i) hy1
          have hr4:=Jw (L:=ys) (a:=k) (k:=i - 1) (by omega)
          have he1:ys[k+i]=L[k+i]:=by
            have:=hi6 (k+i) (by omega)
            rw [LF hy1,LF hli] at this
            exact Option.some.inj this
          have he2:ys[k+(i - 1)]=L[k+i - 1]:=by
            have:=hi6 (k+(i - 1)) (by omega)
            rw [LF (by omega),LF (by omega)] at this
            rw [Option.some.inj this]
            congr 1
            omega
          rw [he1] at hr3
          rw [he2] at hr4
          have hst2:=uU hli (by omega)
          obtain ⟨c,hc2⟩: ∃ c,decide (L[k+i]=L[k+i - 1])=c:=⟨_,rfl⟩
          cases c with
          |true=>
            rw [if_pos (by simpa using hc2)] at hst2
            repeat' (first|(apply aK;exact rfl;apply du;exact rfl;exact rfl;omega;(simp only [maxLen];omega))|(apply aK;exact rfl;apply aj (j:=i);exact rfl;exact rfl;omega)|(apply aK;exact rfl;apply aj (j:=i - 1);exact rfl;exact rfl;omega)|(apply aK;exact rfl;apply bU;exact rfl;exact pK;(first|exact hr3|exact hr4))|(apply aK;exact rfl;apply ud hc2;exact rfl;exact rfl)|refine sT ?_|refine sS ?_|refine sQ ?_|refine sN ?_|refine sNQ ?_|refine sD ?_|refine sM fun _=> ?_|(refine sC ?_ ?_<;>intro hb<;>try omega)|(refine sCQ ?_ ?_<;>intro hb<;>try omega)|fail)
            all_goals first
              |(exfalso;omega)
              |(refine ⟨(i+1,k',ys),⟨by dsimp only;omega,by dsimp only;omega,by dsimp only;omega,hi4,by dsimp only;rw [hi5,← Nat.add_assoc,hst2],fun j hj=>hi6 j (by omega)⟩,by dsimp only;omega,by exact sB,by exact sB,by exact mS⟩;done)
              |trace_state
          |false=>
            rw [if_neg (by simpa using hc2)] at hst2
            have hput:(ys.map eP).set (0+k' *1) (eP L[k+i])=(ys.set k' L[k+i]).map eP:=by rw [LZ,Ni,List.map_set]
            repeat' (first|(apply aK;exact rfl;apply du;exact rfl;exact rfl;omega;(simp only [maxLen];omega))|(apply aK;exact rfl;apply aj (j:=i);exact rfl;exact rfl;omega)|(apply aK;exact rfl;apply aj (j:=i - 1);exact rfl;exact rfl;omega)|(apply aK;exact rfl;apply bU;exact rfl;exact pK;(first|exact hr3|exact hr4))|(apply aK;exact rfl;apply ud hc2;exact rfl;exact rfl)|(apply ak (d:=49);exact rfl;apply aj (j:=i);exact rfl;exact rfl;omega)|(apply ak (d:=51);exact rfl;apply aj (j:=k');exact rfl;exact rfl;omega)|(apply ak;exact rfl;apply bU;exact rfl;exact pK;exact hr3)|(apply fL (v:=eP L[k+i]) (off:=0+k' *1);exact rfl;exact rfl;exact pK;exact rfl;(rw [MF,hi4];omega);rw [hput])|refine sT ?_|refine sS ?_|refine sQ ?_|refine sN ?_|refine sNQ ?_|refine sD ?_|refine sM fun _=> ?_|(refine sC ?_ ?_<;>intro hb<;>try omega)|(refine sCQ ?_ ?_<;>intro hb<;>try omega)|fail)
            all_goals first
              |(exfalso;omega)
              | (refine ⟨(i + 1, k' + 1, ys.set k' L[k + i]), ⟨by dsimp only; omega, by dsimp only; omega, by dsimp only; omega, by dsimp only; rw [List.length_set, hi4], ?_, fun j hj => ?_⟩, by dsimp only; omega, by exact sB, by exact sB, by exact mS⟩
                 · dsimp only
                   rw [LQ (by rw [NJ];omega),List.take_set_of_le (LK _),hi5,List.getElem_set_self,← M4,hst2]
                 · dsimp only at hj ⊢
                   rw [List.getElem?_set_ne (by omega)]
                   exact hi6 j (by omega))
              |trace_state
        · have hli2:k+i=L.length:=by omega
          rw [hli2,MI] at hi5
          have hcl:(fq L).length=k' :=by rw [← hi5,LP,hi4];omega
          have hk'L:k' <L.length:=by omega
          repeat' (first|(apply ak;exact rfl;apply oK (lo:=k');exact rfl;exact rfl;omega;exact hle)|(apply wX (sz:=1) (k:=k') (n' :=L.length);exact rfl;omega;exact pK;(intro u hu;simp [Value.cells] at hu;subst hu;rfl);exact rfl)|(apply ak;exact rfl;apply ub (hi:=k');exact rfl;exact rfl;omega)|refine sT ?_|refine sS ?_|refine sN ?_|refine sM fun _=> ?_|(refine sC ?_ ?_<;>intro hb<;>try omega)|fail)
          all_goals first
            |(exfalso;omega)
            | (refine cQ eIO rfl rfl (H' := .own (some g) 3 1 k' cap ((ys.map eP).take (k' * 1)) :: R) mS ?_
               rw [Ni,← List.map_take,hi5,hcl]
               exact ⟨rfl,rfl⟩)
            |trace_state
    · have hkl:k=L.length:=by omega
      rw [hkl,MI] at hck
      repeat' (first|refine sT ?_|refine sS ?_|refine sN ?_|refine sM fun _=> ?_|(refine sC ?_ ?_<;>intro hb<;>try omega)|fail)
      all_goals first
        |(exfalso;omega)
        |(refine cQ eIO rfl rfl (.refl _) ?_;rw [hck];exact ⟨rfl,rfl⟩)
        |trace_state
structure Rdr (gg:Nat) (G:Gr) (B:List Blk) (w0:World):Prop where
 g:GrOk G
 l:G.length≤900
 ur: ∀ r H,MSub B H→FnIn Tryz.prog 139 [.pointer (some ⟨gg,0,none⟩),.agg (bO r).toArray] w0 H fun v H' => ∃ A cap,v=sl A (z1 G r).length cap∧H' = .own A 51 2 (z1 G r).length cap ((z1 G r).flatMap cB)::H
 fm: ∀ H,MSub B H→FnIn Tryz.prog 34 [.pointer (some ⟨gg,0,none⟩)] w0 H fun v H' => ∃ A cap,v=sl A (yF G).length cap∧H' = .own A 51 2 (yF G).length cap ((yF G).flatMap cB)::H
 us: ∀ d H,MSub B H→FnIn Tryz.prog 42 [.pointer (some ⟨gg,0,none⟩),K8 d] w0 H fun v H' => ∃ A cap,v=sl A (xj G d).length cap∧H' = .own A 100 6 (xj G d).length cap ((xj G d).flatMap Ld)::H
end Go.SL
