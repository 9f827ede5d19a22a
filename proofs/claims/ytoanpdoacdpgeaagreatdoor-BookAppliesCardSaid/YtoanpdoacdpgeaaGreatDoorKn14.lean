/-
  Lemmas and walks, put together: A2 S3 Gp G1 Gq Q10 A2p.
-/
import Derived.Test.YtoanpdoacdpgeaaGreatDoorKn12
set_option linter.unusedSimpArgs false
set_option linter.unusedVariables false
set_option maxRecDepth 20000
namespace Go.SL
open Go Go.Proofs
attribute [local irreducible] W WL WQ WG WA VOp thn blk bE ba aP FnIn
structure Pc where
 m0:Int
 m1:Int
 v0:Int
 v1:Int
 ok:Bool
def wq (p:Pc):List Value:= [.int .i64 p.m0,.int .i64 p.m1,.int .i64 p.v0,.int .i64 p.v1,.bool p.ok]
def jD (p:Pc) (c:Int):Pc:=⟨p.m0+1,p.m1,min (26*p.v0+(c - 65)+1) 1025,p.v1,p.ok && decide (p.m1=0)⟩
def fK (p:Pc) (c:Int):Pc:=⟨p.m0,p.m1+1,p.v0,min (10*p.v1+(c - 48)) 1025,p.ok && (decide (c≠48)||decide (0<p.m1))⟩
structure Pc.Fit (p:Pc) (n:Int):Prop where
 m0:0≤p.m0∧p.m0≤n
 m1:0≤p.m1∧p.m1≤n
 v0:0≤p.v0∧p.v0≤1025
 v1:0≤p.v1∧p.v1≤1025
theorem xA (a b:Int):(if b<a then b else a)=min a b:=by omega
theorem FN (p:Pc) (c:Int) (n:Int) (hf:p.Fit n) (hn:n≤1000000) (h1:65≤c) (h2:c≤90) (g:Nat) (R:List Blk) (w0:World):
  FnIn Tryz.prog 331 [.pointer (some ⟨g,0,none⟩),.int .u8 c,.bool true] w0 (.box g 350 (wq p)::R) fun v H=>v= .tuple #[]∧H= .box g 350 (wq (jD p c))::R:=by
 refine dZ Tryz.func331 rfl Tryz.ntmps331 rfl ?_
 obtain ⟨a1,a2⟩:=hf.m0
 obtain ⟨a3,a4⟩:=hf.m1
 obtain ⟨a5,a6⟩:=hf.v0
 obtain ⟨a7,a8⟩:=hf.v1
 have hwc:IntKind.u8.wrap (c - 65)=c - 65:=eC (by omega) (by omega)
 have hwc2:IntKind.i64.wrap (c - 65)=c - 65:=I64.wrap ⟨by omega,by omega⟩
 repeat' (first|(refine nz (id:=1) (ι:=Bool) (fun _=> [(0,.pointer (some ⟨g,0,none⟩)),(1,.int .u8 c)]) (fun b=> .box g 350 [.int .i64 p.m0,.int .i64 p.m1,.int .i64 p.v0,.int .i64 p.v1,.bool b]::R) (fun b=>b=(p.ok && decide (p.m1=0))) ?_ ?_)|refine sT ?_|refine sT2 ?_|refine sG2 ?_|refine sJ ?_|refine sJG ?_|refine sG ?_|refine sM fun _=> ?_|(refine sC ?_ ?_<;>intro hb<;>try omega)|exact cT|fail)
 ·
  (apply cu;rotate_left 1;exact sB;exact mS)
  rw [hb];rfl
 ·
  (apply cu;rotate_left 1;exact sB;exact mS)
  rw [hb];rfl
 rintro _ rfl
 repeat' (first|(refine mz (id:=2) 9 (.box g 350 [.int .i64 (p.m0+1),.int .i64 p.m1,.int .i64 p.v0,.int .i64 p.v1,.bool (p.ok && decide (p.m1=0))]::R) (by kernel_rfl) (by kernel_rfl) rfl ?_)|(refine mz (id:=3) 16 (.box g 350 [.int .i64 (p.m0+1),.int .i64 p.m1,.int .i64 (min (26*p.v0+(c - 65)+1) 1025),.int .i64 p.v1,.bool (p.ok && decide (p.m1=0))]::R) (by kernel_rfl) (by kernel_rfl) rfl ?_)|(apply yq (f:=60);exact rfl;decide+kernel;exact rfl;apply dw;exact rfl;exact rfl;exact hwc)|(apply yq (f:=60);exact rfl;decide+kernel;exact rfl;apply bP;exact rfl;exact hwc2)|(apply qg;exact rfl;exact rfl;exact .hd;exact rfl;exact rfl;(try rw [xA]);exact .refl _)|refine sT ?_|refine sT2 ?_|refine sG2 ?_|refine sJ ?_|refine sJG ?_|refine sG ?_|refine sM fun _=> ?_|(refine sC ?_ ?_<;>intro hb<;>try omega)|exact cT|fail)
 exact iB (.inl rfl) rfl (.refl _) ⟨rfl,rfl⟩
theorem FO (p:Pc) (c:Int) (n:Int) (hf:p.Fit n) (hn:n≤1000000) (h1:48≤c) (h2:c≤57) (g:Nat) (R:List Blk) (w0:World):
  FnIn Tryz.prog 331 [.pointer (some ⟨g,0,none⟩),.int .u8 c,.bool false] w0 (.box g 350 (wq p)::R) fun v H=>v= .tuple #[]∧H= .box g 350 (wq (fK p c))::R:=by
 refine dZ Tryz.func331 rfl Tryz.ntmps331 rfl ?_
 obtain ⟨a1,a2⟩:=hf.m0
 obtain ⟨a3,a4⟩:=hf.m1
 obtain ⟨a5,a6⟩:=hf.v0
 obtain ⟨a7,a8⟩:=hf.v1
 have hwc:IntKind.u8.wrap (c - 48)=c - 48:=eC (by omega) (by omega)
 have hwc2:IntKind.i64.wrap (c - 48)=c - 48:=I64.wrap ⟨by omega,by omega⟩
 repeat' (first|(refine nz (id:=4) (ι:=Bool) (fun _=> [(0,.pointer (some ⟨g,0,none⟩)),(1,.int .u8 c)]) (fun b=> .box g 350 [.int .i64 p.m0,.int .i64 p.m1,.int .i64 p.v0,.int .i64 p.v1,.bool b]::R) (fun b=>b=(p.ok && (decide (c≠48)||decide (0<p.m1)))) ?_ ?_)|refine sT ?_|refine sT2 ?_|refine sG2 ?_|refine sJ ?_|refine sJG ?_|refine sG ?_|refine sM fun _=> ?_|(refine sC ?_ ?_<;>intro hb<;>try omega)|exact cT|fail)
 ·
  (apply cu;rotate_left 1;exact sB;exact mS)
  rename_i h3
  rw [h3,decide_eq_true hb];rfl
 ·
  (apply cu;rotate_left 1;exact sB;exact mS)
  rename_i h3
  rw [h3,decide_eq_false hb];rfl
 ·
  (apply cu;rotate_left 1;exact sB;exact mS)
  rw [hb];rfl
 rintro _ rfl
 repeat' (first|(refine mz (id:=5) 9 (.box g 350 [.int .i64 p.m0,.int .i64 (p.m1+1),.int .i64 p.v0,.int .i64 p.v1,.bool (p.ok && (decide (c≠48)||decide (0<p.m1)))]::R) (by kernel_rfl) (by kernel_rfl) rfl ?_)|(refine mz (id:=6) 15 (.box g 350 [.int .i64 p.m0,.int .i64 (p.m1+1),.int .i64 p.v0,.int .i64 (min (10*p.v1+(c - 48)) 1025),.bool (p.ok && (decide (c≠48)||decide (0<p.m1)))]::R) (by kernel_rfl) (by kernel_rfl) rfl ?_)|(apply yq (f:=60);exact rfl;decide+kernel;exact rfl;apply dw;exact rfl;exact rfl;exact hwc)|(apply yq (f:=60);exact rfl;decide+kernel;exact rfl;apply bP;exact rfl;exact hwc2)|(apply qg;exact rfl;exact rfl;exact .hd;exact rfl;exact rfl;(try rw [xA]);exact .refl _)|refine sT ?_|refine sT2 ?_|refine sG2 ?_|refine sJ ?_|refine sJG ?_|refine sG ?_|refine sM fun _=> ?_|(refine sC ?_ ?_<;>intro hb<;>try omega)|exact cT|fail)
 exact iB (.inr rfl) rfl (.refl _) ⟨rfl,rfl⟩
def bU (p:Pc) (c:Int):Pc:=if 65≤upC c∧upC c≤90 then jD p (upC c) else if 48≤c∧c≤57 then fK p c else ⟨p.m0,p.m1,p.v0,p.v1,false⟩
def pc0:Pc:=⟨0,0,0,0,true⟩
theorem Cj {p:Pc} {c:Int} (h1:97≤c) (h2:c≤122):bU p c=jD p (c - 32):=by
 have e:upC c=c - 32:=by rw [upC,if_pos ⟨h1,h2⟩]
 rw [bU,e,if_pos (by omega)]
theorem EV {p:Pc} {c:Int} (h1:65≤c) (h2:c≤90):bU p c=jD p c:=by
 have e:upC c=c:=by rw [upC,if_neg (by omega)]
 rw [bU,e,if_pos (by omega)]
theorem Dv {c:Int} (h: ¬ (97≤c∧c≤122)):upC c=c:=by rw [upC,if_neg h]
theorem s8 {p:Pc} {c:Int} (h1:48≤c) (h2:c≤57):bU p c=fK p c:=by
 rw [bU,Dv (by omega),if_neg (by omega),if_pos ⟨h1,h2⟩]
theorem vQ {p:Pc} {c:Int} (h: ¬ (97≤c∧c≤122)) (h2: ¬ (65≤c∧c≤90)) (h3: ¬ (48≤c∧c≤57)):bU p c=⟨p.m0,p.m1,p.v0,p.v1,false⟩:=by
 rw [bU,Dv h,if_neg h2,if_neg h3]
theorem Ck {p:Pc} {n:Int} (h:p.Fit n) (c:Int):(bU p c).Fit (n+1):=by
 obtain ⟨⟨a1,a2⟩,⟨a3,a4⟩,⟨a5,a6⟩,⟨a7,a8⟩⟩:=h
 unfold bU
 split
 ·
  exact ⟨⟨by simp only [jD];omega,by simp only [jD];omega⟩,⟨a3,by simp only [jD];omega⟩,⟨by simp only [jD];omega,by simp only [jD];omega⟩,⟨a7,a8⟩⟩
 ·
  split
  ·
   exact ⟨⟨a1,by simp only [fK];omega⟩,⟨by simp only [fK];omega,by simp only [fK];omega⟩,⟨a5,a6⟩,⟨by simp only [fK];omega,by simp only [fK];omega⟩⟩
  ·
   exact ⟨⟨a1,by dsimp only;omega⟩,⟨a3,by dsimp only;omega⟩,⟨a5,a6⟩,⟨a7,a8⟩⟩
def qW (l:List Int):Pc:=l.foldl bU pc0
theorem AO (a:ByteArray) (ha:a.size≤100000) (w:World):ay Tryz.prog 301 [.string a] w (.agg (wq (qW (ap a))).toArray):=by
 refine aq Tryz.func301 rfl Tryz.ntmps301 rfl ?_
 have hl:=av a
 repeat' (first|refine sT ?_|refine sT2 ?_|refine sM fun _=> ?_|(refine sC ?_ ?_<;>intro hb<;>try omega)|exact cT|fail)
 rename_i g2 g3
 refine ax [0,2,3,9] rfl (fun x:Nat × Pc=> [(10,.int .i64 (x.1:Int))]) (fun x=> [.box g3 350 (wq x.2),.box g2 350 [.int .i64 0,.int .i64 0,.int .i64 0,.int .i64 0,.bool false]]) (fun x=>x.1≤a.size∧x.2.Fit x.1∧qW (ap a)=((ap a).drop x.1).foldl bU x.2) (fun x=>a.size - x.1) (0,pc0) ⟨Ns _,⟨⟨by decide,by decide⟩,⟨by decide,by decide⟩,⟨by decide,by decide⟩,⟨by decide,by decide⟩⟩,rfl⟩ sB mS ?_
 rintro ⟨i,p⟩ ⟨hi,hf,hr⟩
 dsimp only at hi hf hr ⊢
 by_cases hlt:i<a.size
 ·
  rw [bk hlt,O8] at hr
  have hc:=qc a i
  generalize hcd:bat a i=c at hr hc
  have hf2:=Ck hf c
  repeat' (first|(apply ak (d:=15);exact rfl;exact hcd ▸ aZ rfl rfl hlt)|(apply ak (d:=38);exact rfl;apply dw;exact rfl;exact rfl;exact eC (by omega) (by omega))|(apply aw (d:=41);exact rfl;exact rfl;(first|exact FnIn.msub (FN p _ _ hf (by omega) (by omega) (by omega) _ _ _) (.pick pK (.refl _))|exact FnIn.msub (FO p _ _ hf (by omega) (by omega) (by omega) _ _ _) (.pick pK (.refl _)));rintro _ _ ⟨rfl,rfl⟩)|refine sT ?_|refine sT2 ?_|refine sN ?_|refine sM fun _=> ?_|(refine sC ?_ ?_<;>intro hb<;>try omega)|exact cT|fail)
  all_goals
   refine ⟨(i+1,bU p c),⟨hlt,by have:=hf2;simpa using this,hr⟩,(by dsimp only;omega),sB,sB,?_⟩
   dsimp only
   first
   |(rw [Cj (by omega) (by omega)];exact mS;done)
   |(rw [EV (by omega) (by omega)];exact mS;done)
   |(rw [s8 (by omega) (by omega)];exact mS;done)
   |(rw [vQ (by omega) (by omega) (by omega)];exact mS;done)
 ·
  have e:i=a.size:=by omega
  subst e
  rw [NC (by omega),List.foldl_nil] at hr
  rw [hr]
  repeat' (first|refine sT ?_|refine sT2 ?_|refine sM fun _=> ?_|(refine sC ?_ ?_<;>intro hb<;>try omega)|exact cT|fail)
  exact w6 (.inl rfl) rfl rfl .hd rfl (MSub.nil _) rfl
def wF (l:List Int):Int × Int × Int:=
 if (qW l).ok=false∨(qW l).m0=0∨(qW l).m1=0 then (0,0,4)
 else if valid (qW l).v0 (qW l).v1 then ((qW l).v0,(qW l).v1,0) else (0,0,3)
theorem xU (a:ByteArray) (ha:a.size≤100000) (w:World):ay Tryz.prog 266 [.string a] w (.tuple #[.agg #[.int .i64 (wF (ap a)).1,.int .i64 (wF (ap a)).2.1],.int .i64 (wF (ap a)).2.2]):=by
 refine aq Tryz.func266 rfl Tryz.ntmps266 rfl ?_
 unfold wF
 generalize hp:qW (ap a)=p
 have hR:=AO a ha
 rw [hp] at hR
 repeat' (first|(apply aa;exact rfl;exact rfl;(intro w hm;exact hR w))|(apply aa;exact rfl;exact rfl;(intro w hm;exact j6 p.v0 p.v1 w))|refine sT ?_|refine sT2 ?_|refine sM fun _=> ?_|(refine sC ?_ ?_<;>intro hb<;>try omega)|exact cT|fail)
 all_goals
  (refine du ?_)
  simp_all
def eQ (a b:Rf):Bool:=decide (a.row<b.row)||(decide (a.row=b.row) && decide (a.col<b.col))
theorem xW (a b:Rf) (w:World):ay Tryz.prog 46 [.agg (cw a).toArray,.agg (cw b).toArray] w (.bool (eQ a b)):=by
 refine aq Tryz.func46 rfl Tryz.ntmps46 rfl ?_
 repeat' (first|refine sT ?_|refine sM fun _=> ?_|(refine sC ?_ ?_<;>intro hb<;>try omega)|exact cT|fail)
 all_goals ((refine rT1 ?_);((try simp only [← Int.not_lt] at*);simp_all [eQ, -Int.not_lt, -Int.not_le,← Int.not_lt]))
theorem L9 (a:Rf) (w:World):ay Tryz.prog 267 [.agg (cw a).toArray] w (.agg (bH (oU a.col a.row)).toArray):=by
 refine aq Tryz.func267 rfl Tryz.ntmps267 rfl ?_
 repeat' (first|refine sT ?_|refine sM fun _=> ?_|(refine sC ?_ ?_<;>intro hb<;>try omega)|exact cT|fail)
 (refine eRC ?_)
 rfl
def dx (r:Rct) (a:Rf):Bool:=decide (r.c1≤a.col) && decide (a.col≤r.c2) && decide (r.r1≤a.row) && decide (a.row≤r.r2)
theorem Ma (r:Rct) (a:Rf) (w:World):ay Tryz.prog 45 [.agg (bH r).toArray,.agg (cw a).toArray] w (.bool (dx r a)):=by
 refine aq Tryz.func45 rfl Tryz.ntmps45 rfl ?_
 repeat' (first|refine sT ?_|refine sM fun _=> ?_|(refine sC ?_ ?_<;>intro hb<;>try omega)|exact cT|fail)
 all_goals ((refine rT1 ?_);((try simp only [← Int.not_lt] at*);simp_all [dx, -Int.not_lt, -Int.not_le,← Int.not_lt]))
end Go.SL
namespace Go.SL
open Go Go.Proofs Go.Sort Go.Shelf
def MX (L:List Rf):List Rf:=L.mergeSort fun x y=> !(eQ y x)
end Go.SL
namespace Go.SL
open Go
abbrev Gr:=List (Rf × List Nd × List Us)
def KS (G:Gr):List Rf:=G.map fun e=>e.1
def SortG (G:Gr):Prop:=G.Pairwise fun x y=>eQ x.1 y.1=true
def tF (G:Gr) (a:Rf):Option (List Nd × List Us):=(G.find? fun e=>decide (e.1=a)).map fun e=>e.2
def KN (G:Gr) (a:Rf):List Nd:=((tF G a).map fun x=>x.1).getD []
def KM (G:Gr) (a:Rf):List Us:=((tF G a).map fun x=>x.2).getD []
theorem E9 (a:Rf):eQ a a=false:=by simp [eQ]
theorem HK {a b:Rf} (h:eQ a b=true):a≠b:=by
 rintro rfl
 rw [E9] at h
 cases h
theorem SortG.nodup {G:Gr} (h:SortG G):(KS G).Nodup:=by
 rw [KS,List.Nodup,List.pairwise_map]
 exact h.imp fun h=>HK h
theorem Ct {G:Gr} (h:SortG G) {a:Rf} {x:List Nd × List Us}:tF G a=some x↔(a,x)∈G:=by
 constructor
 ·
  intro hl
  obtain ⟨e,he,rfl⟩:=Od.1 hl
  have h1:=List.find?_some he
  have h2:=PY he
  simp only [decide_eq_true_eq] at h1
  subst h1
  exact h2
 ·
  intro hm
  have hn:=h.nodup
  cases hf:G.find? fun e=>decide (e.1=a) with
  |none=>
   rw [List.find?_eq_none] at hf
   exact absurd (hf _ hm) (by simp)
  |some e=>
   have h1:=List.find?_some hf
   have h2:=PY hf
   simp only [decide_eq_true_eq] at h1
   have:=tO (fun e:Rf × List Nd × List Us=>e.1) hn h2 hm h1
   rw [tF,hf,this];rfl
theorem Cu {G:Gr} {a:Rf}:tF G a=none↔ ∀ e∈G,e.1≠a:=by
 rw [tF,Option.map_eq_none_iff,List.find?_eq_none]
 simp
end Go.SL
namespace Go.SL
open Go Go.Proofs
attribute [local irreducible] W WL WQ WG WA WX WLI WR WT WC VOp RW thn blk bE scp ba bo bL aP FnP ceP
structure Gs where
 gg:Nat
 gm:Nat
 E:List En
 clock:Nat
 R1:List Blk
 gr:Nat
 A:Option Nat
 cap:Nat
 Q:List En
 R2:List Blk
end Go.SL
namespace Go.SL
open Go
def En.abs (e:En):Rf × List Nd × List Us:=(e.at_,e.tree,e.uses)
structure GOk (R:List Blk) (E:List En) (clock:Nat) (G:Gr):Prop where
 ok:MapOk (E.map En.m) clock
 en: ∀ e∈E,EnOk R e
 rel: ∀ x,x∈E.map En.abs↔x∈G
 sort:SortG G
theorem GOk.look {R:List Blk} {E:List En} {clock:Nat} {G:Gr} (h:GOk R E clock G) (a:Rf):(wg E a).map (fun e=>(e.tree,e.uses))=tF G a:=by
 cases hf:wg E a with
 |some e=>
  have h1:=List.find?_some hf
  simp only [decide_eq_true_eq] at h1
  have h2:(a,e.tree,e.uses)∈G:=by
   rw [← h.rel]
   refine OQ.2 ⟨e,PY hf,?_⟩
   rw [← h1];rfl
  rw [(Ct h.sort).2 h2];rfl
 |none=>
  rw [wg,List.find?_eq_none] at hf
  symm
  rw [P6,Cu]
  intro x hx
  rw [← h.rel] at hx
  obtain ⟨e,he,rfl⟩:=OQ.1 hx
  have:=hf e he
  simpa [En.abs] using this
theorem GOk.uses {R:List Blk} {E:List En} {clock:Nat} {G:Gr} (h:GOk R E clock G) (a:Rf):(xI E a).uses=KM G a:=by
 rw [KM,← h.look a,xI]
 cases wg E a<;>rfl
theorem GOk.tree {R:List Blk} {E:List En} {clock:Nat} {G:Gr} (h:GOk R E clock G) (a:Rf):(xI E a).tree=KN G a:=by
 rw [KN,← h.look a,xI]
 cases wg E a<;>rfl
end Go.SL
namespace Go.SL
open Go Go.Proofs
attribute [local irreducible] W WL WQ WG WA WX WLI WR WT WC VOp RW thn blk bE scp ba bo bL aP FnIn FnP ceP
def M6 (e:En):List Value:= [.int .i64 e.at_.col,.int .i64 e.at_.row,e.tv,e.uv]
def rgB (g:Nat) (A:Option Nat) (cap:Nat) (L:List En):List Blk:= [.box g 167 [sl A L.length cap],.own A 169 4 L.length cap (L.flatMap M6)]
structure RGOk (R:List Blk) (L:List En) (G:Gr):Prop where
 en: ∀ e∈L,EnOk R e
 rel:L.map En.abs=G
end Go.SL
namespace Go.SL
open Go
theorem s6 {p:Pc} {c:Int} (h:bO c=true):bU p c=jD p (upC c):=by
 simp only [bO,OX,Nm,decide_eq_true_eq] at h
 rw [bU,if_pos]
 unfold upC
 split<;>omega
theorem fY {p:Pc} {c:Int} (h:aH c=true):bU p c=fK p c:=by
 simp only [aH,Nm,decide_eq_true_eq] at h
 exact s8 h.1 h.2
theorem kP {p:Pc} {c:Int} (h:bO c=false) (h2:aH c=false):(bU p c).ok=false:=by
 simp only [bO,aH,Pf,Oj,decide_eq_false_iff_not] at h h2
 rw [vQ (by omega) (by omega) (by omega)]
theorem Cm {p:Pc} (h:p.ok=false) (c:Int):(bU p c).ok=false:=by
 unfold bU
 split
 ·
  simp [jD,h]
 ·
  split
  ·
   simp [fK,h]
  ·
   rfl
theorem l5: ∀ (l:List Int) {p:Pc},p.ok=false→(l.foldl bU p).ok=false
 | [],_,h=>h
 |c::r,_,h=>l5 r (Cm h c)
theorem zR: ∀ (l:List Int) (p:Pc),(∀ c∈l,bO c=true)→p.m1=0→l.foldl bU p=⟨p.m0+l.length,0,bq l p.v0,p.v1,p.ok⟩
 | [],p,_,h=>by obtain ⟨a,b,c,d,e⟩:=p;simp only at h;subst h;simp [bq]
 |c::r,p,hl,h=>by
  rw [O8,s6 (hl c Nj),zR r _ (fun d hd=>hl d (Nv _ hd)) (by simp [jD,h])]
  simp only [jD,h,bq,decide_true,NX,NB,Pc.mk.injEq,true_and,and_true]
  refine ⟨by push_cast;omega,?_⟩
  rw [show 26*p.v0+(upC c - 65)+1=26*p.v0+(upC c - 64) by omega]
theorem tQ: ∀ (l:List Int) (p:Pc),(∀ c∈l,aH c=true)→0<p.m1→l.foldl bU p=⟨p.m0,p.m1+l.length,p.v0,lh l p.v1,p.ok⟩
 | [],p,_,_=>by obtain ⟨a,b,c,d,e⟩:=p;simp [lh]
 |c::r,p,hl,h=>by
  rw [O8,fY (hl c Nj),tQ r _ (fun d hd=>hl d (Nv _ hd)) (by simp [fK];omega)]
  simp only [fK,h,lh,decide_true,Bool.or_true,NX,NB,Pc.mk.injEq,true_and,and_true]
  push_cast;omega
theorem nS: ∀ (l:List Int) (p:Pc),(l.all aH=false)→0<p.m1→(l.foldl bU p).ok=false
 | [],_,h,_=>by simp at h
 |c::r,p,h,hm=>by
  rw [O8]
  cases hd:aH c
  ·
   apply l5
   cases hl:bO c
   ·
    exact kP hl hd
   ·
    rw [s6 hl]
    simp only [jD]
    rw [decide_eq_false (by omega)]
    simp
  ·
   rw [Pm,hd,NI] at h
   apply nS r _ h
   rw [fY hd]
   simp only [fK];omega
theorem kT: ∀ (l:List Int) {v:Int},(∀ c∈l,bO c=true)→0≤v→(l≠ []∨1≤v)→1≤bq l v
 | [],v,_,_,h=>by rcases h with h|h;exact absurd rfl h;exact h
 |c::r,v,hl,h0,_=>by
  have hc:=hl c Nj
  simp only [bO,OX,Nm,decide_eq_true_eq] at hc
  have hu:65≤upC c:=by unfold upC;split<;>omega
  simp only [bq]
  exact kT r (fun d hd=>hl d (Nv _ hd)) (by omega) (.inr (by omega))
theorem y5: ∀ (l:List Int) {v:Int},(∀ c∈l,aH c=true)→1≤v→1≤lh l v
 | [],_,_,h=>h
 |c::r,v,hl,h=>by
  have hc:=hl c Nj
  simp only [aH,Nm,decide_eq_true_eq] at hc
  simp only [lh]
  exact y5 r (fun d hd=>hl d (Nv _ hd)) (by omega)
theorem mZ {p:Int→Bool}: ∀ {l:List Int} {c:Int},c∈l.takeWhile p→p c=true
 |d::r,c,h=>by
  rw [PU] at h
  split at h
  ·
   rename_i hp
   rcases NA.1 h with rfl|h
   ·
    exact hp
   ·
    exact mZ h
  ·
   cases h
theorem I4 (l:List Int):wF l=bY l:=by
 unfold wF bY
 dsimp only
 generalize ha:l.takeWhile bO=a
 generalize hd:l.dropWhile bO=d
 have hl:l=a++d:=by rw [← ha,← hd,List.takeWhile_append_dropWhile]
 have hal: ∀ c∈a,bO c=true:=fun c hc=>mZ (ha ▸ hc)
 have hp:qW l=d.foldl bU ⟨a.length,0,bq a 0,0,true⟩:=by
  rw [qW,hl,P2,zR a pc0 hal rfl]
  simp [pc0]
 rw [hp]
 cases d with
 |nil=>simp
 |cons c r=>
  have hcl:bO c=false:=by
   cases hq:bO c
   ·
    rfl
   ·
    exfalso
    have hne:l.dropWhile bO≠ []:=by rw [hd];simp
    have:=List.head_dropWhile_not bO hne
    simp only [hd,List.head_cons] at this
    rw [hq] at this;cases this
  rw [O8]
  by_cases ha0:a= []
  ·
   subst ha0
   have:(List.foldl bU (bU ⟨(([]:List Int).length:Int),0,bq [] 0,0,true⟩ c) r).ok=false∨(List.foldl bU (bU ⟨(([]:List Int).length:Int),0,bq [] 0,0,true⟩ c) r).m0=0∨(List.foldl bU (bU ⟨(([]:List Int).length:Int),0,bq [] 0,0,true⟩ c) r).m1=0:=by
    cases hdc:aH c
    ·
     exact .inl (l5 r (kP hcl hdc))
    ·
     cases hr:r.all aH
     ·
      left
      apply nS r _ hr
      rw [fY hdc];simp [fK]
     ·
      right;left
      rw [tQ r _ (by simpa using hr) (by rw [fY hdc];simp [fK])]
      rw [fY hdc];simp [fK]
   rw [if_pos this,if_pos (show (([]:List Int)= []∨_) from .inl rfl)]
  ·
   have hlen:0<(a.length:Int):=by
    have:=OM.2 ha0
    omega
   cases hdc:aH c
   ·
    rw [if_pos (.inl (l5 r (kP hcl hdc))),if_pos (.inr (.inr (.inr (by simp [hdc]))))]
   ·
    rw [fY hdc]
    by_cases h48:c=48
    ·
     rw [if_pos (.inl (l5 r (by simp [fK,h48]))),if_pos (.inr (.inr (.inl (by simp [h48]))))]
    ·
     cases hr:r.all aH
     ·
      rw [if_pos (.inl (nS r _ hr (by simp [fK]))),if_pos (.inr (.inr (.inr (by simp [hr]))))]
     ·
      have hr' : ∀ x∈r,aH x=true:=by simpa using hr
      have hp2:List.foldl bU (fK ⟨a.length,0,bq a 0,0,true⟩ c) r=⟨a.length,1+r.length,bq a 0,lh (c::r) 0,true⟩:=by
       rw [tQ r _ hr' (by simp [fK])]
       simp [fK,h48,lh]
      rw [hp2,if_neg (c:=(a= []∨_)) (by simp [ha0,h48,hdc,hr])]
      have hd2:=hdc
      simp only [aH,Nm,decide_eq_true_eq] at hd2
      have h1:=kT a hal (OH 0) (.inl ha0)
      have h3:1≤lh (c::r) 0:=y5 r (v:=min (10*0+(c - 48)) 1025) hr' (by omega)
      generalize lh (c::r) 0=u at h3 ⊢
      split
      ·
       rename_i h
       exfalso
       rcases h with h|h|h
       ·
        cases h
       ·
        exact absurd h (by show ¬ ((a.length:Int)=0);omega)
       ·
        exact absurd h (by show ¬ (1+(r.length:Int)=0);omega)
      ·
       by_cases hb:1024<bq a 0∨1024<u
       ·
        rw [if_pos hb,if_neg]
        simp only [valid,Nm,decide_eq_true_eq]
        omega
       ·
        rw [if_neg hb,if_pos]
        simp only [valid,Nm,decide_eq_true_eq]
        omega
end Go.SL
