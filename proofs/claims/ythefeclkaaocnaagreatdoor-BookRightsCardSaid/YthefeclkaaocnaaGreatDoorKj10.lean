/-
  Lemmas and walks, put together: W10 W27 A2 A3 A4.
-/
import Derived.Test.YthefeclkaaocnaaGreatDoorKj09
set_option linter.unusedSimpArgs false
set_option linter.unusedVariables false
set_option maxRecDepth 20000
namespace Go.SL
open Go Go.Proofs
attribute [local irreducible] W WL WQ WG WA VOp thn blk bg aQ FnIn
def k1:Nd:=⟨1,⟨1,50000,au⟩,aM,0,0,0⟩
def k2:Nd:=⟨2,bK,⟨1,1,1,1⟩,0,0,0⟩
def k3:Nd:=⟨3,bK,⟨1,1,2,2⟩,0,0,0⟩
def k6:Nd:=⟨6,bK,aM,1,0,0⟩
def j7:Nd:=⟨7,bK,aM,0,46,1⟩
theorem Reads.of_row {w0 w:World} {H:List Blk} {g t sz m c:Nat} {xs:List Value} (hm:Mem w0 w H) (hi:In (.own (some g) t sz m c xs) H):Reads w (.slice (some ⟨g,0,none⟩) m c) m xs:=Reads.of_own hm hi
end Go.SL
namespace Go.SL
open Go Go.Proofs
attribute [local irreducible] W WL WQ WG WA VOp thn blk bG bg aQ FnIn
def Kx (n:Nd):Bool:=decide (n.kind=2)||decide (n.kind=3)
theorem Jq (r:Rct):(bQ r).length=4:=rfl
theorem MC (L:List Rct) (lv:Value) (w:World) (hl:Reads w lv L.length (L.flatMap bQ)):ax Tryz.prog 163 [lv] w (.bool (L.all aF)):=by
 obtain ⟨Al,cl,rfl,hl1,hl2,hl3⟩:=hl
 refine aq Tryz.func163 rfl Tryz.ntmps163 rfl ?_
 repeat' (first|refine sT ?_|refine sM fun _=> ?_|(refine sC ?_ ?_<;>intro hb<;>try omega)|fail)
 refine fC (fun i:Nat=> [(5,.slice Al L.length cl),(6,.int .i64 (L.length:Int)),(7,.int .i64 (i:Int))]) (fun _=> []) (fun i=>i≤L.length∧L.all aF=(L.drop i).all aF) (fun i=>L.length - i) 0 ⟨by omega,rfl⟩ ?_ ?_ ?_
 ·
  exact sB
 ·
  exact mS
 ·
  rintro i ⟨hi,hrec⟩
  by_cases hlt:i<L.length
  ·
   obtain ⟨gl,ol,rfl,hrl⟩:=hl3 (by omega)
   have he1:=hrl.elem Jq i hlt
   rw [NL hlt,PP] at hrec
   generalize L[i]=r at hrec he1
   repeat' (first|(apply aa;exact rfl;exact rfl;(intro w hm;exact gR r w))|refine sT ?_|refine sN ?_|refine sO ?_|refine sM fun _=> ?_|(refine sC ?_ ?_<;>intro hb<;>try omega)|fail)
   ·
    (refine rT1 ?_)
    rw [hrec]
    cases hq:aF r<;>simp [dU,hq] at hb ⊢
   ·
    refine ⟨i+1,⟨by omega,?_⟩,by omega,?_,?_⟩
    ·
     rw [hrec]
     cases hq:aF r<;>simp [dU,hq] at hb ⊢
    ·
     exact sB
    ·
     exact mS
  ·
   have e:i=L.length:=by omega
   subst e
   repeat' (first|refine sT ?_|refine sM fun _=> ?_|(refine sC ?_ ?_<;>intro hb<;>try omega)|fail)
   (refine rT1 ?_)
   rw [hrec,NW]
   rfl
def gY (a b:Rct):Rct:=⟨if a.c1<b.c1 then b.c1 else a.c1,if a.r1<b.r1 then b.r1 else a.r1,if b.c2<a.c2 then b.c2 else a.c2,if b.r2<a.r2 then b.r2 else a.r2⟩
def dV (a b:Rct):Rct × Bool:=if [a,b,gY a b].all aF=true then (gY a b,true) else (aM,false)
theorem EX (a b:Rct) (w:World):ax Tryz.prog 130 [.agg (bQ a).toArray,.agg (bQ b).toArray] w (.tuple #[.agg (bQ (dV a b).1).toArray,.bool (dV a b).2]):=by
 refine aq Tryz.func130 rfl Tryz.ntmps130 rfl ?_
 have hall:=fun (lv:Value) (w:World)=>MC [a,b,gY a b] lv w
 unfold dV
 generalize [a,b,gY a b].all aF=q at hall
 repeat' (first|(apply aa;exact rfl;exact rfl;(intro w hm;exact hall _ w (Reads.of_row hm pK)))|refine sT ?_|refine sM fun _=> ?_|(refine sC ?_ ?_<;>intro hb<;>try omega)|fail)
 ·
  refine EC (.inl rfl) Tryz.results130 rfl pK rfl rfl (MSub.nil _) ?_
  simp [hb,aM,bQ]
 ·
  refine EC (.inl rfl) Tryz.results130 rfl pK rfl rfl (MSub.nil _) ?_
  simp [hb,gY,bQ]
structure Pc where
 m0:Int
 m1:Int
 v0:Int
 v1:Int
 ok:Bool
def wZ (p:Pc):List Value:= [.int .i64 p.m0,.int .i64 p.m1,.int .i64 p.v0,.int .i64 p.v1,.bool p.ok]
def kn (p:Pc) (c:Int):Pc:=⟨p.m0+1,p.m1,min (26*p.v0+(c - 65)+1) 1025,p.v1,p.ok && decide (p.m1=0)⟩
def fU (p:Pc) (c:Int):Pc:=⟨p.m0,p.m1+1,p.v0,min (10*p.v1+(c - 48)) 1025,p.ok && (decide (c≠48)||decide (0<p.m1))⟩
structure Pc.Fit (p:Pc) (n:Int):Prop where
 m0:0≤p.m0∧p.m0≤n
 m1:0≤p.m1∧p.m1≤n
 v0:0≤p.v0∧p.v0≤1025
 v1:0≤p.v1∧p.v1≤1025
theorem yc (a b:Int):(if b<a then b else a)=min a b:=by omega
theorem Gw (p:Pc) (c:Int) (n:Int) (hf:p.Fit n) (hn:n≤1000000) (h1:65≤c) (h2:c≤90) (g:Nat) (R:List Blk) (w0:World):
  FnIn Tryz.prog 331 [.pointer (some ⟨g,0,none⟩),.int .u8 c,.bool true] w0 (.box g 398 (wZ p)::R) fun v H=>v= .tuple #[]∧H= .box g 398 (wZ (kn p c))::R:=by
 refine eC Tryz.func331 rfl Tryz.ntmps331 rfl ?_
 obtain ⟨a1,a2⟩:=hf.m0
 obtain ⟨a3,a4⟩:=hf.m1
 obtain ⟨a5,a6⟩:=hf.v0
 obtain ⟨a7,a8⟩:=hf.v1
 have hwc:IntKind.u8.wrap (c - 65)=c - 65:=eM (by omega) (by omega)
 have hwc2:IntKind.i64.wrap (c - 65)=c - 65:=I64.wrap ⟨by omega,by omega⟩
 repeat' (first|(refine tu (id:=1) (ι:=Bool) (fun _=> [(0,.pointer (some ⟨g,0,none⟩)),(1,.int .u8 c)]) (fun b=> .box g 398 [.int .i64 p.m0,.int .i64 p.m1,.int .i64 p.v0,.int .i64 p.v1,.bool b]::R) (fun b=>b=(p.ok && decide (p.m1=0))) ?_ ?_)|refine sT ?_|refine sT2 ?_|refine sG2 ?_|refine sJ ?_|refine sJG ?_|refine sG ?_|refine sM fun _=> ?_|(refine sC ?_ ?_<;>intro hb<;>try omega)|exact cT|fail)
 ·
  (apply bf;rotate_left 1;exact sB;exact mS)
  rw [hb];rfl
 ·
  (apply bf;rotate_left 1;exact sB;exact mS)
  rw [hb];rfl
 rintro _ rfl
 repeat' (first|(refine nU (id:=2) 9 (.box g 398 [.int .i64 (p.m0+1),.int .i64 p.m1,.int .i64 p.v0,.int .i64 p.v1,.bool (p.ok && decide (p.m1=0))]::R) (by kernel_rfl) (by kernel_rfl) rfl ?_)|(refine nU (id:=3) 16 (.box g 398 [.int .i64 (p.m0+1),.int .i64 p.m1,.int .i64 (min (26*p.v0+(c - 65)+1) 1025),.int .i64 p.v1,.bool (p.ok && decide (p.m1=0))]::R) (by kernel_rfl) (by kernel_rfl) rfl ?_)|(apply yZ (f:=60);exact rfl;decide+kernel;exact rfl;apply dG;exact rfl;exact rfl;exact hwc)|(apply yZ (f:=60);exact rfl;decide+kernel;exact rfl;apply bI;exact rfl;exact hwc2)|(apply ri;exact rfl;exact rfl;exact .hd;exact rfl;exact rfl;(try rw [yc]);exact .refl _)|refine sT ?_|refine sT2 ?_|refine sG2 ?_|refine sJ ?_|refine sJG ?_|refine sG ?_|refine sM fun _=> ?_|(refine sC ?_ ?_<;>intro hb<;>try omega)|exact cT|fail)
 exact iX (.inl rfl) rfl (.refl _) ⟨rfl,rfl⟩
theorem Gx (p:Pc) (c:Int) (n:Int) (hf:p.Fit n) (hn:n≤1000000) (h1:48≤c) (h2:c≤57) (g:Nat) (R:List Blk) (w0:World):
  FnIn Tryz.prog 331 [.pointer (some ⟨g,0,none⟩),.int .u8 c,.bool false] w0 (.box g 398 (wZ p)::R) fun v H=>v= .tuple #[]∧H= .box g 398 (wZ (fU p c))::R:=by
 refine eC Tryz.func331 rfl Tryz.ntmps331 rfl ?_
 obtain ⟨a1,a2⟩:=hf.m0
 obtain ⟨a3,a4⟩:=hf.m1
 obtain ⟨a5,a6⟩:=hf.v0
 obtain ⟨a7,a8⟩:=hf.v1
 have hwc:IntKind.u8.wrap (c - 48)=c - 48:=eM (by omega) (by omega)
 have hwc2:IntKind.i64.wrap (c - 48)=c - 48:=I64.wrap ⟨by omega,by omega⟩
 repeat' (first|(refine tu (id:=4) (ι:=Bool) (fun _=> [(0,.pointer (some ⟨g,0,none⟩)),(1,.int .u8 c)]) (fun b=> .box g 398 [.int .i64 p.m0,.int .i64 p.m1,.int .i64 p.v0,.int .i64 p.v1,.bool b]::R) (fun b=>b=(p.ok && (decide (c≠48)||decide (0<p.m1)))) ?_ ?_)|refine sT ?_|refine sT2 ?_|refine sG2 ?_|refine sJ ?_|refine sJG ?_|refine sG ?_|refine sM fun _=> ?_|(refine sC ?_ ?_<;>intro hb<;>try omega)|exact cT|fail)
 ·
  (apply bf;rotate_left 1;exact sB;exact mS)
  rename_i h3
  rw [h3,decide_eq_true hb];rfl
 ·
  (apply bf;rotate_left 1;exact sB;exact mS)
  rename_i h3
  rw [h3,decide_eq_false hb];rfl
 ·
  (apply bf;rotate_left 1;exact sB;exact mS)
  rw [hb];rfl
 rintro _ rfl
 repeat' (first|(refine nU (id:=5) 9 (.box g 398 [.int .i64 p.m0,.int .i64 (p.m1+1),.int .i64 p.v0,.int .i64 p.v1,.bool (p.ok && (decide (c≠48)||decide (0<p.m1)))]::R) (by kernel_rfl) (by kernel_rfl) rfl ?_)|(refine nU (id:=6) 15 (.box g 398 [.int .i64 p.m0,.int .i64 (p.m1+1),.int .i64 p.v0,.int .i64 (min (10*p.v1+(c - 48)) 1025),.bool (p.ok && (decide (c≠48)||decide (0<p.m1)))]::R) (by kernel_rfl) (by kernel_rfl) rfl ?_)|(apply yZ (f:=60);exact rfl;decide+kernel;exact rfl;apply dG;exact rfl;exact rfl;exact hwc)|(apply yZ (f:=60);exact rfl;decide+kernel;exact rfl;apply bI;exact rfl;exact hwc2)|(apply ri;exact rfl;exact rfl;exact .hd;exact rfl;exact rfl;(try rw [yc]);exact .refl _)|refine sT ?_|refine sT2 ?_|refine sG2 ?_|refine sJ ?_|refine sJG ?_|refine sG ?_|refine sM fun _=> ?_|(refine sC ?_ ?_<;>intro hb<;>try omega)|exact cT|fail)
 exact iX (.inr rfl) rfl (.refl _) ⟨rfl,rfl⟩
def bV (p:Pc) (c:Int):Pc:=if 65≤upC c∧upC c≤90 then kn p (upC c) else if 48≤c∧c≤57 then fU p c else ⟨p.m0,p.m1,p.v0,p.v1,false⟩
def pc0:Pc:=⟨0,0,0,0,true⟩
theorem CP {p:Pc} {c:Int} (h1:97≤c) (h2:c≤122):bV p c=kn p (c - 32):=by
 have e:upC c=c - 32:=by rw [upC,if_pos ⟨h1,h2⟩]
 rw [bV,e,if_pos (by omega)]
theorem FJ {p:Pc} {c:Int} (h1:65≤c) (h2:c≤90):bV p c=kn p c:=by
 have e:upC c=c:=by rw [upC,if_neg (by omega)]
 rw [bV,e,if_pos (by omega)]
theorem El {c:Int} (h: ¬ (97≤c∧c≤122)):upC c=c:=by rw [upC,if_neg h]
theorem uj {p:Pc} {c:Int} (h1:48≤c) (h2:c≤57):bV p c=fU p c:=by
 rw [bV,El (by omega),if_neg (by omega),if_pos ⟨h1,h2⟩]
theorem wI {p:Pc} {c:Int} (h: ¬ (97≤c∧c≤122)) (h2: ¬ (65≤c∧c≤90)) (h3: ¬ (48≤c∧c≤57)):bV p c=⟨p.m0,p.m1,p.v0,p.v1,false⟩:=by
 rw [bV,El h,if_neg h2,if_neg h3]
theorem CQ {p:Pc} {n:Int} (h:p.Fit n) (c:Int):(bV p c).Fit (n+1):=by
 obtain ⟨⟨a1,a2⟩,⟨a3,a4⟩,⟨a5,a6⟩,⟨a7,a8⟩⟩:=h
 unfold bV
 split
 ·
  exact ⟨⟨by simp only [kn];omega,by simp only [kn];omega⟩,⟨a3,by simp only [kn];omega⟩,⟨by simp only [kn];omega,by simp only [kn];omega⟩,⟨a7,a8⟩⟩
 ·
  split
  ·
   exact ⟨⟨a1,by simp only [fU];omega⟩,⟨by simp only [fU];omega,by simp only [fU];omega⟩,⟨a5,a6⟩,⟨by simp only [fU];omega,by simp only [fU];omega⟩⟩
  ·
   exact ⟨⟨a1,by dsimp only;omega⟩,⟨a3,by dsimp only;omega⟩,⟨a5,a6⟩,⟨a7,a8⟩⟩
def rW (l:List Int):Pc:=l.foldl bV pc0
theorem Bz (a:ByteArray) (ha:a.size≤100000) (w:World):ax Tryz.prog 313 [.string a] w (.agg (wZ (rW (ap a))).toArray):=by
 refine aq Tryz.func313 rfl Tryz.ntmps313 rfl ?_
 have hl:=av a
 repeat' (first|refine sT ?_|refine sT2 ?_|refine sM fun _=> ?_|(refine sC ?_ ?_<;>intro hb<;>try omega)|exact cT|fail)
 rename_i g2 g3
 refine ay [0,2,3,9] rfl (fun x:Nat × Pc=> [(10,.int .i64 (x.1:Int))]) (fun x=> [.box g3 398 (wZ x.2),.box g2 398 [.int .i64 0,.int .i64 0,.int .i64 0,.int .i64 0,.bool false]]) (fun x=>x.1≤a.size∧x.2.Fit x.1∧rW (ap a)=((ap a).drop x.1).foldl bV x.2) (fun x=>a.size - x.1) (0,pc0) ⟨NY _,⟨⟨by decide,by decide⟩,⟨by decide,by decide⟩,⟨by decide,by decide⟩,⟨by decide,by decide⟩⟩,rfl⟩ sB mS ?_
 rintro ⟨i,p⟩ ⟨hi,hf,hr⟩
 dsimp only at hi hf hr ⊢
 by_cases hlt:i<a.size
 ·
  rw [aZ hlt,PH] at hr
  have hc:=qY a i
  generalize hcd:bat a i=c at hr hc
  have hf2:=CQ hf c
  repeat' (first|(apply ak (d:=15);exact rfl;exact hcd ▸ aV rfl rfl hlt)|(apply ak (d:=38);exact rfl;apply dG;exact rfl;exact rfl;exact eM (by omega) (by omega))|(apply aw (d:=41);exact rfl;exact rfl;(first|exact FnIn.msub (Gw p _ _ hf (by omega) (by omega) (by omega) _ _ _) (.pick pK (.refl _))|exact FnIn.msub (Gx p _ _ hf (by omega) (by omega) (by omega) _ _ _) (.pick pK (.refl _)));rintro _ _ ⟨rfl,rfl⟩)|refine sT ?_|refine sT2 ?_|refine sN ?_|refine sM fun _=> ?_|(refine sC ?_ ?_<;>intro hb<;>try omega)|exact cT|fail)
  all_goals
   refine ⟨(i+1,bV p c),⟨hlt,by have:=hf2;simpa using this,hr⟩,(by dsimp only;omega),sB,sB,?_⟩
   dsimp only
   first
   |(rw [CP (by omega) (by omega)];exact mS;done)
   |(rw [FJ (by omega) (by omega)];exact mS;done)
   |(rw [uj (by omega) (by omega)];exact mS;done)
   |(rw [wI (by omega) (by omega) (by omega)];exact mS;done)
 ·
  have e:i=a.size:=by omega
  subst e
  rw [N0 (by omega),List.foldl_nil] at hr
  rw [hr]
  repeat' (first|refine sT ?_|refine sT2 ?_|refine sM fun _=> ?_|(refine sC ?_ ?_<;>intro hb<;>try omega)|exact cT|fail)
  exact zz (.inl rfl) rfl rfl .hd rfl (MSub.nil _) rfl
def xe (l:List Int):Int × Int × Int:=
 if (rW l).ok=false∨(rW l).m0=0∨(rW l).m1=0 then (0,0,4)
 else if valid (rW l).v0 (rW l).v1 then ((rW l).v0,(rW l).v1,0) else (0,0,3)
theorem yE (a:ByteArray) (ha:a.size≤100000) (w:World):ax Tryz.prog 284 [.string a] w (.tuple #[.agg #[.int .i64 (xe (ap a)).1,.int .i64 (xe (ap a)).2.1],.int .i64 (xe (ap a)).2.2]):=by
 refine aq Tryz.func284 rfl Tryz.ntmps284 rfl ?_
 unfold xe
 generalize hp:rW (ap a)=p
 have hR:=Bz a ha
 rw [hp] at hR
 repeat' (first|(apply aa;exact rfl;exact rfl;(intro w hm;exact hR w))|(apply aa;exact rfl;exact rfl;(intro w hm;exact jL p.v0 p.v1 w))|refine sT ?_|refine sT2 ?_|refine sM fun _=> ?_|(refine sC ?_ ?_<;>intro hb<;>try omega)|exact cT|fail)
 all_goals
  (refine eV ?_)
  simp_all
def bP (a b:Rf):Bool:=decide (a.row<b.row)||(decide (a.row=b.row) && decide (a.col<b.col))
theorem yG (a b:Rf) (w:World):ax Tryz.prog 60 [.agg (cu a).toArray,.agg (cu b).toArray] w (.bool (bP a b)):=by
 refine aq Tryz.func60 rfl Tryz.ntmps60 rfl ?_
 repeat' (first|refine sT ?_|refine sM fun _=> ?_|(refine sC ?_ ?_<;>intro hb<;>try omega)|exact cT|fail)
 all_goals ((refine rT1 ?_);((try simp only [← Int.not_lt] at*);simp_all [bP, -Int.not_lt, -Int.not_le,← Int.not_lt]))
theorem MF (a:Rf) (w:World):ax Tryz.prog 140 [.agg (cu a).toArray] w (.agg (bQ (KF a.col a.row)).toArray):=by
 refine aq Tryz.func140 rfl Tryz.ntmps140 rfl ?_
 repeat' (first|refine sT ?_|refine sM fun _=> ?_|(refine sC ?_ ?_<;>intro hb<;>try omega)|exact cT|fail)
 (refine eRC ?_)
 rfl
def di (r:Rct) (a:Rf):Bool:=decide (r.c1≤a.col) && decide (a.col≤r.c2) && decide (r.r1≤a.row) && decide (a.row≤r.r2)
theorem JV (r:Rct) (a:Rf) (w:World):ax Tryz.prog 59 [.agg (bQ r).toArray,.agg (cu a).toArray] w (.bool (di r a)):=by
 refine aq Tryz.func59 rfl Tryz.ntmps59 rfl ?_
 repeat' (first|refine sT ?_|refine sM fun _=> ?_|(refine sC ?_ ?_<;>intro hb<;>try omega)|exact cT|fail)
 all_goals ((refine rT1 ?_);((try simp only [← Int.not_lt] at*);simp_all [di, -Int.not_lt, -Int.not_le,← Int.not_lt]))
end Go.SL
namespace Go.SL
open Go Go.Proofs
attribute [local irreducible] W WL WQ WG WA VOp thn blk bG scp bg aQ FnIn
set_option maxRecDepth 10000 in
theorem Bi (f:FuncId) [Callable Tryz.prog f] (caps:List Value) (g:Int→Int) (a:ByteArray) (ha:a.size≤1000000) (w:World) (hf: ∀ c w' H,0≤c→c<256→Mem w w' H→ax Tryz.prog f ([.int .u8 c]++caps) w' (.int .u8 (g c))):
  aQ Tryz.prog 231 [.string a,.func (.func f) #[] caps.toArray] w fun v H=> ∃ gb cap,v= .slice (some ⟨gb,0,none⟩) a.size cap∧H= [.byt gb 5 a.size cap (((ap a).map g).map (Value.int .u8))]:=by
 refine aq Tryz.func231 rfl Tryz.ntmps231 rfl ?_
 repeat' (first|(apply lK;exact rfl;exact rfl;intro gb cap)|refine sT ?_|refine sM fun _=> ?_|(refine sC ?_ ?_<;>intro hb<;>try omega)|fail)
 refine fC (fun i:Nat=> [(5,.slice (some ⟨gb,0,none⟩) a.size cap),(10,.slice (some ⟨gb,0,none⟩) a.size cap),(11,.int .i64 (a.size:Int)),(12,.int .i64 (i:Int)),(1,.func (.func f) #[] caps.toArray)])
  (fun i=> [.byt gb 5 a.size cap ((((ap a).take i).map g++(ap a).drop i).map (Value.int .u8))]) (fun i=>i≤a.size) (fun i=>a.size - i) 0 (by omega) ?_ ?_ ?_
 ·
  exact sB
 ·
  rw [oo];simp only [Pj,Pe,NH,O4];exact mS
 ·
  intro i hi
  have hl:=av a
  by_cases hlt:i<a.size
  ·
   have hil:i<(ap a).length:=by omega
   have hok:=l8 a (ap a)[i] (OD hil)
   have hget:((((ap a).take i).map g++(ap a).drop i).map (Value.int .u8))[0+i*1]? =some (.int .u8 (ap a)[i]):=by
    rw [OU,show 0+i*1=i by omega,OC (by simp;omega)]
    simp [Ps (Nat.le_of_lt hil),O6]
   repeat' (first|(apply ak;exact rfl;apply aj;exact rfl;exact rfl;exact hlt)|(apply ak;exact rfl;apply jM;exact rfl;exact .hd;exact hget)|(apply bH;exact rfl;exact rfl;infer_instance;exact rfl;(intro w' hm;exact hf _ w' _ hok.1 hok.2 hm))|(apply lL;exact rfl;exact rfl;exact .hd;exact rfl;(simp;omega))|(apply ak;exact rfl;apply dw;exact rfl;exact rfl;(constructor<;>omega))|refine sT ?_|refine sM fun _=> ?_|(refine sC ?_ ?_<;>intro hb<;>try omega)|fail)
   refine ⟨i+1,by omega,by omega,?_,?_⟩
   ·
    exact sB
   ·
    rw [show 0+i*1=i by omega,tL g (Value.int .u8) (ap a) i hil]
    exact mS
  ·
   have e:i=a.size:=by omega
   subst e
   repeat' (first|refine sT ?_|refine sM fun _=> ?_|(refine sC ?_ ?_<;>intro hb<;>try omega)|fail)
   refine dF (.inl rfl) rfl rfl (.refl _) ⟨gb,cap,rfl,?_⟩
   rw [N9 (by omega),N0 (by omega),NM]
set_option maxRecDepth 10000 in
theorem FT (c:Int) (h0:0≤c) (h1:c<256) (ga gb:Nat) (w:World) (ha:Ro w ga 0 [.int .u8 97]) (hb' :Ro w gb 0 [.int .i64 (-32)]):ax Tryz.prog 310 [.int .u8 c,.pointer (some ⟨ga,0,none⟩),.pointer (some ⟨gb,0,none⟩)] w (.int .u8 (upC c)):=by
 refine aq Tryz.func310 rfl Tryz.ntmps310 rfl ?_
 have hwc:IntKind.i64.wrap c=c:=I64.wrap ⟨by omega,by omega⟩
 have h122:IntKind.u8.wrap (97+25)=122:=by decide
 repeat' (first|(apply ak;exact rfl;apply aH (off:=0);exact ha;exact rfl;exact rfl)|(apply ak;exact rfl;apply aH (off:=0);exact hb';exact rfl;exact rfl)|(apply ak;exact rfl;apply dR;exact rfl;exact rfl;exact h122)|(apply ak (d:=15);exact rfl;apply bI;exact rfl;exact hwc)|(apply ak (d:=17);exact rfl;apply dw;exact rfl;exact rfl;exact ⟨by omega,by omega⟩)|(apply ak (d:=18);exact rfl;apply bI (c:=c - 32);exact rfl;(rw [show c+ -32=c - 32 by omega];exact eM (by omega) (by omega)))|refine sT ?_|refine sM fun _=> ?_|(refine sC ?_ ?_<;>intro hb<;>try omega)|fail)
 all_goals ((refine rT1 ?_);unfold upC;first|rw [if_pos (by omega)]|rw [if_neg (by omega)])
def upB (a:ByteArray):ByteArray:=mkB ((ap a).map upC)
theorem p9 (a:ByteArray):ap (upB a)=(ap a).map upC:=by
 refine nA ?_
 intro c hc
 obtain ⟨d,hd,rfl⟩:=Pu.1 hc
 have:=l8 a d hd
 unfold upC
 split<;>omega
set_option maxRecDepth 10000 in
theorem IJ (a:ByteArray) (ha:a.size≤1000000) (w:World):ax Tryz.prog 277 [.string a,.int .u8 97,.int .i64 (-32)] w (.string (upB a)):=by
 refine aq Tryz.func277 rfl Tryz.ntmps277 rfl ?_
 repeat' (first|((with_reducible apply aG (R:=fun v H=> ∃ gb cap,v= .slice (some ⟨gb,0,none⟩) a.size cap∧H= [.byt gb 5 a.size cap (((ap a).map upC).map (Value.int .u8))]));exact rfl;exact rfl;(intro w' hm;exact Bi 310 [_,_] upC a ha w' (fun c w2 H2 h0 h1 hm2=>FT c h0 h1 _ _ w2 ((Ro.of_box hm pK).next hm2) ((Ro.of_box hm pK).next hm2)));(rintro v H' ⟨gb,cap,rfl,rfl⟩))|(apply ak;exact rfl;apply qF;exact rfl;exact .hd;simp [av])|refine sT ?_|refine sM fun _=> ?_|(refine sC ?_ ?_<;>intro hb<;>try omega)|fail)
 (refine rT1 ?_)
 rfl
set_option maxRecDepth 10000 in
theorem qu (a:ByteArray) (ha:a.size≤1000000) (w:World):ax Tryz.prog 240 [.string a] w (.string (upB a)):=by
 refine aq Tryz.func240 rfl Tryz.ntmps240 rfl ?_
 repeat' (first|(apply aa;exact rfl;exact rfl;(intro w hm;exact IJ a ha w))|refine sT ?_|refine sM fun _=> ?_|(refine sC ?_ ?_<;>intro hb<;>try omega)|fail)
 (refine rT1 ?_)
 rfl
def kK:List Int→Option (List Int)
 | []=>some []
 |c::r=>if c≠34 then (kK r).map (c:: ·) else match r with
  | []=>none
  |d::r' =>if d=34 then (kK r').map (34:: ·) else none
def fQ (l:List Int):List Int × Int:=
 if l.length<2∨l.head? ≠some 34∨l.getLast? ≠some 34∨l.all (fun c=>bq c)=false then ([],4)
 else match kK ((l.drop 1).dropLast) with
  |none=>([],4)
  |some r=>if 256<r.length then ([],5) else (r,0)
theorem mZ (a:ByteArray):m7 a=(ap a).all fun c=>bq c:=by
 simp only [m7,ap,List.all_map]
 congr 1
 funext c
 simp only [Function.comp,bq]
 rw [Om];simp;omega
theorem IU (a:ByteArray) (c:Int) (h:0<a.size):((ap a).getLast? =some c)↔bat a (a.size - 1)=c:=by
 rw [Qs,av,gj (by omega)]
 simp
theorem zb {a:ByteArray} {i:Nat} (h0:1≤i) (h:i<a.size - 1):(((ap a).drop 1).dropLast).drop (i - 1)=bat a i::(((ap a).drop 1).dropLast).drop i:=by
 have hl:=av a
 obtain ⟨j,rfl⟩: ∃ j,i=j+1:=⟨i - 1,by omega⟩
 rw [Pa]
 have hlen:(((ap a).drop 1).dropLast).length=a.size - 2:=by simp;omega
 have hlt:j<(((ap a).drop 1).dropLast).length:=by omega
 rw [NL hlt]
 congr 1
 have h1:=gj (a:=a) (i:=j+1) (by omega)
 have h2:(((ap a).drop 1).dropLast)[j]? =some (bat a (j+1)):=by
  rw [List.getElem?_dropLast,if_pos (by simp;omega),O6,PE 1 j,h1]
 rw [NE hlt] at h2
 exact Option.some.inj h2
theorem qJ {c:Int} {r:List Int} (h:c≠34):kK (c::r)=(kK r).map (c:: ·):=by
 rw [kK.eq_def];simp [h]
theorem DE (a:ByteArray) (ha:a.size≤1000000) (w:World):ax Tryz.prog 280 [.string a] w (.tuple #[.string (mkB (fQ (ap a)).1),.int .i64 (fQ (ap a)).2]):=by
 refine aq Tryz.func280 rfl Tryz.ntmps280 rfl ?_
 have hl:=av a
 have hp:=pY a ha
 rw [mZ] at hp
 have hh:=qc a 34
 have hg:=IU a 34
 by_cases hbad:(ap a).length<2∨(ap a).head? ≠some 34∨(ap a).getLast? ≠some 34∨(ap a).all (fun c=>bq c)=false
 ·
  rw [fQ,if_pos hbad]
  repeat' (first|(apply aa;exact rfl;exact rfl;(intro w hm;exact hp w))|refine sT ?_|refine sS ?_|refine sT2 ?_|refine sN ?_|refine sM fun _=> ?_|(refine sC ?_ ?_<;>intro hb<;>try omega)|fail)
  iterate 4 (focus ((refine rT2 ?_);rfl))
  exfalso
  rename_i h1 h2 h3
  rcases hbad with h|h|h|h
  ·
   omega
  ·
   exact h (hh.2 ⟨by omega,Decidable.not_not.1 h2⟩)
  ·
   exact h ((hg (by omega)).2 (Decidable.not_not.1 h3))
  ·
   rw [hb] at h;cases h
 ·
  have hun:fQ (ap a)=match kK (((ap a).drop 1).dropLast) with
    |none=>([],4)
    |some r=>if 256<r.length then ([],5) else (r,0):=by rw [fQ,if_neg hbad]
  rw [hun]
  simp only [not_or,Decidable.not_not,Bool.not_eq_false] at hbad
  obtain ⟨b1,b2,b3,b4⟩:=hbad
  have b5:=(hh.1 b2).2
  have b6:=(hg (by omega)).1 b3
  rw [b4] at hp
  have hn:(a.size:Int) - 1=((a.size - 1:Nat):Int):=by omega
  generalize hB:((ap a).drop 1).dropLast=B
  have hBl:B.length=a.size - 2:=by rw [← hB];simp;omega
  repeat' (first|(apply aa;exact rfl;exact rfl;(intro w hm;exact hp w))|refine sT ?_|refine sS ?_|refine sT2 ?_|refine sN ?_|refine sM fun _=> ?_|(refine sC ?_ ?_<;>intro hb<;>try omega)|fail)
  all_goals try (exfalso;omega)
  refine aP 5 1 ?_
  refine ay [0,4] rfl (fun x:Nat × List Int × Option Nat × Nat=> [(5,sl x.2.2.1 x.2.1.length x.2.2.2),(6,.int .i64 (x.1:Int))]) (fun x=> [.own x.2.2.1 5 1 x.2.1.length x.2.2.2 (x.2.1.map (Value.int .u8))]) (fun x=>1≤x.1∧x.1≤a.size - 1∧x.2.1.length≤x.1∧kK B=(kK (B.drop (x.1 - 1))).map (x.2.1++ ·)) (fun x=>a.size - x.1) (1,[],none,0) ⟨by omega,by omega,by simp,by simp⟩ sB mS ?_
  rintro ⟨i,out,A,cap⟩ ⟨i1,i2,i3,i4⟩
  dsimp only at i1 i2 i3 i4 ⊢
  by_cases hend:i=a.size - 1
  ·
   have hBd:B.drop (i - 1)= []:=N0 (by omega)
   rw [hBd] at i4
   simp only [kK,OM,NM] at i4
   rw [i4]
   dsimp only
   by_cases hlen:256<out.length
   ·
    rw [if_pos hlen]
    repeat' (first|refine sT ?_|refine sS ?_|refine sT2 ?_|refine sN ?_|refine sM fun _=> ?_|(refine sC ?_ ?_<;>intro hb<;>try omega)|fail)
    all_goals first|(exfalso;omega)|((refine rT2 ?_);rfl)
   ·
    rw [if_neg hlen]
    repeat' (first|(apply ak;exact rfl;apply BV;exact rfl;exact pK;exact rfl)|refine sT ?_|refine sS ?_|refine sT2 ?_|refine sN ?_|refine sM fun _=> ?_|(refine sC ?_ ?_<;>intro hb<;>try omega)|fail)
    all_goals first|(exfalso;omega)|((refine rT2 ?_);rfl)
  ·
   have hdr:=zb (a:=a) i1 (by omega)
   rw [hB] at hdr
   rw [hdr] at i4
   by_cases hq:bat a i=34
   ·
    rw [hq] at i4
    by_cases h1:i+1=a.size - 1
    ·
     have hBd:B.drop i= []:=N0 (by omega)
     rw [hBd] at i4
     simp only [kK,ne_eq,not_true_eq_false,if_false,QA] at i4
     rw [i4]
     repeat' (first|refine sT ?_|refine sS ?_|refine sT2 ?_|refine sN ?_|refine sM fun _=> ?_|(refine sC ?_ ?_<;>intro hb<;>try omega)|fail)
     all_goals first|(exfalso;omega)|((refine rT2 ?_);rfl)
    ·
     have hdr2:=zb (a:=a) (i:=i+1) (by omega) (by omega)
     rw [hB,Pa] at hdr2
     rw [hdr2] at i4
     by_cases h2:bat a (i+1)=34
     ·
      simp only [kK,ne_eq,not_true_eq_false,if_false,h2,if_true,Qf] at i4
      repeat' (first|(apply aN;(iterate 3 exact rfl);exact pK;exact pK;exact rfl;(simp [Value.oneCell']);omega;(simp only [maxLen];omega);intro g8 c8)|(apply ak (d:=63);exact rfl;apply dE (b:=2);exact rfl;exact rfl;(simp only [maxLen];omega))|refine sT ?_|refine sS ?_|refine sT2 ?_|refine sN ?_|refine sM fun _=> ?_|(refine sC ?_ ?_<;>intro hb<;>try omega)|fail)
      all_goals try (exfalso;omega)
      refine ⟨(i+2,out++ [34],some g8,c8),⟨by dsimp only;omega,by dsimp only;omega,by simp;omega,?_⟩,(by dsimp only;omega),?_,sB,?_⟩
      ·
       dsimp only
       rw [i4,show i+2 - 1=i+1 by omega]
       congr 1
       funext l
       simp
      ·
       simp only [ND,NG]
       exact sB
      ·
       simp only [ND,NG,Pb,Ow,Pe]
       exact mS
     ·
      simp only [kK,ne_eq,not_true_eq_false,if_false,h2,QA] at i4
      rw [i4]
      repeat' (first|refine sT ?_|refine sS ?_|refine sT2 ?_|refine sN ?_|refine sM fun _=> ?_|(refine sC ?_ ?_<;>intro hb<;>try omega)|fail)
      all_goals first|(exfalso;omega)|((refine rT2 ?_);rfl)
   ·
    rw [qJ hq,Qf] at i4
    repeat' (first|(apply aN;(iterate 3 exact rfl);exact pK;exact pK;exact rfl;(simp [Value.oneCell']);omega;(simp only [maxLen];omega);intro g8 c8)|refine sT ?_|refine sS ?_|refine sT2 ?_|refine sN ?_|refine sM fun _=> ?_|(refine sC ?_ ?_<;>intro hb<;>try omega)|fail)
    all_goals try (exfalso;omega)
    refine ⟨(i+1,out++ [bat a i],some g8,c8),⟨by dsimp only;omega,by dsimp only;omega,by simp;omega,?_⟩,(by dsimp only;omega),?_,sB,?_⟩
    ·
     dsimp only
     rw [i4,show i+1 - 1=i by omega]
     congr 1
     funext l
     simp
    ·
     simp only [ND,NG]
     exact sB
    ·
     simp only [ND,NG,Pb,Ow,Pe]
     exact mS
def cB:List ByteArray:= [⟨#[]⟩,⟨#[35,68,73,86,47,48,33]⟩,⟨#[35,86,65,76,85,69,33]⟩,⟨#[35,78,85,77,33]⟩,⟨#[35,78,47,65]⟩,⟨#[35,82,69,70,33]⟩,⟨#[35,67,89,67,76,69,33]⟩,⟨#[35,68,69,78,73,69,68]⟩]
def Words (w:World):Prop:=Ro w 0 0 (cB.map Value.string)
theorem Words.next {w0 w:World} {H:List Blk} (h:Words w0) (hm:Mem w0 w H):Words w:=Ro.next h hm
def fW (c:Int):Vl:=⟨4,if c<1∨7<c then 2 else c,au⟩
def uA (n:Int):Vl:=if n= -9223372036854775808 then fW 3 else ⟨1,n,au⟩
def lR (b:Bool):Vl:=⟨2,if b then 1 else 0,au⟩
def mO:ByteArray:=⟨#[84,82,85,69]⟩
def kS:ByteArray:=⟨#[70,65,76,83,69]⟩
def x9 (a:ByteArray):Vl:=if upB a=mO then lR true else if upB a=kS then lR false else fW 2
theorem mq (c:Int) (w:World):ax Tryz.prog 199 [.int .i64 c] w (.agg (dx (fW c)).toArray):=by
 refine aq Tryz.func199 rfl Tryz.ntmps199 rfl ?_
 repeat' (first|refine sT ?_|refine sM fun _=> ?_|(refine sC ?_ ?_<;>intro hb<;>try omega)|exact cT|fail)
 all_goals ((refine eRC ?_);simp only [fW];(first|rw [if_pos (by omega)]|rw [if_neg (by omega)]);rfl)
theorem Ln (n:Int) (w:World):ax Tryz.prog 202 [.int .i64 n] w (.agg (dx (uA n)).toArray):=by
 refine aq Tryz.func202 rfl Tryz.ntmps202 rfl ?_
 repeat' (first|(apply aa;exact rfl;exact rfl;(intro w hm;exact mq 3 w))|refine sT ?_|refine sM fun _=> ?_|(refine sC ?_ ?_<;>intro hb<;>try omega)|exact cT|fail)
 all_goals ((refine eRC ?_);simp_all [uA,dx,fW,au])
theorem JS (b:Bool) (w:World):ax Tryz.prog 276 [.bool b] w (.agg (dx (lR b)).toArray):=by
 refine aq Tryz.func276 rfl Tryz.ntmps276 rfl ?_
 repeat' (first|refine sT ?_|refine sM fun _=> ?_|(refine sC ?_ ?_<;>intro hb<;>try omega)|exact cT|fail)
 all_goals ((refine eRC ?_);simp_all [lR,dx,au])
theorem II (v:Vl) (ha:v.text.size≤1000000) (w:World):ax Tryz.prog 239 [.agg (dx v).toArray] w (.agg (dx (x9 v.text)).toArray):=by
 refine aq Tryz.func239 rfl Tryz.ntmps239 rfl ?_
 repeat' (first|(apply aa;exact rfl;exact rfl;(intro w hm;exact qu v.text ha w))|(apply aa;exact rfl;exact rfl;(intro w hm;exact JS _ w))|(apply aa;exact rfl;exact rfl;(intro w hm;exact mq 2 w))|refine sT ?_|refine sM fun _=> ?_|(refine sC ?_ ?_<;>intro hb<;>try omega)|exact cT|fail)
 all_goals ((refine eRC ?_);simp_all [x9,mO,kS];rfl)
theorem Lj (c:Int) (h1:1≤c) (h2:c≤5) (w:World) (hw:Words w):ax Tryz.prog 286 [.agg (dx ⟨4,c,au⟩).toArray] w (.string (cB.getD c.toNat au)):=by
 refine aq Tryz.func286 rfl Tryz.ntmps286 rfl ?_
 have he:eqV ⟨4,c,au⟩ (fW 7)=false:=by simp [eqV,fW];omega
 have hv:oZ ⟨4,c,au⟩=0:=by
  have h6:decide (c≤6)=true:=decide_eq_true (by omega)
  simp [oZ,tA,h1,h6]
 have hc:=BS ⟨4,c,au⟩
 rw [hv] at hc
 obtain ⟨k,rfl⟩: ∃ k:Nat,c=(k:Int):=⟨c.toNat,by omega⟩
 have hcell:(cB.map Value.string)[k*1]? =some (.string (cB.getD k au)):=by
  rcases (by omega:k=1∨k=2∨k=3∨k=4∨k=5) with rfl|rfl|rfl|rfl|rfl<;>rfl
 repeat' (first|(apply dO;exact rfl;exact rfl;(intro w hm;exact mq 7 w))|(apply dO;exact rfl;exact rfl;(intro w hm;exact hc w))|(apply aK;exact rfl;exact he ▸ B6 (b:=fW 7) rfl rfl)|(apply ak;exact rfl;apply tG (j:=k);exact rfl;exact rfl;omega)|(apply ak;exact rfl;apply aH (o:=0);exact hw;exact rfl;exact hcell)|refine sT ?_|refine sQ ?_|refine sD ?_|refine sM fun _=> ?_|(refine sC ?_ ?_<;>intro hb<;>try omega)|(refine sCQ ?_ ?_<;>intro hb<;>try omega)|exact cT|fail)
 (refine rT1 ?_)
 rfl
instance:KLaw Tryz.prog 5 (fun z:Int=>Value.int .u8 z):=IZ
theorem xp {P:Program} {n:Fr} {w0:World} {Q:bO} {s:az} {H:List Blk} {rest:List Oper} {ty:TypeId} {p:String} {af:Array Edge} {κ:Type} [DecidableEq κ] {enc:κ→Value} {t K E g clock:Nat} {m x kx:Operand} {k:κ} {v:Value} {es:List (κ × Value × Nat)} {es' :List (κ × Value × Nat)} {c' :Nat} {R:List Blk} {ops:Array Oper} [ht:Und P t (.map K E)] [hk:KLaw P K enc] (hm:ev s m=some (.map (some g))) (hkx:ev s kx=some (enc k)) (hx:ev s x=some v) (hsel:Sel (.obj g (oz enc es clock)) H R)
  (he:ye k v clock es=(es',c')) (h:WL P n w0 ops rest Q s (.obj g (oz enc es' c')::R)):WL P n w0 ops (⟨none,.insert t m kx x,ty,p,af,none⟩::rest) Q s H:=by
 refine E5 hm hkx hx hsel ?_
 rw [he];exact h
theorem IX {κ:Type} [DecidableEq κ] {k:κ} {v:Value} {clock:Nat} {es:List (κ × Value × Nat)} (h:mB k es 0=none):ye k v clock es=(es++ [(k,v,clock)],clock+1):=by
 simp [ye,h]
def EV (v:Vl):List (Int × Value × Nat):=
 [(0,.func (.func 237) #[.agg (dx v).toArray] #[],0),(1,.func (.func 237) #[.agg (dx v).toArray] #[],1),(2,.func (.func 238) #[.agg (dx v).toArray] #[],2),(3,.func (.func 239) #[.agg (dx v).toArray] #[],3),(4,.func (.func 238) #[.agg (dx v).toArray] #[],4)]
theorem Cm (v:Vl) (w:World):aQ Tryz.prog 236 [.agg (dx v).toArray] w fun u H=> ∃ g,u= .map (some g)∧H= [.obj g (oz (fun z:Int=>Value.int .u8 z) (EV v) 5)]:=by
 refine aq Tryz.func236 rfl Tryz.ntmps236 rfl ?_
 repeat' (first|(apply BO (enc:=fun z:Int=>Value.int .u8 z);exact rfl;intro g)|(apply ak;exact rfl;apply lQ;exact rfl)|(apply xp (enc:=fun z:Int=>Value.int .u8 z);(iterate 3 exact rfl);exact pK;exact IX rfl)|refine sT ?_|refine sM fun _=> ?_|(refine sC ?_ ?_<;>intro hb<;>try omega)|exact cT|fail)
 exact dF (H' := [.obj g (oz (fun z:Int=>Value.int .u8 z) (EV v) 5)]) (.inl rfl) rfl rfl (.pick .hd (.nil _)) ⟨g,rfl,rfl⟩
def iE (v:Vl):Vl:=if oZ v=0 then x9 v.text else fW 2
set_option maxHeartbeats 1000000 in
theorem Be (v:Vl) (hk:v.kind=3) (ha:v.text.size≤1000000) (w:World):ax Tryz.prog 235 [.agg (dx v).toArray,.func (.func 236) #[] #[]] w (.agg (dx (iE v)).toArray):=by
 refine aq Tryz.func235 rfl Tryz.ntmps235 rfl ?_
 obtain ⟨k,num,text⟩:=v
 dsimp only at hk ha
 subst hk
 have hv:=BS ⟨3,num,text⟩
 have hn:=II ⟨3,num,text⟩ ha
 repeat' (first|refine sT ?_|refine sM fun _=> ?_|(refine sC ?_ ?_<;>intro hb<;>try omega)|exact cT|fail)
 rename_i g2 g4
 refine tu (id:=1) (ι:=Unit) (fun _=> [(5,.func (.func 239) #[.agg (dx ⟨3,num,text⟩).toArray] #[]),(6,.bool true),(2,.pointer (some ⟨g2,0,none⟩)),(4,.pointer (some ⟨g4,0,none⟩))]) (fun _=> [.box g2 172 (dx ⟨3,num,text⟩),.box g4 172 (dx bK)]) (fun _=>True) ?_ ?_
 ·
  refine jp 11 rfl (by kernel_rfl) ?_
  ((with_reducible apply aO (i:=0));exact rfl;exact rfl;decide+kernel;decide+kernel;decide+kernel;exact nP;(intro _ _;exact vP))
  ((with_reducible apply aO (i:=3));exact rfl;exact rfl;decide+kernel;decide+kernel;decide+kernel;exact nP;(intro _ _;exact vP))
  repeat' (first|(apply cP (i:=1) (j:=4);exact rfl;exact rfl;decide+kernel)|(apply cP (i:=2) (j:=4);exact rfl;exact rfl;decide+kernel)|(apply aD (i:=1);exact rfl;decide+kernel)|(apply aD (i:=2);exact rfl;decide+kernel)|(apply aD (i:=4);exact rfl;decide+kernel)|(apply aD (i:=5);exact rfl;decide+kernel)|(apply aO (i:=6);exact rfl;exact rfl;decide+kernel;decide+kernel;decide+kernel;exact nP;(intro _ _;exact vP))|(apply aO (i:=7);exact rfl;exact rfl;decide+kernel;decide+kernel;decide+kernel;exact nP;(intro _ _;exact vP))|(apply aO (i:=8);exact rfl;exact rfl;decide+kernel;decide+kernel;decide+kernel;exact nP;(intro _ _;exact vP))|(apply aO (i:=9);exact rfl;exact rfl;decide+kernel;decide+kernel;decide+kernel;exact nP;(intro _ _;exact vP))|(apply aO (i:=10);exact rfl;exact rfl;decide+kernel;decide+kernel;decide+kernel;exact nP;(intro _ _;exact vP))|(apply jo;decide+kernel)|(apply lc;exact rfl;exact rfl;infer_instance;exact rfl;exact FnIn.of_at (fun w' _=>Cm ⟨3,num,text⟩ w');(rintro _ _ ⟨H1,⟨g5,rfl,rfl⟩,rfl⟩))|(apply ak;exact rfl;apply BZ (enc:=fun z:Int=>Value.int .u8 z);exact rfl;exact rfl;exact pK;exact rfl)|refine sT ?_|refine sM fun _=> ?_|(refine sC ?_ ?_<;>intro hb<;>try omega)|exact cT|fail)
  all_goals ((apply bf;rotate_left 1;exact sB;exact mS);trivial)
 ·
  rintro _ -
  simp only [iE]
  generalize oZ ⟨3,num,text⟩=e at hv
  repeat' (first|(apply aa;exact rfl;exact rfl;(intro w hm;exact hv w))|(apply aa;exact rfl;exact rfl;(intro w hm;exact mq 2 w))|(apply qB;exact rfl;exact rfl;infer_instance;exact rfl;(intro w' _;exact hn w'))|refine sT ?_|refine sM fun _=> ?_|(refine sC ?_ ?_<;>intro hb<;>try omega)|exact cT|fail)
  all_goals
   (refine eRC ?_)
   simp_all
   rfl
theorem GA (v:Vl) (hk:v.kind=3) (ha:v.text.size≤1000000) (w:World):ax Tryz.prog 196 [.agg (dx v).toArray] w (.agg (dx (iE v)).toArray):=by
 refine aq Tryz.func196 rfl Tryz.ntmps196 rfl ?_
 repeat' (first|(apply aa;exact rfl;exact rfl;(intro w hm;exact Be v hk ha w))|refine sT ?_|refine sM fun _=> ?_|(refine sC ?_ ?_<;>intro hb<;>try omega)|exact cT|fail)
 (refine eRC ?_)
 rfl
def i9 (u:ByteArray):List ByteArray→Int→Int × Int
 | [],_=>(0,4)
 |x::r,i=>if x=u then (i,0) else i9 u r (i+1)
def gZ (a:ByteArray):Int × Int:=i9 (upB a) (cB.drop 1) 1
theorem BL {i:Nat} (h:i<8):(cB.map Value.string)[i]? =some (.string (cB.getD i au)):=by
 rcases (by omega:i=0∨i=1∨i=2∨i=3∨i=4∨i=5∨i=6∨i=7) with rfl|rfl|rfl|rfl|rfl|rfl|rfl|rfl<;>rfl
theorem ra {i:Nat} (h:i<8):cB.drop i=cB.getD i au::cB.drop (i+1):=by
 rcases (by omega:i=0∨i=1∨i=2∨i=3∨i=4∨i=5∨i=6∨i=7) with rfl|rfl|rfl|rfl|rfl|rfl|rfl|rfl<;>rfl
theorem Ls (a:ByteArray) (ha:a.size≤1000000) (w:World) (hw:Words w):ax Tryz.prog 198 [.string a] w (.tuple #[.int .i64 (gZ a).1,.int .i64 (gZ a).2]):=by
 refine aq Tryz.func198 rfl Tryz.ntmps198 rfl ?_
 have hload:(((cB.map Value.string).drop 0).take 8)=cB.map Value.string:=rfl
 have hU:=qu a ha
 generalize hu:upB a=u at hU
 repeat' (first|(apply aa;exact rfl;exact rfl;(intro w hm;exact hU w))|(apply ak;exact rfl;apply eX (o:=0) (off:=0);exact hw;exact rfl;exact hload;exact rfl)|refine sT ?_|refine sT2 ?_|refine sM fun _=> ?_|(refine sC ?_ ?_<;>intro hb<;>try omega)|exact cT|fail)
 refine ay [0,8] rfl (fun i:Nat=> [(9,.int .i64 (i:Int))]) (fun _=> []) (fun i=>i≤8∧gZ a=i9 u (cB.drop (max i 1)) (max i 1:Nat)) (fun i=>8 - i) 0 ⟨by omega,by rw [gZ,hu];rfl⟩ sB mS ?_
 rintro i ⟨hi,hr⟩
 by_cases hlt:i<8
 ·
  have hx:=BL hlt
  have hd:=ra hlt
  generalize cB.getD i au=x at hx hd
  repeat' (first|(apply ak;exact rfl;apply mK;exact rfl;exact rfl;exact hlt;exact hx)|refine sT ?_|refine sT2 ?_|refine sN ?_|refine sM fun _=> ?_|(refine sC ?_ ?_<;>intro hb<;>try omega)|exact cT|fail)
  ·
   rename_i h0
   rw [show max i 1=i by omega,hd,i9,if_pos hb] at hr
   rw [hr]
   (refine rT2 ?_)
   rfl
  ·
   rename_i h0
   rw [show max i 1=i by omega,hd,i9,if_neg hb] at hr
   refine ⟨i+1,?_,(by first|omega|(dsimp only;omega)),sB,sB,mS⟩
   refine ⟨hlt,?_⟩
   rw [hr,show max (i+1) 1=i+1 by omega]
   rfl
  ·
   have h0:i=0:=by omega
   subst h0
   refine ⟨0+1,?_,(by first|omega|(dsimp only;omega)),sB,sB,mS⟩
   exact ⟨by omega,hr⟩
 ·
  have e:i=8:=by omega
  subst e
  rw [hr]
  repeat' (first|refine sT ?_|refine sT2 ?_|refine sM fun _=> ?_|(refine sC ?_ ?_<;>intro hb<;>try omega)|exact cT|fail)
  all_goals first|(exfalso;omega)|((refine rT2 ?_);rfl)
end Go.SL
