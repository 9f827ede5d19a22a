/-
  Lemmas and walks, put together: W27 A2 A3 A4 B1 W28 W29 W30 W32.
-/
import Derived.Test.YthefeclkaaocnaaGreatDoorKl11
set_option linter.unusedSimpArgs false
set_option linter.unusedVariables false
set_option maxRecDepth 20000
namespace Go.SL
open Go Go.Proofs
attribute [local irreducible] W WL WQ WG WA VOp thn blk bS bq aS FnIn
def Iz (n:Nd):Bool:=decide (n.kind=2)||decide (n.kind=3)
theorem GA (r:Rct):(bO r).length=4:=rfl
theorem Kt (L:List Rct) (lv:Value) (w:World) (hl:Reads w lv L.length (L.flatMap bO)):ay Tryz.prog 163 [lv] w (.bool (L.all bi)):=by
 obtain ⟨Al,cl,rfl,hl1,hl2,hl3⟩:=hl
 refine aq Tryz.func163 rfl Tryz.ntmps163 rfl ?_
 repeat' (first|refine sT ?_|refine sM fun _=> ?_|(refine sC ?_ ?_<;>intro hb<;>try omega)|fail)
 refine eM (fun i:Nat=> [(5,.slice Al L.length cl),(6,.int .i64 (L.length:Int)),(7,.int .i64 (i:Int))]) (fun _=> []) (fun i=>i≤L.length∧L.all bi=(L.drop i).all bi) (fun i=>L.length - i) 0 ⟨by omega,rfl⟩ ?_ ?_ ?_
 ·
  exact sB
 ·
  exact mS
 ·
  rintro i ⟨hi,hrec⟩
  by_cases hlt:i<L.length
  ·
   obtain ⟨gl,ol,rfl,hrl⟩:=hl3 (by omega)
   have he1:=hrl.elem GA i hlt
   rw [LJ hlt,NA] at hrec
   generalize L[i]=r at hrec he1
   repeat' (first|(apply aa;exact rfl;exact rfl;(intro w hm;exact fS r w))|refine sT ?_|refine sN ?_|refine sO ?_|refine sM fun _=> ?_|(refine sC ?_ ?_<;>intro hb<;>try omega)|fail)
   ·
    (refine rT1 ?_)
    rw [hrec]
    cases hq:bi r<;>simp [dS,hq] at hb ⊢
   ·
    refine ⟨i+1,⟨by omega,?_⟩,by omega,?_,?_⟩
    ·
     rw [hrec]
     cases hq:bi r<;>simp [dS,hq] at hb ⊢
    ·
     exact sB
    ·
     exact mS
  ·
   have e:i=L.length:=by omega
   subst e
   repeat' (first|refine sT ?_|refine sM fun _=> ?_|(refine sC ?_ ?_<;>intro hb<;>try omega)|fail)
   (refine rT1 ?_)
   rw [hrec,LU]
   rfl
def yu (a b:Rct):Rct:=⟨if a.c1<b.c1 then b.c1 else a.c1,if a.r1<b.r1 then b.r1 else a.r1,if b.c2<a.c2 then b.c2 else a.c2,if b.r2<a.r2 then b.r2 else a.r2⟩
def dV (a b:Rct):Rct × Bool:=if [a,b,yu a b].all bi=true then (yu a b,true) else (aL,false)
theorem CY (a b:Rct) (w:World):ay Tryz.prog 130 [.agg (bO a).toArray,.agg (bO b).toArray] w (.tuple #[.agg (bO (dV a b).1).toArray,.bool (dV a b).2]):=by
 refine aq Tryz.func130 rfl Tryz.ntmps130 rfl ?_
 have hall:=fun (lv:Value) (w:World)=>Kt [a,b,yu a b] lv w
 unfold dV
 generalize [a,b,yu a b].all bi=q at hall
 repeat' (first|(apply aa;exact rfl;exact rfl;(intro w hm;exact hall _ w (Reads.of_row hm pK)))|refine sT ?_|refine sM fun _=> ?_|(refine sC ?_ ?_<;>intro hb<;>try omega)|fail)
 ·
  refine CC (.inl rfl) Tryz.results130 rfl pK rfl rfl (MSub.nil _) ?_
  simp [hb,aL,bO]
 ·
  refine CC (.inl rfl) Tryz.results130 rfl pK rfl rfl (MSub.nil _) ?_
  simp [hb,yu,bO]
structure Pc where
 m0:Int
 m1:Int
 v0:Int
 v1:Int
 ok:Bool
def uS (p:Pc):List Value:= [.int .i64 p.m0,.int .i64 p.m1,.int .i64 p.v0,.int .i64 p.v1,.bool p.ok]
def je (p:Pc) (c:Int):Pc:=⟨p.m0+1,p.m1,min (26*p.v0+(c - 65)+1) 1025,p.v1,p.ok && decide (p.m1=0)⟩
def fg (p:Pc) (c:Int):Pc:=⟨p.m0,p.m1+1,p.v0,min (10*p.v1+(c - 48)) 1025,p.ok && (decide (c≠48)||decide (0<p.m1))⟩
structure Pc.Fit (p:Pc) (n:Int):Prop where
 m0:0≤p.m0∧p.m0≤n
 m1:0≤p.m1∧p.m1≤n
 v0:0≤p.v0∧p.v0≤1025
 v1:0≤p.v1∧p.v1≤1025
theorem wj (a b:Int):(if b<a then b else a)=min a b:=by omega
theorem EA (p:Pc) (c:Int) (n:Int) (hf:p.Fit n) (hn:n≤1000000) (h1:65≤c) (h2:c≤90) (g:Nat) (R:List Blk) (w0:World):
  FnIn Tryz.prog 331 [.pointer (some ⟨g,0,none⟩),.int .u8 c,.bool true] w0 (.box g 398 (uS p)::R) fun v H=>v= .tuple #[]∧H= .box g 398 (uS (je p c))::R:=by
 refine dM Tryz.func331 rfl Tryz.ntmps331 rfl ?_
 obtain ⟨a1,a2⟩:=hf.m0
 obtain ⟨a3,a4⟩:=hf.m1
 obtain ⟨a5,a6⟩:=hf.v0
 obtain ⟨a7,a8⟩:=hf.v1
 have hwc:IntKind.u8.wrap (c - 65)=c - 65:=dQ (by omega) (by omega)
 have hwc2:IntKind.i64.wrap (c - 65)=c - 65:=I64.wrap ⟨by omega,by omega⟩
 repeat' (first|(refine qD (id:=1) (ι:=Bool) (fun _=> [(0,.pointer (some ⟨g,0,none⟩)),(1,.int .u8 c)]) (fun b=> .box g 398 [.int .i64 p.m0,.int .i64 p.m1,.int .i64 p.v0,.int .i64 p.v1,.bool b]::R) (fun b=>b=(p.ok && decide (p.m1=0))) ?_ ?_)|refine sT ?_|refine sT2 ?_|refine sG2 ?_|refine sJ ?_|refine sJG ?_|refine sG ?_|refine sM fun _=> ?_|(refine sC ?_ ?_<;>intro hb<;>try omega)|exact cT|fail)
 ·
  (apply cu;rotate_left 1;exact sB;exact mS)
  rw [hb];rfl
 ·
  (apply cu;rotate_left 1;exact sB;exact mS)
  rw [hb];rfl
 rintro _ rfl
 repeat' (first|(refine lK (id:=2) 9 (.box g 398 [.int .i64 (p.m0+1),.int .i64 p.m1,.int .i64 p.v0,.int .i64 p.v1,.bool (p.ok && decide (p.m1=0))]::R) (by kernel_rfl) (by kernel_rfl) rfl ?_)|(refine lK (id:=3) 16 (.box g 398 [.int .i64 (p.m0+1),.int .i64 p.m1,.int .i64 (min (26*p.v0+(c - 65)+1) 1025),.int .i64 p.v1,.bool (p.ok && decide (p.m1=0))]::R) (by kernel_rfl) (by kernel_rfl) rfl ?_)|(apply w5 (f:=60);exact rfl;decide+kernel;exact rfl;apply df;exact rfl;exact rfl;exact hwc)|(apply w5 (f:=60);exact rfl;decide+kernel;exact rfl;apply bJ;exact rfl;exact hwc2)|(apply pq;exact rfl;exact rfl;exact .hd;exact rfl;exact rfl;(try rw [wj]);exact .refl _)|refine sT ?_|refine sT2 ?_|refine sG2 ?_|refine sJ ?_|refine sJG ?_|refine sG ?_|refine sM fun _=> ?_|(refine sC ?_ ?_<;>intro hb<;>try omega)|exact cT|fail)
 exact gX (.inl rfl) rfl (.refl _) ⟨rfl,rfl⟩
theorem EB (p:Pc) (c:Int) (n:Int) (hf:p.Fit n) (hn:n≤1000000) (h1:48≤c) (h2:c≤57) (g:Nat) (R:List Blk) (w0:World):
  FnIn Tryz.prog 331 [.pointer (some ⟨g,0,none⟩),.int .u8 c,.bool false] w0 (.box g 398 (uS p)::R) fun v H=>v= .tuple #[]∧H= .box g 398 (uS (fg p c))::R:=by
 refine dM Tryz.func331 rfl Tryz.ntmps331 rfl ?_
 obtain ⟨a1,a2⟩:=hf.m0
 obtain ⟨a3,a4⟩:=hf.m1
 obtain ⟨a5,a6⟩:=hf.v0
 obtain ⟨a7,a8⟩:=hf.v1
 have hwc:IntKind.u8.wrap (c - 48)=c - 48:=dQ (by omega) (by omega)
 have hwc2:IntKind.i64.wrap (c - 48)=c - 48:=I64.wrap ⟨by omega,by omega⟩
 repeat' (first|(refine qD (id:=4) (ι:=Bool) (fun _=> [(0,.pointer (some ⟨g,0,none⟩)),(1,.int .u8 c)]) (fun b=> .box g 398 [.int .i64 p.m0,.int .i64 p.m1,.int .i64 p.v0,.int .i64 p.v1,.bool b]::R) (fun b=>b=(p.ok && (decide (c≠48)||decide (0<p.m1)))) ?_ ?_)|refine sT ?_|refine sT2 ?_|refine sG2 ?_|refine sJ ?_|refine sJG ?_|refine sG ?_|refine sM fun _=> ?_|(refine sC ?_ ?_<;>intro hb<;>try omega)|exact cT|fail)
 ·
  (apply cu;rotate_left 1;exact sB;exact mS)
  rename_i h3
  rw [h3,decide_eq_true hb];rfl
 ·
  (apply cu;rotate_left 1;exact sB;exact mS)
  rename_i h3
  rw [h3,decide_eq_false hb];rfl
 ·
  (apply cu;rotate_left 1;exact sB;exact mS)
  rw [hb];rfl
 rintro _ rfl
 repeat' (first|(refine lK (id:=5) 9 (.box g 398 [.int .i64 p.m0,.int .i64 (p.m1+1),.int .i64 p.v0,.int .i64 p.v1,.bool (p.ok && (decide (c≠48)||decide (0<p.m1)))]::R) (by kernel_rfl) (by kernel_rfl) rfl ?_)|(refine lK (id:=6) 15 (.box g 398 [.int .i64 p.m0,.int .i64 (p.m1+1),.int .i64 p.v0,.int .i64 (min (10*p.v1+(c - 48)) 1025),.bool (p.ok && (decide (c≠48)||decide (0<p.m1)))]::R) (by kernel_rfl) (by kernel_rfl) rfl ?_)|(apply w5 (f:=60);exact rfl;decide+kernel;exact rfl;apply df;exact rfl;exact rfl;exact hwc)|(apply w5 (f:=60);exact rfl;decide+kernel;exact rfl;apply bJ;exact rfl;exact hwc2)|(apply pq;exact rfl;exact rfl;exact .hd;exact rfl;exact rfl;(try rw [wj]);exact .refl _)|refine sT ?_|refine sT2 ?_|refine sG2 ?_|refine sJ ?_|refine sJG ?_|refine sG ?_|refine sM fun _=> ?_|(refine sC ?_ ?_<;>intro hb<;>try omega)|exact cT|fail)
 exact gX (.inr rfl) rfl (.refl _) ⟨rfl,rfl⟩
def bP (p:Pc) (c:Int):Pc:=if 65≤upC c∧upC c≤90 then je p (upC c) else if 48≤c∧c≤57 then fg p c else ⟨p.m0,p.m1,p.v0,p.v1,false⟩
def pc0:Pc:=⟨0,0,0,0,true⟩
theorem AW {p:Pc} {c:Int} (h1:97≤c) (h2:c≤122):bP p c=je p (c - 32):=by
 have e:upC c=c - 32:=by rw [upC,if_pos ⟨h1,h2⟩]
 rw [bP,e,if_pos (by omega)]
theorem DP {p:Pc} {c:Int} (h1:65≤c) (h2:c≤90):bP p c=je p c:=by
 have e:upC c=c:=by rw [upC,if_neg (by omega)]
 rw [bP,e,if_pos (by omega)]
theorem Ct {c:Int} (h: ¬ (97≤c∧c≤122)):upC c=c:=by rw [upC,if_neg h]
theorem ry {p:Pc} {c:Int} (h1:48≤c) (h2:c≤57):bP p c=fg p c:=by
 rw [bP,Ct (by omega),if_neg (by omega),if_pos ⟨h1,h2⟩]
theorem uB {p:Pc} {c:Int} (h: ¬ (97≤c∧c≤122)) (h2: ¬ (65≤c∧c≤90)) (h3: ¬ (48≤c∧c≤57)):bP p c=⟨p.m0,p.m1,p.v0,p.v1,false⟩:=by
 rw [bP,Ct h,if_neg h2,if_neg h3]
theorem AX {p:Pc} {n:Int} (h:p.Fit n) (c:Int):(bP p c).Fit (n+1):=by
 obtain ⟨⟨a1,a2⟩,⟨a3,a4⟩,⟨a5,a6⟩,⟨a7,a8⟩⟩:=h
 unfold bP
 split
 ·
  exact ⟨⟨by simp only [je];omega,by simp only [je];omega⟩,⟨a3,by simp only [je];omega⟩,⟨by simp only [je];omega,by simp only [je];omega⟩,⟨a7,a8⟩⟩
 ·
  split
  ·
   exact ⟨⟨a1,by simp only [fg];omega⟩,⟨by simp only [fg];omega,by simp only [fg];omega⟩,⟨a5,a6⟩,⟨by simp only [fg];omega,by simp only [fg];omega⟩⟩
  ·
   exact ⟨⟨a1,by dsimp only;omega⟩,⟨a3,by dsimp only;omega⟩,⟨a5,a6⟩,⟨a7,a8⟩⟩
def pX (l:List Int):Pc:=l.foldl bP pc0
theorem zw (a:ByteArray) (ha:a.size≤100000) (w:World):ay Tryz.prog 313 [.string a] w (.agg (uS (pX (ap a))).toArray):=by
 refine aq Tryz.func313 rfl Tryz.ntmps313 rfl ?_
 have hl:=au a
 repeat' (first|refine sT ?_|refine sT2 ?_|refine sM fun _=> ?_|(refine sC ?_ ?_<;>intro hb<;>try omega)|exact cT|fail)
 rename_i g2 g3
 refine ax [0,2,3,9] rfl (fun x:Nat × Pc=> [(10,.int .i64 (x.1:Int))]) (fun x=> [.box g3 398 (uS x.2),.box g2 398 [.int .i64 0,.int .i64 0,.int .i64 0,.int .i64 0,.bool false]]) (fun x=>x.1≤a.size∧x.2.Fit x.1∧pX (ap a)=((ap a).drop x.1).foldl bP x.2) (fun x=>a.size - x.1) (0,pc0) ⟨LS _,⟨⟨by decide,by decide⟩,⟨by decide,by decide⟩,⟨by decide,by decide⟩,⟨by decide,by decide⟩⟩,rfl⟩ sB mS ?_
 rintro ⟨i,p⟩ ⟨hi,hf,hr⟩
 dsimp only at hi hf hr ⊢
 by_cases hlt:i<a.size
 ·
  rw [ba hlt,Ns] at hr
  have hc:=pd a i
  generalize hcd:bat a i=c at hr hc
  have hf2:=AX hf c
  repeat' (first|(apply ak (d:=15);exact rfl;exact hcd ▸ aU rfl rfl hlt)|(apply ak (d:=38);exact rfl;apply df;exact rfl;exact rfl;exact dQ (by omega) (by omega))|(apply aw (d:=41);exact rfl;exact rfl;(first|exact FnIn.msub (EA p _ _ hf (by omega) (by omega) (by omega) _ _ _) (.pick pK (.refl _))|exact FnIn.msub (EB p _ _ hf (by omega) (by omega) (by omega) _ _ _) (.pick pK (.refl _)));rintro _ _ ⟨rfl,rfl⟩)|refine sT ?_|refine sT2 ?_|refine sN ?_|refine sM fun _=> ?_|(refine sC ?_ ?_<;>intro hb<;>try omega)|exact cT|fail)
  all_goals
   refine ⟨(i+1,bP p c),⟨hlt,by have:=hf2;simpa using this,hr⟩,(by dsimp only;omega),sB,sB,?_⟩
   dsimp only
   first
   |(rw [AW (by omega) (by omega)];exact mS;done)
   |(rw [DP (by omega) (by omega)];exact mS;done)
   |(rw [ry (by omega) (by omega)];exact mS;done)
   |(rw [uB (by omega) (by omega) (by omega)];exact mS;done)
 ·
  have e:i=a.size:=by omega
  subst e
  rw [L6 (by omega),List.foldl_nil] at hr
  rw [hr]
  repeat' (first|refine sT ?_|refine sT2 ?_|refine sM fun _=> ?_|(refine sC ?_ ?_<;>intro hb<;>try omega)|exact cT|fail)
  exact vO (.inl rfl) rfl rfl .hd rfl (MSub.nil _) rfl
def u6 (l:List Int):Int × Int × Int:=
 if (pX l).ok=false∨(pX l).m0=0∨(pX l).m1=0 then (0,0,4)
 else if valid (pX l).v0 (pX l).v1 then ((pX l).v0,(pX l).v1,0) else (0,0,3)
theorem wI (a:ByteArray) (ha:a.size≤100000) (w:World):ay Tryz.prog 284 [.string a] w (.tuple #[.agg #[.int .i64 (u6 (ap a)).1,.int .i64 (u6 (ap a)).2.1],.int .i64 (u6 (ap a)).2.2]):=by
 refine aq Tryz.func284 rfl Tryz.ntmps284 rfl ?_
 unfold u6
 generalize hp:pX (ap a)=p
 have hR:=zw a ha
 rw [hp] at hR
 repeat' (first|(apply aa;exact rfl;exact rfl;(intro w hm;exact hR w))|(apply aa;exact rfl;exact rfl;(intro w hm;exact jG p.v0 p.v1 w))|refine sT ?_|refine sT2 ?_|refine sM fun _=> ?_|(refine sC ?_ ?_<;>intro hb<;>try omega)|exact cT|fail)
 all_goals
  (refine eK ?_)
  simp_all
def fj (a b:Rf):Bool:=decide (a.row<b.row)||(decide (a.row=b.row) && decide (a.col<b.col))
theorem wJ (a b:Rf) (w:World):ay Tryz.prog 60 [.agg (cB a).toArray,.agg (cB b).toArray] w (.bool (fj a b)):=by
 refine aq Tryz.func60 rfl Tryz.ntmps60 rfl ?_
 repeat' (first|refine sT ?_|refine sM fun _=> ?_|(refine sC ?_ ?_<;>intro hb<;>try omega)|exact cT|fail)
 all_goals ((refine rT1 ?_);((try simp only [← Int.not_lt] at*);simp_all [fj, -Int.not_lt, -Int.not_le,← Int.not_lt]))
theorem Kv (a:Rf) (w:World):ay Tryz.prog 140 [.agg (cB a).toArray] w (.agg (bO (II a.col a.row)).toArray):=by
 refine aq Tryz.func140 rfl Tryz.ntmps140 rfl ?_
 repeat' (first|refine sT ?_|refine sM fun _=> ?_|(refine sC ?_ ?_<;>intro hb<;>try omega)|exact cT|fail)
 (refine eRC ?_)
 rfl
def lZ (r:Rct) (a:Rf):Bool:=decide (r.c1≤a.col) && decide (a.col≤r.c2) && decide (r.r1≤a.row) && decide (a.row≤r.r2)
theorem Kw (r:Rct) (a:Rf) (w:World):ay Tryz.prog 59 [.agg (bO r).toArray,.agg (cB a).toArray] w (.bool (lZ r a)):=by
 refine aq Tryz.func59 rfl Tryz.ntmps59 rfl ?_
 repeat' (first|refine sT ?_|refine sM fun _=> ?_|(refine sC ?_ ?_<;>intro hb<;>try omega)|exact cT|fail)
 all_goals ((refine rT1 ?_);((try simp only [← Int.not_lt] at*);simp_all [lZ, -Int.not_lt, -Int.not_le,← Int.not_lt]))
end Go.SL
namespace Go.SL
open Go Go.Proofs
attribute [local irreducible] W WL WQ WG WA VOp thn blk bS scp bq aS FnIn
set_option maxRecDepth 10000 in
theorem zl (f:FuncId) [Callable Tryz.prog f] (caps:List Value) (g:Int→Int) (a:ByteArray) (ha:a.size≤1000000) (w:World) (hf: ∀ c w' H,0≤c→c<256→Mem w w' H→ay Tryz.prog f ([.int .u8 c]++caps) w' (.int .u8 (g c))):
  aS Tryz.prog 231 [.string a,.func (.func f) #[] caps.toArray] w fun v H=> ∃ gb cap,v= .slice (some ⟨gb,0,none⟩) a.size cap∧H= [.byt gb 5 a.size cap (((ap a).map g).map (Value.int .u8))]:=by
 refine aq Tryz.func231 rfl Tryz.ntmps231 rfl ?_
 repeat' (first|(apply j0;exact rfl;exact rfl;intro gb cap)|refine sT ?_|refine sM fun _=> ?_|(refine sC ?_ ?_<;>intro hb<;>try omega)|fail)
 refine eM (fun i:Nat=> [(5,.slice (some ⟨gb,0,none⟩) a.size cap),(10,.slice (some ⟨gb,0,none⟩) a.size cap),(11,.int .i64 (a.size:Int)),(12,.int .i64 (i:Int)),(1,.func (.func f) #[] caps.toArray)])
  (fun i=> [.byt gb 5 a.size cap ((((ap a).take i).map g++(ap a).drop i).map (Value.int .u8))]) (fun i=>i≤a.size) (fun i=>a.size - i) 0 (by omega) ?_ ?_ ?_
 ·
  exact sB
 ·
  rw [lV];simp only [M0,MX,LG,MP];exact mS
 ·
  intro i hi
  have hl:=au a
  by_cases hlt:i<a.size
  ·
   have hil:i<(ap a).length:=by omega
   have hok:=kC a (ap a)[i] (Mw hil)
   have hget:((((ap a).take i).map g++(ap a).drop i).map (Value.int .u8))[0+i*1]? =some (.int .u8 (ap a)[i]):=by
    rw [MD,show 0+i*1=i by omega,MC (by simp;omega)]
    simp [Nf (Nat.le_of_lt hil),MQ]
   repeat' (first|(apply ak;exact rfl;apply aj;exact rfl;exact rfl;exact hlt)|(apply ak;exact rfl;apply iO;exact rfl;exact .hd;exact hget)|(apply bC;exact rfl;exact rfl;infer_instance;exact rfl;(intro w' hm;exact hf _ w' _ hok.1 hok.2 hm))|(apply j5;exact rfl;exact rfl;exact .hd;exact rfl;(simp;omega))|(apply ak;exact rfl;apply dZ;exact rfl;exact rfl;(constructor<;>omega))|refine sT ?_|refine sM fun _=> ?_|(refine sC ?_ ?_<;>intro hb<;>try omega)|fail)
   refine ⟨i+1,by omega,by omega,?_,?_⟩
   ·
    exact sB
   ·
    rw [show 0+i*1=i by omega,qQ g (Value.int .u8) (ap a) i hil]
    exact mS
  ·
   have e:i=a.size:=by omega
   subst e
   repeat' (first|refine sT ?_|refine sM fun _=> ?_|(refine sC ?_ ?_<;>intro hb<;>try omega)|fail)
   refine cQ (.inl rfl) rfl rfl (.refl _) ⟨gb,cap,rfl,?_⟩
   rw [Mm (by omega),L6 (by omega),LN]
set_option maxRecDepth 10000 in
theorem DY (c:Int) (h0:0≤c) (h1:c<256) (ga gb:Nat) (w:World) (ha:Ro w ga 0 [.int .u8 97]) (hb' :Ro w gb 0 [.int .i64 (-32)]):ay Tryz.prog 310 [.int .u8 c,.pointer (some ⟨ga,0,none⟩),.pointer (some ⟨gb,0,none⟩)] w (.int .u8 (upC c)):=by
 refine aq Tryz.func310 rfl Tryz.ntmps310 rfl ?_
 have hwc:IntKind.i64.wrap c=c:=I64.wrap ⟨by omega,by omega⟩
 have h122:IntKind.u8.wrap (97+25)=122:=by decide
 repeat' (first|(apply ak;exact rfl;apply aI (off:=0);exact ha;exact rfl;exact rfl)|(apply ak;exact rfl;apply aI (off:=0);exact hb';exact rfl;exact rfl)|(apply ak;exact rfl;apply dA;exact rfl;exact rfl;exact h122)|(apply ak (d:=15);exact rfl;apply bJ;exact rfl;exact hwc)|(apply ak (d:=17);exact rfl;apply dZ;exact rfl;exact rfl;exact ⟨by omega,by omega⟩)|(apply ak (d:=18);exact rfl;apply bJ (c:=c - 32);exact rfl;(rw [show c+ -32=c - 32 by omega];exact dQ (by omega) (by omega)))|refine sT ?_|refine sM fun _=> ?_|(refine sC ?_ ?_<;>intro hb<;>try omega)|fail)
 all_goals ((refine rT1 ?_);unfold upC;first|rw [if_pos (by omega)]|rw [if_neg (by omega)])
def upB (a:ByteArray):ByteArray:=mkB ((ap a).map upC)
theorem nN (a:ByteArray):ap (upB a)=(ap a).map upC:=by
 refine ll ?_
 intro c hc
 obtain ⟨d,hd,rfl⟩:=Nk.1 hc
 have:=kC a d hd
 unfold upC
 split<;>omega
set_option maxRecDepth 10000 in
theorem F3 (a:ByteArray) (ha:a.size≤1000000) (w:World):ay Tryz.prog 277 [.string a,.int .u8 97,.int .i64 (-32)] w (.string (upB a)):=by
 refine aq Tryz.func277 rfl Tryz.ntmps277 rfl ?_
 repeat' (first|((with_reducible apply aG (R:=fun v H=> ∃ gb cap,v= .slice (some ⟨gb,0,none⟩) a.size cap∧H= [.byt gb 5 a.size cap (((ap a).map upC).map (Value.int .u8))]));exact rfl;exact rfl;(intro w' hm;exact zl 310 [_,_] upC a ha w' (fun c w2 H2 h0 h1 hm2=>DY c h0 h1 _ _ w2 ((Ro.of_box hm pK).next hm2) ((Ro.of_box hm pK).next hm2)));(rintro v H' ⟨gb,cap,rfl,rfl⟩))|(apply ak;exact rfl;apply oM;exact rfl;exact .hd;simp [au])|refine sT ?_|refine sM fun _=> ?_|(refine sC ?_ ?_<;>intro hb<;>try omega)|fail)
 (refine rT1 ?_)
 rfl
set_option maxRecDepth 10000 in
theorem oz (a:ByteArray) (ha:a.size≤1000000) (w:World):ay Tryz.prog 240 [.string a] w (.string (upB a)):=by
 refine aq Tryz.func240 rfl Tryz.ntmps240 rfl ?_
 repeat' (first|(apply aa;exact rfl;exact rfl;(intro w hm;exact F3 a ha w))|refine sT ?_|refine sM fun _=> ?_|(refine sC ?_ ?_<;>intro hb<;>try omega)|fail)
 (refine rT1 ?_)
 rfl
def js:List Int→Option (List Int)
 | []=>some []
 |c::r=>if c≠34 then (js r).map (c:: ·) else match r with
  | []=>none
  |d::r' =>if d=34 then (js r').map (34:: ·) else none
def eY (l:List Int):List Int × Int:=
 if l.length<2∨l.head? ≠some 34∨l.getLast? ≠some 34∨l.all (fun c=>bp c)=false then ([],4)
 else match js ((l.drop 1).dropLast) with
  |none=>([],4)
  |some r=>if 256<r.length then ([],5) else (r,0)
theorem kZ (a:ByteArray):lc a=(ap a).all fun c=>bp c:=by
 simp only [lc,ap,List.all_map]
 congr 1
 funext c
 simp only [Function.comp,bp]
 rw [Mp];simp;omega
theorem F8 (a:ByteArray) (c:Int) (h:0<a.size):((ap a).getLast? =some c)↔bat a (a.size - 1)=c:=by
 rw [N8,au,fu (by omega)]
 simp
theorem xk {a:ByteArray} {i:Nat} (h0:1≤i) (h:i<a.size - 1):(((ap a).drop 1).dropLast).drop (i - 1)=bat a i::(((ap a).drop 1).dropLast).drop i:=by
 have hl:=au a
 obtain ⟨j,rfl⟩: ∃ j,i=j+1:=⟨i - 1,by omega⟩
 rw [M3]
 have hlen:(((ap a).drop 1).dropLast).length=a.size - 2:=by simp;omega
 have hlt:j<(((ap a).drop 1).dropLast).length:=by omega
 rw [LJ hlt]
 congr 1
 have h1:=fu (a:=a) (i:=j+1) (by omega)
 have h2:(((ap a).drop 1).dropLast)[j]? =some (bat a (j+1)):=by
  rw [List.getElem?_dropLast,if_pos (by simp;omega),MQ,Ng 1 j,h1]
 rw [LF hlt] at h2
 exact Option.some.inj h2
theorem oQ {c:Int} {r:List Int} (h:c≠34):js (c::r)=(js r).map (c:: ·):=by
 rw [js.eq_def];simp [h]
theorem BL (a:ByteArray) (ha:a.size≤1000000) (w:World):ay Tryz.prog 280 [.string a] w (.tuple #[.string (mkB (eY (ap a)).1),.int .i64 (eY (ap a)).2]):=by
 refine aq Tryz.func280 rfl Tryz.ntmps280 rfl ?_
 have hl:=au a
 have hp:=nC a ha
 rw [kZ] at hp
 have hh:=nS a 34
 have hg:=F8 a 34
 by_cases hbad:(ap a).length<2∨(ap a).head? ≠some 34∨(ap a).getLast? ≠some 34∨(ap a).all (fun c=>bp c)=false
 ·
  rw [eY,if_pos hbad]
  repeat' (first|(apply aa;exact rfl;exact rfl;(intro w hm;exact hp w))|refine sT ?_|refine sS ?_|refine sT2 ?_|refine sN ?_|refine sM fun _=> ?_|(refine sC ?_ ?_<;>intro hb<;>try omega)|fail)
  iterate 4 (focus ((refine rT2 ?_);rfl))
  exfalso
  rename_i h1 h2 h3
  rcases hbad with h|h|h|h
  ·
   omega
  ·
   exact h (hh.2 ⟨by omega,Decidable.not_not.1 h2⟩)
  ·
   exact h ((hg (by omega)).2 (Decidable.not_not.1 h3))
  ·
   rw [hb] at h;cases h
 ·
  have hun:eY (ap a)=match js (((ap a).drop 1).dropLast) with
    |none=>([],4)
    |some r=>if 256<r.length then ([],5) else (r,0):=by rw [eY,if_neg hbad]
  rw [hun]
  simp only [not_or,Decidable.not_not,Bool.not_eq_false] at hbad
  obtain ⟨b1,b2,b3,b4⟩:=hbad
  have b5:=(hh.1 b2).2
  have b6:=(hg (by omega)).1 b3
  rw [b4] at hp
  have hn:(a.size:Int) - 1=((a.size - 1:Nat):Int):=by omega
  generalize hB:((ap a).drop 1).dropLast=B
  have hBl:B.length=a.size - 2:=by rw [← hB];simp;omega
  repeat' (first|(apply aa;exact rfl;exact rfl;(intro w hm;exact hp w))|refine sT ?_|refine sS ?_|refine sT2 ?_|refine sN ?_|refine sM fun _=> ?_|(refine sC ?_ ?_<;>intro hb<;>try omega)|fail)
  all_goals try (exfalso;omega)
  refine aJ 5 1 ?_
  refine ax [0,4] rfl (fun x:Nat × List Int × Option Nat × Nat=> [(5,sl x.2.2.1 x.2.1.length x.2.2.2),(6,.int .i64 (x.1:Int))]) (fun x=> [.own x.2.2.1 5 1 x.2.1.length x.2.2.2 (x.2.1.map (Value.int .u8))]) (fun x=>1≤x.1∧x.1≤a.size - 1∧x.2.1.length≤x.1∧js B=(js (B.drop (x.1 - 1))).map (x.2.1++ ·)) (fun x=>a.size - x.1) (1,[],none,0) ⟨by omega,by omega,by simp,by simp⟩ sB mS ?_
  rintro ⟨i,out,A,cap⟩ ⟨i1,i2,i3,i4⟩
  dsimp only at i1 i2 i3 i4 ⊢
  by_cases hend:i=a.size - 1
  ·
   have hBd:B.drop (i - 1)= []:=L6 (by omega)
   rw [hBd] at i4
   simp only [js,ME,LN] at i4
   rw [i4]
   dsimp only
   by_cases hlen:256<out.length
   ·
    rw [if_pos hlen]
    repeat' (first|refine sT ?_|refine sS ?_|refine sT2 ?_|refine sN ?_|refine sM fun _=> ?_|(refine sC ?_ ?_<;>intro hb<;>try omega)|fail)
    all_goals first|(exfalso;omega)|((refine rT2 ?_);rfl)
   ·
    rw [if_neg hlen]
    repeat' (first|(apply ak;exact rfl;apply zT;exact rfl;exact pK;exact rfl)|refine sT ?_|refine sS ?_|refine sT2 ?_|refine sN ?_|refine sM fun _=> ?_|(refine sC ?_ ?_<;>intro hb<;>try omega)|fail)
    all_goals first|(exfalso;omega)|((refine rT2 ?_);rfl)
  ·
   have hdr:=xk (a:=a) i1 (by omega)
   rw [hB] at hdr
   rw [hdr] at i4
   by_cases hq:bat a i=34
   ·
    rw [hq] at i4
    by_cases h1:i+1=a.size - 1
    ·
     have hBd:B.drop i= []:=L6 (by omega)
     rw [hBd] at i4
     simp only [js,ne_eq,not_true_eq_false,if_false,Ol] at i4
     rw [i4]
     repeat' (first|refine sT ?_|refine sS ?_|refine sT2 ?_|refine sN ?_|refine sM fun _=> ?_|(refine sC ?_ ?_<;>intro hb<;>try omega)|fail)
     all_goals first|(exfalso;omega)|((refine rT2 ?_);rfl)
    ·
     have hdr2:=xk (a:=a) (i:=i+1) (by omega) (by omega)
     rw [hB,M3] at hdr2
     rw [hdr2] at i4
     by_cases h2:bat a (i+1)=34
     ·
      simp only [js,ne_eq,not_true_eq_false,if_false,h2,if_true,NP] at i4
      repeat' (first|(apply aN;(iterate 3 exact rfl);exact pK;exact pK;exact rfl;(simp [Value.oneCell']);omega;(simp only [maxLen];omega);intro g8 c8)|(apply ak (d:=63);exact rfl;apply dc (b:=2);exact rfl;exact rfl;(simp only [maxLen];omega))|refine sT ?_|refine sS ?_|refine sT2 ?_|refine sN ?_|refine sM fun _=> ?_|(refine sC ?_ ?_<;>intro hb<;>try omega)|fail)
      all_goals try (exfalso;omega)
      refine ⟨(i+2,out++ [34],some g8,c8),⟨by dsimp only;omega,by dsimp only;omega,by simp;omega,?_⟩,(by dsimp only;omega),?_,sB,?_⟩
      ·
       dsimp only
       rw [i4,show i+2 - 1=i+1 by omega]
       congr 1
       funext l
       simp
      ·
       simp only [LC,LH]
       exact sB
      ·
       simp only [LC,LH,MT,Mh,MX]
       exact mS
     ·
      simp only [js,ne_eq,not_true_eq_false,if_false,h2,Ol] at i4
      rw [i4]
      repeat' (first|refine sT ?_|refine sS ?_|refine sT2 ?_|refine sN ?_|refine sM fun _=> ?_|(refine sC ?_ ?_<;>intro hb<;>try omega)|fail)
      all_goals first|(exfalso;omega)|((refine rT2 ?_);rfl)
   ·
    rw [oQ hq,NP] at i4
    repeat' (first|(apply aN;(iterate 3 exact rfl);exact pK;exact pK;exact rfl;(simp [Value.oneCell']);omega;(simp only [maxLen];omega);intro g8 c8)|refine sT ?_|refine sS ?_|refine sT2 ?_|refine sN ?_|refine sM fun _=> ?_|(refine sC ?_ ?_<;>intro hb<;>try omega)|fail)
    all_goals try (exfalso;omega)
    refine ⟨(i+1,out++ [bat a i],some g8,c8),⟨by dsimp only;omega,by dsimp only;omega,by simp;omega,?_⟩,(by dsimp only;omega),?_,sB,?_⟩
    ·
     dsimp only
     rw [i4,show i+1 - 1=i by omega]
     congr 1
     funext l
     simp
    ·
     simp only [LC,LH]
     exact sB
    ·
     simp only [LC,LH,MT,Mh,MX]
     exact mS
def bZ:List ByteArray:= [⟨#[]⟩,⟨#[35,68,73,86,47,48,33]⟩,⟨#[35,86,65,76,85,69,33]⟩,⟨#[35,78,85,77,33]⟩,⟨#[35,78,47,65]⟩,⟨#[35,82,69,70,33]⟩,⟨#[35,67,89,67,76,69,33]⟩,⟨#[35,68,69,78,73,69,68]⟩]
def Words (w:World):Prop:=Ro w 0 0 (bZ.map Value.string)
theorem Words.next {w0 w:World} {H:List Blk} (h:Words w0) (hm:Mem w0 w H):Words w:=Ro.next h hm
def fk (c:Int):Vl:=⟨4,if c<1∨7<c then 2 else c,av⟩
def rJ (n:Int):Vl:=if n= -9223372036854775808 then fk 3 else ⟨1,n,av⟩
def kf (b:Bool):Vl:=⟨2,if b then 1 else 0,av⟩
def kS:ByteArray:=⟨#[84,82,85,69]⟩
def jy:ByteArray:=⟨#[70,65,76,83,69]⟩
def wh (a:ByteArray):Vl:=if upB a=kS then kf true else if upB a=jy then kf false else fk 2
theorem kG (c:Int) (w:World):ay Tryz.prog 199 [.int .i64 c] w (.agg (cY (fk c)).toArray):=by
 refine aq Tryz.func199 rfl Tryz.ntmps199 rfl ?_
 repeat' (first|refine sT ?_|refine sM fun _=> ?_|(refine sC ?_ ?_<;>intro hb<;>try omega)|exact cT|fail)
 all_goals ((refine eRC ?_);simp only [fk];(first|rw [if_pos (by omega)]|rw [if_neg (by omega)]);rfl)
theorem Jk (n:Int) (w:World):ay Tryz.prog 202 [.int .i64 n] w (.agg (cY (rJ n)).toArray):=by
 refine aq Tryz.func202 rfl Tryz.ntmps202 rfl ?_
 repeat' (first|(apply aa;exact rfl;exact rfl;(intro w hm;exact kG 3 w))|refine sT ?_|refine sM fun _=> ?_|(refine sC ?_ ?_<;>intro hb<;>try omega)|exact cT|fail)
 all_goals ((refine eRC ?_);simp_all [rJ,cY,fk,av])
theorem G8 (b:Bool) (w:World):ay Tryz.prog 276 [.bool b] w (.agg (cY (kf b)).toArray):=by
 refine aq Tryz.func276 rfl Tryz.ntmps276 rfl ?_
 repeat' (first|refine sT ?_|refine sM fun _=> ?_|(refine sC ?_ ?_<;>intro hb<;>try omega)|exact cT|fail)
 all_goals ((refine eRC ?_);simp_all [kf,cY,av])
theorem F2 (v:Vl) (ha:v.text.size≤1000000) (w:World):ay Tryz.prog 239 [.agg (cY v).toArray] w (.agg (cY (wh v.text)).toArray):=by
 refine aq Tryz.func239 rfl Tryz.ntmps239 rfl ?_
 repeat' (first|(apply aa;exact rfl;exact rfl;(intro w hm;exact oz v.text ha w))|(apply aa;exact rfl;exact rfl;(intro w hm;exact G8 _ w))|(apply aa;exact rfl;exact rfl;(intro w hm;exact kG 2 w))|refine sT ?_|refine sM fun _=> ?_|(refine sC ?_ ?_<;>intro hb<;>try omega)|exact cT|fail)
 all_goals ((refine eRC ?_);simp_all [wh,kS,jy];rfl)
theorem Jg (c:Int) (h1:1≤c) (h2:c≤5) (w:World) (hw:Words w):ay Tryz.prog 286 [.agg (cY ⟨4,c,av⟩).toArray] w (.string (bZ.getD c.toNat av)):=by
 refine aq Tryz.func286 rfl Tryz.ntmps286 rfl ?_
 have he:eqV ⟨4,c,av⟩ (fk 7)=false:=by simp [eqV,fk];omega
 have hv:mD ⟨4,c,av⟩=0:=by
  have h6:decide (c≤6)=true:=decide_eq_true (by omega)
  simp [mD,qF,h1,h6]
 have hc:=zQ ⟨4,c,av⟩
 rw [hv] at hc
 obtain ⟨k,rfl⟩: ∃ k:Nat,c=(k:Int):=⟨c.toNat,by omega⟩
 have hcell:(bZ.map Value.string)[k*1]? =some (.string (bZ.getD k av)):=by
  rcases (by omega:k=1∨k=2∨k=3∨k=4∨k=5) with rfl|rfl|rfl|rfl|rfl<;>rfl
 repeat' (first|(apply dX;exact rfl;exact rfl;(intro w hm;exact kG 7 w))|(apply dX;exact rfl;exact rfl;(intro w hm;exact hc w))|(apply aK;exact rfl;exact he ▸ zX (b:=fk 7) rfl rfl)|(apply ak;exact rfl;apply qM (j:=k);exact rfl;exact rfl;omega)|(apply ak;exact rfl;apply aI (o:=0);exact hw;exact rfl;exact hcell)|refine sT ?_|refine sQ ?_|refine sD ?_|refine sM fun _=> ?_|(refine sC ?_ ?_<;>intro hb<;>try omega)|(refine sCQ ?_ ?_<;>intro hb<;>try omega)|exact cT|fail)
 (refine rT1 ?_)
 rfl
instance:KLaw Tryz.prog 5 (fun z:Int=>Value.int .u8 z):=Gc
theorem vp {P:Program} {n:Fr} {w0:World} {Q:bI} {s:az} {H:List Blk} {rest:List Oper} {ty:TypeId} {p:String} {af:Array Edge} {κ:Type} [DecidableEq κ] {enc:κ→Value} {t K E g clock:Nat} {m x kx:Operand} {k:κ} {v:Value} {es:List (κ × Value × Nat)} {es' :List (κ × Value × Nat)} {c' :Nat} {R:List Blk} {ops:Array Oper} [ht:Und P t (.map K E)] [hk:KLaw P K enc] (hm:ev s m=some (.map (some g))) (hkx:ev s kx=some (enc k)) (hx:ev s x=some v) (hsel:Sel (.obj g (lY enc es clock)) H R)
  (he:wn k v clock es=(es',c')) (h:WL P n w0 ops rest Q s (.obj g (lY enc es' c')::R)):WL P n w0 ops (⟨none,.insert t m kx x,ty,p,af,none⟩::rest) Q s H:=by
 refine Db hm hkx hx hsel ?_
 rw [he];exact h
theorem Ga {κ:Type} [DecidableEq κ] {k:κ} {v:Value} {clock:Nat} {es:List (κ × Value × Nat)} (h:kI k es 0=none):wn k v clock es=(es++ [(k,v,clock)],clock+1):=by
 simp [wn,h]
def CV (v:Vl):List (Int × Value × Nat):=
 [(0,.func (.func 237) #[.agg (cY v).toArray] #[],0),(1,.func (.func 237) #[.agg (cY v).toArray] #[],1),(2,.func (.func 238) #[.agg (cY v).toArray] #[],2),(3,.func (.func 239) #[.agg (cY v).toArray] #[],3),(4,.func (.func 238) #[.agg (cY v).toArray] #[],4)]
theorem Af (v:Vl) (w:World):aS Tryz.prog 236 [.agg (cY v).toArray] w fun u H=> ∃ g,u= .map (some g)∧H= [.obj g (lY (fun z:Int=>Value.int .u8 z) (CV v) 5)]:=by
 refine aq Tryz.func236 rfl Tryz.ntmps236 rfl ?_
 repeat' (first|(apply zM (enc:=fun z:Int=>Value.int .u8 z);exact rfl;intro g)|(apply ak;exact rfl;apply j9;exact rfl)|(apply vp (enc:=fun z:Int=>Value.int .u8 z);(iterate 3 exact rfl);exact pK;exact Ga rfl)|refine sT ?_|refine sM fun _=> ?_|(refine sC ?_ ?_<;>intro hb<;>try omega)|exact cT|fail)
 exact cQ (H' := [.obj g (lY (fun z:Int=>Value.int .u8 z) (CV v) 5)]) (.inl rfl) rfl rfl (.pick .hd (.nil _)) ⟨g,rfl,rfl⟩
def gH (v:Vl):Vl:=if mD v=0 then wh v.text else fk 2
set_option maxHeartbeats 1000000 in
theorem zh (v:Vl) (hk:v.kind=3) (ha:v.text.size≤1000000) (w:World):ay Tryz.prog 235 [.agg (cY v).toArray,.func (.func 236) #[] #[]] w (.agg (cY (gH v)).toArray):=by
 refine aq Tryz.func235 rfl Tryz.ntmps235 rfl ?_
 obtain ⟨k,num,text⟩:=v
 dsimp only at hk ha
 subst hk
 have hv:=zQ ⟨3,num,text⟩
 have hn:=F2 ⟨3,num,text⟩ ha
 repeat' (first|refine sT ?_|refine sM fun _=> ?_|(refine sC ?_ ?_<;>intro hb<;>try omega)|exact cT|fail)
 rename_i g2 g4
 refine qD (id:=1) (ι:=Unit) (fun _=> [(5,.func (.func 239) #[.agg (cY ⟨3,num,text⟩).toArray] #[]),(6,.bool true),(2,.pointer (some ⟨g2,0,none⟩)),(4,.pointer (some ⟨g4,0,none⟩))]) (fun _=> [.box g2 172 (cY ⟨3,num,text⟩),.box g4 172 (cY bE)]) (fun _=>True) ?_ ?_
 ·
  refine iw 11 rfl (by kernel_rfl) ?_
  ((with_reducible apply aO (i:=0));exact rfl;exact rfl;decide+kernel;decide+kernel;decide+kernel;exact nP;(intro _ _;exact vP))
  ((with_reducible apply aO (i:=3));exact rfl;exact rfl;decide+kernel;decide+kernel;decide+kernel;exact nP;(intro _ _;exact vP))
  repeat' (first|(apply cF (i:=1) (j:=4);exact rfl;exact rfl;decide+kernel)|(apply cF (i:=2) (j:=4);exact rfl;exact rfl;decide+kernel)|(apply aF (i:=1);exact rfl;decide+kernel)|(apply aF (i:=2);exact rfl;decide+kernel)|(apply aF (i:=4);exact rfl;decide+kernel)|(apply aF (i:=5);exact rfl;decide+kernel)|(apply aO (i:=6);exact rfl;exact rfl;decide+kernel;decide+kernel;decide+kernel;exact nP;(intro _ _;exact vP))|(apply aO (i:=7);exact rfl;exact rfl;decide+kernel;decide+kernel;decide+kernel;exact nP;(intro _ _;exact vP))|(apply aO (i:=8);exact rfl;exact rfl;decide+kernel;decide+kernel;decide+kernel;exact nP;(intro _ _;exact vP))|(apply aO (i:=9);exact rfl;exact rfl;decide+kernel;decide+kernel;decide+kernel;exact nP;(intro _ _;exact vP))|(apply aO (i:=10);exact rfl;exact rfl;decide+kernel;decide+kernel;decide+kernel;exact nP;(intro _ _;exact vP))|(apply iq;decide+kernel)|(apply jE;exact rfl;exact rfl;infer_instance;exact rfl;exact FnIn.of_at (fun w' _=>Af ⟨3,num,text⟩ w');(rintro _ _ ⟨H1,⟨g5,rfl,rfl⟩,rfl⟩))|(apply ak;exact rfl;apply zW (enc:=fun z:Int=>Value.int .u8 z);exact rfl;exact rfl;exact pK;exact rfl)|refine sT ?_|refine sM fun _=> ?_|(refine sC ?_ ?_<;>intro hb<;>try omega)|exact cT|fail)
  all_goals ((apply cu;rotate_left 1;exact sB;exact mS);trivial)
 ·
  rintro _ -
  simp only [gH]
  generalize mD ⟨3,num,text⟩=e at hv
  repeat' (first|(apply aa;exact rfl;exact rfl;(intro w hm;exact hv w))|(apply aa;exact rfl;exact rfl;(intro w hm;exact kG 2 w))|(apply oI;exact rfl;exact rfl;infer_instance;exact rfl;(intro w' _;exact hn w'))|refine sT ?_|refine sM fun _=> ?_|(refine sC ?_ ?_<;>intro hb<;>try omega)|exact cT|fail)
  all_goals
   (refine eRC ?_)
   simp_all
   rfl
theorem ED (v:Vl) (hk:v.kind=3) (ha:v.text.size≤1000000) (w:World):ay Tryz.prog 196 [.agg (cY v).toArray] w (.agg (cY (gH v)).toArray):=by
 refine aq Tryz.func196 rfl Tryz.ntmps196 rfl ?_
 repeat' (first|(apply aa;exact rfl;exact rfl;(intro w hm;exact zh v hk ha w))|refine sT ?_|refine sM fun _=> ?_|(refine sC ?_ ?_<;>intro hb<;>try omega)|exact cT|fail)
 (refine eRC ?_)
 rfl
def gZ (u:ByteArray):List ByteArray→Int→Int × Int
 | [],_=>(0,4)
 |x::r,i=>if x=u then (i,0) else gZ u r (i+1)
def f4 (a:ByteArray):Int × Int:=gZ (upB a) (bZ.drop 1) 1
theorem zJ {i:Nat} (h:i<8):(bZ.map Value.string)[i]? =some (.string (bZ.getD i av)):=by
 rcases (by omega:i=0∨i=1∨i=2∨i=3∨i=4∨i=5∨i=6∨i=7) with rfl|rfl|rfl|rfl|rfl|rfl|rfl|rfl<;>rfl
theorem ph {i:Nat} (h:i<8):bZ.drop i=bZ.getD i av::bZ.drop (i+1):=by
 rcases (by omega:i=0∨i=1∨i=2∨i=3∨i=4∨i=5∨i=6∨i=7) with rfl|rfl|rfl|rfl|rfl|rfl|rfl|rfl<;>rfl
theorem Jl (a:ByteArray) (ha:a.size≤1000000) (w:World) (hw:Words w):ay Tryz.prog 198 [.string a] w (.tuple #[.int .i64 (f4 a).1,.int .i64 (f4 a).2]):=by
 refine aq Tryz.func198 rfl Tryz.ntmps198 rfl ?_
 have hload:(((bZ.map Value.string).drop 0).take 8)=bZ.map Value.string:=rfl
 have hU:=oz a ha
 generalize hu:upB a=u at hU
 repeat' (first|(apply aa;exact rfl;exact rfl;(intro w hm;exact hU w))|(apply ak;exact rfl;apply dY (o:=0) (off:=0);exact hw;exact rfl;exact hload;exact rfl)|refine sT ?_|refine sT2 ?_|refine sM fun _=> ?_|(refine sC ?_ ?_<;>intro hb<;>try omega)|exact cT|fail)
 refine ax [0,8] rfl (fun i:Nat=> [(9,.int .i64 (i:Int))]) (fun _=> []) (fun i=>i≤8∧f4 a=gZ u (bZ.drop (max i 1)) (max i 1:Nat)) (fun i=>8 - i) 0 ⟨by omega,by rw [f4,hu];rfl⟩ sB mS ?_
 rintro i ⟨hi,hr⟩
 by_cases hlt:i<8
 ·
  have hx:=zJ hlt
  have hd:=ph hlt
  generalize bZ.getD i av=x at hx hd
  repeat' (first|(apply ak;exact rfl;apply kO;exact rfl;exact rfl;exact hlt;exact hx)|refine sT ?_|refine sT2 ?_|refine sN ?_|refine sM fun _=> ?_|(refine sC ?_ ?_<;>intro hb<;>try omega)|exact cT|fail)
  ·
   rename_i h0
   rw [show max i 1=i by omega,hd,gZ,if_pos hb] at hr
   rw [hr]
   (refine rT2 ?_)
   rfl
  ·
   rename_i h0
   rw [show max i 1=i by omega,hd,gZ,if_neg hb] at hr
   refine ⟨i+1,?_,(by first|omega|(dsimp only;omega)),sB,sB,mS⟩
   refine ⟨hlt,?_⟩
   rw [hr,show max (i+1) 1=i+1 by omega]
   rfl
  ·
   have h0:i=0:=by omega
   subst h0
   refine ⟨0+1,?_,(by first|omega|(dsimp only;omega)),sB,sB,mS⟩
   exact ⟨by omega,hr⟩
 ·
  have e:i=8:=by omega
  subst e
  rw [hr]
  repeat' (first|refine sT ?_|refine sT2 ?_|refine sM fun _=> ?_|(refine sC ?_ ?_<;>intro hb<;>try omega)|exact cT|fail)
  all_goals first|(exfalso;omega)|((refine rT2 ?_);rfl)
end Go.SL
namespace Go.SL
open Go Go.Proofs
attribute [local irreducible] W WL WQ WG WA WX WLI WR WT VOp thn blk bS scp bq cj aS FnIn
theorem ji (c:Int) (w:World):ay Tryz.prog 279 [.int .u8 c] w (.bool (aC c)):=by
 refine aq Tryz.func279 rfl Tryz.ntmps279 rfl ?_
 repeat' (first|refine sT ?_|refine sM fun _=> ?_|(refine sC ?_ ?_<;>intro hb<;>try omega)|fail)
 all_goals ((refine rT1 ?_);((try simp only [← Int.not_lt] at*);simp_all [aC, -Int.not_lt, -Int.not_le,← Int.not_lt]))
theorem nI (c:Int) (w:World):ay Tryz.prog 281 [.int .u8 c] w (.bool (bH c)):=by
 refine aq Tryz.func281 rfl Tryz.ntmps281 rfl ?_
 repeat' (first|refine sT ?_|refine sM fun _=> ?_|(refine sC ?_ ?_<;>intro hb<;>try omega)|fail)
 all_goals ((refine rT1 ?_);(try simp only [← Int.not_lt] at*);simp_all [bH, -Int.not_lt, -Int.not_le,← Int.not_lt];try omega)
theorem DZ (c:Int) (w:World):ay Tryz.prog 312 [.int .u8 c] w (.bool (cC c)):=by
 refine aq Tryz.func312 rfl Tryz.ntmps312 rfl ?_
 repeat' (first|(apply aa;exact rfl;exact rfl;(intro w hm;exact nI c w))|(apply aa;exact rfl;exact rfl;(intro w hm;exact ji c w))|refine sT ?_|refine sM fun _=> ?_|(refine sC ?_ ?_<;>intro hb<;>try omega)|fail)
 all_goals ((refine rT1 ?_);simp_all [cC])
def gC (p:Int→Bool) (l:List Int):List Int:=l.take (aB p l)
theorem yg {p:Int→Bool} {c:Int} {r:List Int} (h:p c=true):gC p (c::r)=c::gC p r:=by simp [gC,aB,h]
theorem yf {p:Int→Bool} {c:Int} {r:List Int} (h:p c=false):gC p (c::r)= []:=by simp [gC,aB,h]
theorem tH (p:Int→Bool) (l:List Int):(gC p l).length=aB p l:=by
 simp [gC,Nf (bM p l)]
set_option maxHeartbeats 1000000 in
theorem DN (a:ByteArray) (ha:a.size≤1000000) (i0:Nat) (hi0:i0≤a.size) (fis:FuncId) [Callable Tryz.prog fis] (p:Int→Bool) (hf: ∀ c w,ay Tryz.prog fis [.int .u8 c] w (.bool (p c))) (w0:World) (g4 g3 g5:Nat):
  Lo Tryz.prog 330 [.pointer (some ⟨g4,0,none⟩),.pointer (some ⟨g3,0,none⟩),.pointer (some ⟨g5,0,none⟩)] w0 [.box g4 3 [.int .i64 (i0:Int)],.box g3 9 [.string a],.box g5 248 [.func (.func fis) #[] #[]]] (gC p ((ap a).drop i0)) (fun c=> [.int .u8 c]):=by
 intro l I J H0 hy h0
 refine FnIn.msub (H' := [.box g4 3 [.int .i64 (i0:Int)],.box g3 9 [.string a],.box g5 248 [.func (.func fis) #[] #[]]]++H0) ?_ MSub.swap
 refine dM Tryz.func330 rfl Tryz.ntmps330 rfl ?_
 repeat' (first|refine sT ?_|refine sT2 ?_|refine sM fun _=> ?_|(refine sC ?_ ?_<;>intro hb<;>try omega)|fail)
 refine eM (fun y:Nat × List Int × List Blk=> [(0,.func (.yield l) #[] #[]),(1,.pointer (some ⟨g4,0,none⟩)),(2,.pointer (some ⟨g3,0,none⟩)),(3,.pointer (some ⟨g5,0,none⟩)),(5,.int .i64 (y.1:Int))])
  (fun y=> [.box g4 3 [.int .i64 (i0:Int)],.box g3 9 [.string a],.box g5 248 [.func (.func fis) #[] #[]]]++y.2.2)
  (fun y=>y.1≤a.size∧gC p ((ap a).drop i0)=y.2.1++gC p ((ap a).drop y.1)∧I y.2.1 y.2.2) (fun y=>a.size - y.1) (i0,[],H0) ⟨hi0,rfl,h0⟩ sB (MSub.refl _) ?_
 rintro ⟨i,pre,H1⟩ ⟨hi,hus,hI⟩
 dsimp only at hi hus hI ⊢
 by_cases hlt:i<a.size
 ·
  rw [ba hlt] at hus
  have hfc:=fun w=>hf (bat a i) w
  cases hp:p (bat a i)
  ·
   rw [hp] at hfc
   rw [yf hp,LN] at hus
   repeat' (first|(apply f9;exact rfl;exact rfl;infer_instance;exact rfl;(intro w' _;exact hfc w'))|refine sT ?_|refine sI ?_|refine sQ ?_|refine sT2 ?_|refine sQ2 ?_|refine sN ?_|refine sNQ ?_|refine sD ?_|refine sM fun _=> ?_|(refine sC ?_ ?_<;>intro hb<;>try omega)|(refine sCQ ?_ ?_<;>intro hb<;>try omega)|fail)
   exact gX (.inr rfl) rfl (.refl _) ⟨H1,.inl (hus ▸ hI),MSub.swap⟩
  ·
   rw [hp] at hfc
   rw [yg hp] at hus
   repeat' (first|(apply f9;exact rfl;exact rfl;infer_instance;exact rfl;(intro w' _;exact hfc w'))|(apply Dj (id:=3))|(apply Jp;exact rfl;exact rfl;apply aU;exact rfl;exact rfl;exact hlt)|refine sT ?_|refine sI ?_|refine sQ ?_|refine sT2 ?_|refine sQ2 ?_|refine sN ?_|refine sNQ ?_|refine sD ?_|refine sM fun _=> ?_|(refine sC ?_ ?_<;>intro hb<;>try omega)|(refine sCQ ?_ ?_<;>intro hb<;>try omega)|fail)
   (with_reducible apply zL)
   ·
    exact rfl
   ·
    exact rfl
   ·
    exact rfl
   ·
    exact MSub.swapN
   ·
    exact fun w hm=>hy pre (bat a i) _ hus H1 [] hI w hm
   intro bb H2 hq
   cases bb
   ·
    repeat' (first|refine sT ?_|refine sI ?_|refine sT2 ?_|refine sM fun _=> ?_|(refine sC ?_ ?_<;>intro hb<;>try omega)|fail)
    exact gX eIO rfl (.refl _) ⟨H2,.inr ⟨_,hq⟩,by rw [LN];exact .refl _⟩
   ·
    repeat' (first|refine sT ?_|refine sI ?_|refine sT2 ?_|refine sN ?_|refine sM fun _=> ?_|(refine sC ?_ ?_<;>intro hb<;>try omega)|fail)
    refine ⟨(i+1,_,H2),⟨hlt,hus.trans (by rw [List.append_assoc];rfl),hq⟩,(by dsimp only;omega),sB,?_⟩
    exact MSub.swapN'
 ·
  have e:i=a.size:=by omega
  subst e
  have hl:=au a
  rw [L6 (i:=a.size) (by omega),show gC p []= [] from rfl,LN] at hus
  repeat' (first|refine sT ?_|refine sI ?_|refine sQ ?_|refine sT2 ?_|refine sQ2 ?_|refine sN ?_|refine sNQ ?_|refine sD ?_|refine sM fun _=> ?_|(refine sC ?_ ?_<;>intro hb<;>try omega)|(refine sCQ ?_ ?_<;>intro hb<;>try omega)|fail)
  exact gX (.inr rfl) rfl (.refl _) ⟨H1,.inl (hus ▸ hI),MSub.swap⟩
theorem FN (a:ByteArray) (i0:Nat) (fis:FuncId) (w:World):
  aS Tryz.prog 311 [.string a,.int .i64 (i0:Int),.func (.func fis) #[] #[]] w fun v H=> ∃ g4 g3 g5,v= .func (.func 330) #[] #[.pointer (some ⟨g4,0,none⟩),.pointer (some ⟨g3,0,none⟩),.pointer (some ⟨g5,0,none⟩)]∧H= [.box g4 3 [.int .i64 (i0:Int)],.box g3 9 [.string a],.box g5 248 [.func (.func fis) #[] #[]]]:=by
 refine aq Tryz.func311 rfl Tryz.ntmps311 rfl ?_
 repeat' (first|refine sT ?_|refine sM fun _=> ?_|(refine sC ?_ ?_<;>intro hb<;>try omega)|fail)
 rename_i g3 g4 g5
 exact cQ (.inl rfl) rfl rfl (H' := [.box g4 3 [.int .i64 (i0:Int)],.box g3 9 [.string a],.box g5 248 [.func (.func fis) #[] #[]]]) mS ⟨g4,g3,g5,rfl,rfl⟩
set_option maxHeartbeats 1000000 in
theorem oZ (a:ByteArray) (ha:a.size≤1000000) (i0:Nat) (hi0:i0≤a.size) (fis:FuncId) [Callable Tryz.prog fis] (p:Int→Bool) (hf: ∀ c w,ay Tryz.prog fis [.int .u8 c] w (.bool (p c))) (w:World):
  ay Tryz.prog 278 [.string a,.int .i64 (i0:Int),.func (.func fis) #[] #[]] w (.int .i64 (aB p ((ap a).drop i0):Int)):=by
 refine yL Tryz.func278 rfl Tryz.ntmps278 (by rfl) ?_
 refine wR ?_
 repeat' (first|(apply aG;exact rfl;exact rfl;(intro w' hm;exact FN a i0 fis w');(rintro v H' ⟨g4,g3,g5,rfl,rfl⟩))|refine sT ?_|refine sR ?_|refine sM fun _=> ?_|(refine sC ?_ ?_<;>intro hb<;>try omega)|(refine sCR ?_ ?_<;>intro hb<;>try omega)|fail)
 rename_i gn
 have hpl:=tH p ((ap a).drop i0)
 have hll:=au a
 have hrl:=bM p ((ap a).drop i0)
 rw [LL] at hrl
 rw [← hpl]
 refine EL (ps:= [12]) (us:=gC p ((ap a).drop i0)) (encs:=fun c=> [.int .u8 c]) (Hc:= [.box g4 3 [.int .i64 (i0:Int)],.box g3 9 [.string a],.box g5 248 [.func (.func fis) #[] #[]]]) (HU0:= [.box gn 3 [.int .i64 0]]) rfl (fun _=>rfl) rfl (DN a ha i0 hi0 fis p hf w g4 g3 g5)
  (fun pre HU=>HU= [.box gn 3 [.int .i64 (pre.length:Int)]]) (fun _=>False) MSub.swap rfl ?_ ?_ ?_
 ·
  rintro l pre u post hus _ rfl F F'
  have hlu:=congrArg List.length hus
  simp only [LC,L9] at hlu
  change WR _ _ _ l _ _ ((12,Value.int .u8 u)::_) (.box gn 3 [.int .i64 (pre.length:Int)]::F)
  repeat' (first|refine sT ?_|refine sR ?_|refine sM fun _=> ?_|(refine sC ?_ ?_<;>intro hb<;>try omega)|(refine sCR ?_ ?_<;>intro hb<;>try omega)|fail)
  refine G0 ⟨[.box gn 3 [.int .i64 (pre.length:Int)]],MSub.refl _,?_⟩
  change WR _ _ _ l _ _ _ (.box gn 3 [.int .i64 (pre.length:Int)]::F')
  repeat' (first|refine sT ?_|refine sR ?_|refine sN ?_|refine sM fun _=> ?_|(refine sC ?_ ?_<;>intro hb<;>try omega)|(refine sCR ?_ ?_<;>intro hb<;>try omega)|fail)
  refine Iu [.box gn 3 [.int .i64 ((pre.length+1:Nat):Int)]] ?_ (by rw [LC];rfl)
  change MSub (_::F') _
  exact mS
 ·
  rintro D _ rfl
  change cj _ _ _ _ _ (iY D:: .box gn 3 [.int .i64 ((gC p ((ap a).drop i0)).length:Int)]::_)
  repeat' (first|refine sT ?_|refine sR ?_|refine sM fun _=> ?_|(refine sC ?_ ?_<;>intro hb<;>try omega)|(refine sCR ?_ ?_<;>intro hb<;>try omega)|fail)
  refine Gz .hd ?_
  exact cQ (.inl rfl) rfl rfl (MSub.nil _) rfl
 ·
  rintro D HU h
  exact h.elim
end Go.SL
namespace Go.SL
open Go Go.Proofs
attribute [local irreducible] W WL WQ WG WA VOp thn blk bS bq aS FnIn WLI
def KP (n:Nd) (i:Nat) (r:List Nd):Us:=match r with
 |m::_=>if m.kind=7∧46≤m.fn then ⟨n.rect,((i+1:Nat):Int),m.fn⟩ else ⟨n.rect, -1,0⟩
 | []=>⟨n.rect, -1,0⟩
def qP:List Nd→Nat→List Us
 | [],_=> []
 |n::r,i=>bif Iz n then KP n i r::qP r (i+1) else qP r (i+1)
def KO (L:List Nd):List Us:=qP L 0
end Go.SL
namespace Go.SL
open Go Go.Proofs
attribute [local irreducible] W WL WQ WG WA VOp thn blk bS bq aS FnIn WLI WR WT cj uY ou oS
def rel (u:Us):Bool:=decide (0≤u.node)
def KS (r:Rct) (u:Us):Bool:=(dV u.rect r).2
end Go.SL
namespace Go.SL
open Go Go.Proofs
attribute [local irreducible] W WL WQ WG WA VOp thn blk bS bq aS FnIn LB
def aT:List Nd:= [k2,k3,j7,k6]
end Go.SL
