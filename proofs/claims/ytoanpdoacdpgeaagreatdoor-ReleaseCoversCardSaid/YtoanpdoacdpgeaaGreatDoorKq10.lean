/-
  Lemmas and walks, put together: A2 D3 W15 C1 S1 W16 A2p S2 S3 S4 D4.
-/
import Derived.Test.YtoanpdoacdpgeaaGreatDoorKq09
set_option linter.unusedSimpArgs false
set_option linter.unusedVariables false
set_option maxRecDepth 20000
namespace Go.SL
open Go Go.Proofs
attribute [local irreducible] W WL WQ WG WA VOp thn blk bE aV aK FnIn
structure Pc where
 m0:Int
 m1:Int
 v0:Int
 v1:Int
 ok:Bool
def x9 (p:Pc):List Value:= [.int .i64 p.m0,.int .i64 p.m1,.int .i64 p.v0,.int .i64 p.v1,.bool p.ok]
def ko (p:Pc) (c:Int):Pc:=⟨p.m0+1,p.m1,min (26*p.v0+(c - 65)+1) 1025,p.v1,p.ok && decide (p.m1=0)⟩
def fQ (p:Pc) (c:Int):Pc:=⟨p.m0,p.m1+1,p.v0,min (10*p.v1+(c - 48)) 1025,p.ok && (decide (c≠48)||decide (0<p.m1))⟩
structure Pc.Fit (p:Pc) (n:Int):Prop where
 m0:0≤p.m0∧p.m0≤n
 m1:0≤p.m1∧p.m1≤n
 v0:0≤p.v0∧p.v0≤1025
 v1:0≤p.v1∧p.v1≤1025
theorem zg (a b:Int):(if b<a then b else a)=min a b:=by omega
theorem I4 (p:Pc) (c:Int) (n:Int) (hf:p.Fit n) (hn:n≤1000000) (h1:65≤c) (h2:c≤90) (g:Nat) (R:List Blk) (w0:World):
  FnIn Tryz.prog 331 [.pointer (some ⟨g,0,none⟩),.int .u8 c,.bool true] w0 (.box g 350 (x9 p)::R) fun v H=>v= .tuple #[]∧H= .box g 350 (x9 (ko p c))::R:=by
 refine dD Tryz.func331 rfl Tryz.ntmps331 rfl ?_
 obtain ⟨a1,a2⟩:=hf.m0
 obtain ⟨a3,a4⟩:=hf.m1
 obtain ⟨a5,a6⟩:=hf.v0
 obtain ⟨a7,a8⟩:=hf.v1
 have hwc:IntKind.u8.wrap (c - 65)=c - 65:=wrap_u8 (by omega) (by omega)
 have hwc2:IntKind.i64.wrap (c - 65)=c - 65:=I64.wrap ⟨by omega,by omega⟩
 repeat' (first|(refine qY (id:=1) (ι:=Bool) (fun _=> [(0,.pointer (some ⟨g,0,none⟩)),(1,.int .u8 c)]) (fun b=> .box g 350 [.int .i64 p.m0,.int .i64 p.m1,.int .i64 p.v0,.int .i64 p.v1,.bool b]::R) (fun b=>b=(p.ok && decide (p.m1=0))) ?_ ?_)|refine sT ?_|refine sT2 ?_|refine sG2 ?_|refine sJ ?_|refine sJG ?_|refine sG ?_|refine sM fun _=> ?_|(refine sC ?_ ?_<;>intro hb<;>try omega)|exact cT|fail)
 ·
  (apply cC;rotate_left 1;exact sB;exact mS)
  rw [hb];rfl
 ·
  (apply cC;rotate_left 1;exact sB;exact mS)
  rw [hb];rfl
 rintro _ rfl
 repeat' (first|(refine nW (id:=2) 9 (.box g 350 [.int .i64 (p.m0+1),.int .i64 p.m1,.int .i64 p.v0,.int .i64 p.v1,.bool (p.ok && decide (p.m1=0))]::R) (by kernel_rfl) (by kernel_rfl) rfl ?_)|(refine nW (id:=3) 16 (.box g 350 [.int .i64 (p.m0+1),.int .i64 p.m1,.int .i64 (min (26*p.v0+(c - 65)+1) 1025),.int .i64 p.v1,.bool (p.ok && decide (p.m1=0))]::R) (by kernel_rfl) (by kernel_rfl) rfl ?_)|(apply zY (f:=60);exact rfl;decide+kernel;exact rfl;apply dF;exact rfl;exact rfl;exact hwc)|(apply zY (f:=60);exact rfl;decide+kernel;exact rfl;apply bW;exact rfl;exact hwc2)|(apply rZ;exact rfl;exact rfl;exact .hd;exact rfl;exact rfl;(try rw [zg]);exact .refl _)|refine sT ?_|refine sT2 ?_|refine sG2 ?_|refine sJ ?_|refine sJG ?_|refine sG ?_|refine sM fun _=> ?_|(refine sC ?_ ?_<;>intro hb<;>try omega)|exact cT|fail)
 exact fO (.inl rfl) rfl (.refl _) ⟨rfl,rfl⟩
theorem I5 (p:Pc) (c:Int) (n:Int) (hf:p.Fit n) (hn:n≤1000000) (h1:48≤c) (h2:c≤57) (g:Nat) (R:List Blk) (w0:World):
  FnIn Tryz.prog 331 [.pointer (some ⟨g,0,none⟩),.int .u8 c,.bool false] w0 (.box g 350 (x9 p)::R) fun v H=>v= .tuple #[]∧H= .box g 350 (x9 (fQ p c))::R:=by
 refine dD Tryz.func331 rfl Tryz.ntmps331 rfl ?_
 obtain ⟨a1,a2⟩:=hf.m0
 obtain ⟨a3,a4⟩:=hf.m1
 obtain ⟨a5,a6⟩:=hf.v0
 obtain ⟨a7,a8⟩:=hf.v1
 have hwc:IntKind.u8.wrap (c - 48)=c - 48:=wrap_u8 (by omega) (by omega)
 have hwc2:IntKind.i64.wrap (c - 48)=c - 48:=I64.wrap ⟨by omega,by omega⟩
 repeat' (first|(refine qY (id:=4) (ι:=Bool) (fun _=> [(0,.pointer (some ⟨g,0,none⟩)),(1,.int .u8 c)]) (fun b=> .box g 350 [.int .i64 p.m0,.int .i64 p.m1,.int .i64 p.v0,.int .i64 p.v1,.bool b]::R) (fun b=>b=(p.ok && (decide (c≠48)||decide (0<p.m1)))) ?_ ?_)|refine sT ?_|refine sT2 ?_|refine sG2 ?_|refine sJ ?_|refine sJG ?_|refine sG ?_|refine sM fun _=> ?_|(refine sC ?_ ?_<;>intro hb<;>try omega)|exact cT|fail)
 ·
  (apply cC;rotate_left 1;exact sB;exact mS)
  rename_i h3
  rw [h3,decide_eq_true hb];rfl
 ·
  (apply cC;rotate_left 1;exact sB;exact mS)
  rename_i h3
  rw [h3,decide_eq_false hb];rfl
 ·
  (apply cC;rotate_left 1;exact sB;exact mS)
  rw [hb];rfl
 rintro _ rfl
 repeat' (first|(refine nW (id:=5) 9 (.box g 350 [.int .i64 p.m0,.int .i64 (p.m1+1),.int .i64 p.v0,.int .i64 p.v1,.bool (p.ok && (decide (c≠48)||decide (0<p.m1)))]::R) (by kernel_rfl) (by kernel_rfl) rfl ?_)|(refine nW (id:=6) 15 (.box g 350 [.int .i64 p.m0,.int .i64 (p.m1+1),.int .i64 p.v0,.int .i64 (min (10*p.v1+(c - 48)) 1025),.bool (p.ok && (decide (c≠48)||decide (0<p.m1)))]::R) (by kernel_rfl) (by kernel_rfl) rfl ?_)|(apply zY (f:=60);exact rfl;decide+kernel;exact rfl;apply dF;exact rfl;exact rfl;exact hwc)|(apply zY (f:=60);exact rfl;decide+kernel;exact rfl;apply bW;exact rfl;exact hwc2)|(apply rZ;exact rfl;exact rfl;exact .hd;exact rfl;exact rfl;(try rw [zg]);exact .refl _)|refine sT ?_|refine sT2 ?_|refine sG2 ?_|refine sJ ?_|refine sJG ?_|refine sG ?_|refine sM fun _=> ?_|(refine sC ?_ ?_<;>intro hb<;>try omega)|exact cT|fail)
 exact fO (.inr rfl) rfl (.refl _) ⟨rfl,rfl⟩
def cf (p:Pc) (c:Int):Pc:=if 65≤upC c∧upC c≤90 then ko p (upC c) else if 48≤c∧c≤57 then fQ p c else ⟨p.m0,p.m1,p.v0,p.v1,false⟩
def pc0:Pc:=⟨0,0,0,0,true⟩
theorem Ee {p:Pc} {c:Int} (h1:97≤c) (h2:c≤122):cf p c=ko p (c - 32):=by
 have e:upC c=c - 32:=by rw [upC,if_pos ⟨h1,h2⟩]
 rw [cf,e,if_pos (by omega)]
theorem HP {p:Pc} {c:Int} (h1:65≤c) (h2:c≤90):cf p c=ko p c:=by
 have e:upC c=c:=by rw [upC,if_neg (by omega)]
 rw [cf,e,if_pos (by omega)]
theorem FL {c:Int} (h: ¬ (97≤c∧c≤122)):upC c=c:=by rw [upC,if_neg h]
theorem vg {p:Pc} {c:Int} (h1:48≤c) (h2:c≤57):cf p c=fQ p c:=by
 rw [cf,FL (by omega),if_neg (by omega),if_pos ⟨h1,h2⟩]
theorem xI {p:Pc} {c:Int} (h: ¬ (97≤c∧c≤122)) (h2: ¬ (65≤c∧c≤90)) (h3: ¬ (48≤c∧c≤57)):cf p c=⟨p.m0,p.m1,p.v0,p.v1,false⟩:=by
 rw [cf,FL h,if_neg h2,if_neg h3]
theorem Ef {p:Pc} {n:Int} (h:p.Fit n) (c:Int):(cf p c).Fit (n+1):=by
 obtain ⟨⟨a1,a2⟩,⟨a3,a4⟩,⟨a5,a6⟩,⟨a7,a8⟩⟩:=h
 unfold cf
 split
 ·
  exact ⟨⟨by simp only [ko];omega,by simp only [ko];omega⟩,⟨a3,by simp only [ko];omega⟩,⟨by simp only [ko];omega,by simp only [ko];omega⟩,⟨a7,a8⟩⟩
 ·
  split
  ·
   exact ⟨⟨a1,by simp only [fQ];omega⟩,⟨by simp only [fQ];omega,by simp only [fQ];omega⟩,⟨a5,a6⟩,⟨by simp only [fQ];omega,by simp only [fQ];omega⟩⟩
  ·
   exact ⟨⟨a1,by dsimp only;omega⟩,⟨a3,by dsimp only;omega⟩,⟨a5,a6⟩,⟨a7,a8⟩⟩
def tF (l:List Int):Pc:=l.foldl cf pc0
theorem CP (a:ByteArray) (ha:a.size≤100000) (w:World):ay Tryz.prog 301 [.string a] w (.agg (x9 (tF (ap a))).toArray):=by
 refine aq Tryz.func301 rfl Tryz.ntmps301 rfl ?_
 have hl:=au a
 repeat' (first|refine sT ?_|refine sT2 ?_|refine sM fun _=> ?_|(refine sC ?_ ?_<;>intro hb<;>try omega)|exact cT|fail)
 rename_i g2 g3
 refine ax [0,2,3,9] rfl (fun x:Nat × Pc=> [(10,.int .i64 (x.1:Int))]) (fun x=> [.box g3 350 (x9 x.2),.box g2 350 [.int .i64 0,.int .i64 0,.int .i64 0,.int .i64 0,.bool false]]) (fun x=>x.1≤a.size∧x.2.Fit x.1∧tF (ap a)=((ap a).drop x.1).foldl cf x.2) (fun x=>a.size - x.1) (0,pc0) ⟨QX _,⟨⟨by decide,by decide⟩,⟨by decide,by decide⟩,⟨by decide,by decide⟩,⟨by decide,by decide⟩⟩,rfl⟩ sB mS ?_
 rintro ⟨i,p⟩ ⟨hi,hf,hr⟩
 dsimp only at hi hf hr ⊢
 by_cases hlt:i<a.size
 ·
  rw [bi hlt,Td] at hr
  have hc:=rU a i
  generalize hcd:bat a i=c at hr hc
  have hf2:=Ef hf c
  repeat' (first|(apply ak (d:=15);exact rfl;exact hcd ▸ aZ rfl rfl hlt)|(apply ak (d:=38);exact rfl;apply dF;exact rfl;exact rfl;exact wrap_u8 (by omega) (by omega))|(apply aw (d:=41);exact rfl;exact rfl;(first|exact FnIn.msub (I4 p _ _ hf (by omega) (by omega) (by omega) _ _ _) (.pick pK (.refl _))|exact FnIn.msub (I5 p _ _ hf (by omega) (by omega) (by omega) _ _ _) (.pick pK (.refl _)));rintro _ _ ⟨rfl,rfl⟩)|refine sT ?_|refine sT2 ?_|refine sN ?_|refine sM fun _=> ?_|(refine sC ?_ ?_<;>intro hb<;>try omega)|exact cT|fail)
  all_goals
   refine ⟨(i+1,cf p c),⟨hlt,by have:=hf2;simpa using this,hr⟩,(by dsimp only;omega),sB,sB,?_⟩
   dsimp only
   first
   |(rw [Ee (by omega) (by omega)];exact mS;done)
   |(rw [HP (by omega) (by omega)];exact mS;done)
   |(rw [vg (by omega) (by omega)];exact mS;done)
   |(rw [xI (by omega) (by omega) (by omega)];exact mS;done)
 ·
  have e:i=a.size:=by omega
  subst e
  rw [Ry (by omega),List.foldl_nil] at hr
  rw [hr]
  repeat' (first|refine sT ?_|refine sT2 ?_|refine sM fun _=> ?_|(refine sC ?_ ?_<;>intro hb<;>try omega)|exact cT|fail)
  exact wQ (.inl rfl) rfl rfl .hd rfl (MSub.nil _) rfl
def yq (l:List Int):Int × Int × Int:=
 if (tF l).ok=false∨(tF l).m0=0∨(tF l).m1=0 then (0,0,4)
 else if valid (tF l).v0 (tF l).v1 then ((tF l).v0,(tF l).v1,0) else (0,0,3)
theorem zD (a:ByteArray) (ha:a.size≤100000) (w:World):ay Tryz.prog 266 [.string a] w (.tuple #[.agg #[.int .i64 (yq (ap a)).1,.int .i64 (yq (ap a)).2.1],.int .i64 (yq (ap a)).2.2]):=by
 refine aq Tryz.func266 rfl Tryz.ntmps266 rfl ?_
 unfold yq
 generalize hp:tF (ap a)=p
 have hR:=CP a ha
 rw [hp] at hR
 repeat' (first|(apply aa;exact rfl;exact rfl;(intro w hm;exact hR w))|(apply aa;exact rfl;exact rfl;(intro w hm;exact jG p.v0 p.v1 w))|refine sT ?_|refine sT2 ?_|refine sM fun _=> ?_|(refine sC ?_ ?_<;>intro hb<;>try omega)|exact cT|fail)
 all_goals
  (refine eQ ?_)
  simp_all
def aU (a b:Rf):Bool:=decide (a.row<b.row)||(decide (a.row=b.row) && decide (a.col<b.col))
theorem zG (a b:Rf) (w:World):ay Tryz.prog 46 [.agg (bh a).toArray,.agg (bh b).toArray] w (.bool (aU a b)):=by
 refine aq Tryz.func46 rfl Tryz.ntmps46 rfl ?_
 repeat' (first|refine sT ?_|refine sM fun _=> ?_|(refine sC ?_ ?_<;>intro hb<;>try omega)|exact cT|fail)
 all_goals ((refine rT1 ?_);((try simp only [← Int.not_lt] at*);simp_all [aU, -Int.not_lt, -Int.not_le,← Int.not_lt]))
theorem PQ (a:Rf) (w:World):ay Tryz.prog 267 [.agg (bh a).toArray] w (.agg (bK (BF a.col a.row)).toArray):=by
 refine aq Tryz.func267 rfl Tryz.ntmps267 rfl ?_
 repeat' (first|refine sT ?_|refine sM fun _=> ?_|(refine sC ?_ ?_<;>intro hb<;>try omega)|exact cT|fail)
 (refine eRC ?_)
 rfl
def fj (r:Rct) (a:Rf):Bool:=decide (r.c1≤a.col) && decide (a.col≤r.c2) && decide (r.r1≤a.row) && decide (a.row≤r.r2)
theorem Mb (r:Rct) (a:Rf) (w:World):ay Tryz.prog 45 [.agg (bK r).toArray,.agg (bh a).toArray] w (.bool (fj r a)):=by
 refine aq Tryz.func45 rfl Tryz.ntmps45 rfl ?_
 repeat' (first|refine sT ?_|refine sM fun _=> ?_|(refine sC ?_ ?_<;>intro hb<;>try omega)|exact cT|fail)
 all_goals ((refine rT1 ?_);((try simp only [← Int.not_lt] at*);simp_all [fj, -Int.not_lt, -Int.not_le,← Int.not_lt]))
end Go.SL
namespace Go.SL
open Go Go.Proofs
attribute [local irreducible] W WL WQ WG WA WX WLI WR WT VOp RW thn blk bE scp aV bo bI aK FnIn FnP
def kG (a b:Rf):Int:=if aU a b then -1 else if aU b a then 1 else 0
end Go.SL
namespace Go.SL
open Go Go.Proofs
attribute [local irreducible] W WL WQ WG WA VOp thn blk aV aK FnIn
set_option maxRecDepth 10000 in
theorem mQ (c r:Int) (w:World):ay Tryz.prog 151 [.agg #[.int .i64 c,.int .i64 r]] w (.bool (valid c r)):=by
 refine aq Tryz.func151 rfl Tryz.ntmps151 rfl ?_
 repeat' (first|refine sT ?_|refine sM fun _=> ?_|(refine sC ?_ ?_<;>intro hb<;>try omega)|fail)
 all_goals ((refine rT1 ?_);((try simp only [← Int.not_lt] at*);simp_all [valid, -Int.not_lt, -Int.not_le,← Int.not_lt]))
set_option maxRecDepth 10000 in
theorem DX (r:Rct) (w:World):ay Tryz.prog 366 [.agg (bK r).toArray] w (.agg #[.int .i64 r.c1,.int .i64 r.r1]):=by
 refine aq Tryz.func366 rfl Tryz.ntmps366 rfl ?_
 repeat' (first|refine sT ?_|refine sM fun _=> ?_|(refine sC ?_ ?_<;>intro hb<;>try omega)|fail)
 exact wQ (.inl rfl) Tryz.results366 rfl pK rfl (MSub.nil _) rfl
set_option maxRecDepth 10000 in
theorem Kc (r:Rct) (w:World):ay Tryz.prog 367 [.agg (bK r).toArray] w (.agg #[.int .i64 r.c2,.int .i64 r.r2]):=by
 refine aq Tryz.func367 rfl Tryz.ntmps367 rfl ?_
 repeat' (first|refine sT ?_|refine sM fun _=> ?_|(refine sC ?_ ?_<;>intro hb<;>try omega)|fail)
 exact wQ (.inl rfl) Tryz.results367 rfl pK rfl (MSub.nil _) rfl
set_option maxRecDepth 10000 in
theorem DT (r:Rct) (w:World):ay Tryz.prog 350 [.agg (bK r).toArray] w (.int .i64 (dh r)):=by
 refine aq Tryz.func350 rfl Tryz.ntmps350 rfl ?_
 repeat' (first|(apply aa;exact rfl;exact rfl;(intro w hm;exact DX r w))|(apply aa;exact rfl;exact rfl;(intro w hm;exact Kc r w))|(apply aa;exact rfl;exact rfl;(intro w hm;exact mQ r.c1 r.r1 w))|(apply aa;exact rfl;exact rfl;(intro w hm;exact mQ r.c2 r.r2 w))|refine sT ?_|refine sM fun _=> ?_|(refine sC ?_ ?_<;>intro hb<;>try omega)|fail)
 all_goals ((refine rT1 ?_);((try simp only [← Int.not_lt] at*);simp_all [dh,aD, -Int.not_lt, -Int.not_le,← Int.not_lt]))
set_option maxRecDepth 10000 in
theorem Po (r:Rct) (w:World):ay Tryz.prog 351 [.agg (bK r).toArray] w (.bool (Kw r)):=by
 refine aq Tryz.func351 rfl Tryz.ntmps351 rfl ?_
 repeat' (first|refine sT ?_|refine sM fun _=> ?_|(refine sC ?_ ?_<;>intro hb<;>try omega)|fail)
 all_goals ((refine rT1 ?_);((try simp only [← Int.not_lt] at*);simp_all [Kw, -Int.not_lt, -Int.not_le,← Int.not_lt]))
set_option maxRecDepth 10000 in
theorem Bg (n:Nd) (w:World):ay Tryz.prog 297 [.agg (bX n).toArray] w (.int .i64 (below n)):=by
 refine aq Tryz.func297 rfl Tryz.ntmps297 rfl ?_
 repeat' (first|refine sT ?_|refine sM fun _=> ?_|(refine sC ?_ ?_<;>intro hb<;>try omega)|fail)
 all_goals ((refine rT1 ?_);simp_all [below])
set_option maxRecDepth 10000 in
theorem AZ (b:ByteArray) (hs:b.size≤256) (w:World):ay Tryz.prog 144 [.string b] w (.bool (mV b)):=by
 refine aq Tryz.func144 rfl Tryz.ntmps144 rfl ?_
 have hsz:b.data.toList.length=b.size:=by simp
 repeat' (first|refine sT ?_|refine sT2 ?_|refine sM fun _=> ?_|(refine sC ?_ ?_<;>intro hb<;>try omega)|fail)
 refine ia (fun i:Nat=> [(0,.string b),(3,.int .i64 (i:Int))]) (fun _=> []) (fun i=>i≤b.size∧mV b=(b.data.toList.drop i).all fun c=>decide (32≤c.toNat) && decide (c.toNat≤126)) (fun i=>b.size - i) 0 ⟨by omega,rfl⟩ ?_ ?_ ?_
 ·
  exact sB
 ·
  exact mS
 ·
  rintro i ⟨hi,hrec⟩
  by_cases hlt:i<b.size
  ·
   rw [QY (by omega),Tu] at hrec
   have hbi:b.data.toList[i]'(by omega)=b[i]'hlt:=by simp [ByteArray.getElem_eq_getElem_data]
   rw [hbi] at hrec
   repeat' (first|(apply ak;exact rfl;apply sj;exact rfl;exact rfl;exact hlt)|(apply ak;exact rfl;apply fq;exact rfl;exact rfl;(simp only [maxLen];omega))|refine sT ?_|refine sT2 ?_|refine sM fun _=> ?_|(refine sC ?_ ?_<;>intro hb<;>try omega)|fail)
   ·
    (refine rT1 ?_)
    rw [hrec,decide_eq_false (by omega)]
    rfl
   ·
    (refine rT1 ?_)
    rw [hrec,decide_eq_false (p:=b[i].toNat≤126) (by omega),Bool.and_false]
    rfl
   ·
    refine ⟨i+1,⟨by omega,?_⟩,by omega,?_,?_⟩
    ·
     rw [hrec,decide_eq_true (by omega),decide_eq_true (by omega)]
     rfl
    ·
     exact sB
    ·
     exact mS
  ·
   have e:i=b.size:=by omega
   subst e
   repeat' (first|refine sT ?_|refine sT2 ?_|refine sM fun _=> ?_|(refine sC ?_ ?_<;>intro hb<;>try omega)|fail)
   (refine rT1 ?_)
   rw [hrec,Ry (by omega)]
   rfl
set_option maxRecDepth 10000 in
theorem Bb (b:ByteArray) (w:World):ay Tryz.prog 361 [.string b] w (.int .i64 (gP b)):=by
 refine aq Tryz.func361 rfl Tryz.ntmps361 rfl ?_
 repeat' (first|(apply aa;exact rfl;exact rfl;(intro w hm;exact AZ b (by omega) w))|refine sT ?_|refine sM fun _=> ?_|(refine sC ?_ ?_<;>intro hb<;>try omega)|fail)
 all_goals ((refine rT1 ?_);(first|rw [gP,decide_eq_true (by omega:256<b.size)]|rw [gP,decide_eq_false (by omega: ¬ 256<b.size)]);simp_all)
set_option maxRecDepth 10000 in
theorem xD (v:Vl) (hn: -9223372036854775808≤v.num) (w:World):ay Tryz.prog 345 [.agg (dA v).toArray] w (.int .i64 (o8 v)):=by
 refine aq Tryz.func345 rfl Tryz.ntmps345 rfl ?_
 have h1:(v.num≠ -9223372036854775808)↔ -9223372036854775807≤v.num:=by omega
 have h2:v.num / 2=0↔(v.num=0∨v.num=1):=by omega
 repeat' (first|(apply aa;exact rfl;exact rfl;(intro w hm;exact Bb v.text w))|refine sT ?_|refine sM fun _=> ?_|(refine sC ?_ ?_<;>intro hb<;>try omega)|fail)
 all_goals ((refine rT1 ?_);simp only [o8,uq,h1,h2,av];(try simp only [← Int.not_lt] at*);simp_all [-Int.not_lt, -Int.not_le,← Int.not_lt])
end Go.SL
namespace Go.SL
open Go Go.Proofs
attribute [local irreducible] W WL WQ WG WA WX WLI WR WT VOp thn blk bE scp aV bI aK FnIn
def TkV (v:Value) (A:Option Nat) (n cap k:Nat):Prop:= ∃ a:Option Addr,v= .slice a (n - k) (cap - k)∧(k<n→a=A.map fun g=>⟨g,k*8,none⟩)
def pB (g:Nat) (lv:Value) (A:Option Nat) (cap:Nat) (fin:Int) (toks:List Tk) (B:Option Nat) (cb:Nat) (out:List Nd):List Blk:=
 [.box g 226 [lv,.int .i64 fin,sl B out.length cb],.own A 228 8 toks.length cap (toks.flatMap bg),.own B 293 11 out.length cb (out.flatMap bX)]
theorem TkV.next {P:Program} {t e:Nat} {v:Value} {A:Option Nat} {n cap k:Nat} [ht:Und P t (.slice e)] [hz:Size P e 8] (h:TkV v A n cap k) (hk:k<n) (hc:n≤cap):
  ∃ v',TkV v' A n cap (k+1)∧v'.oneCell' =true∧(∃ a m c,v' = .slice a m c)∧ ∀ {w0:World} {s:az} {H:List Blk} {ty:TypeId} {x r:Operand} {k' :IntKind},ev s x=some v→ev s r=some (.int k' 1)→VOp P w0 s H (.slice t x (some r) none none) ty v' :=by
 obtain ⟨a,rfl,ha⟩:=h
 refine ⟨.slice (if cap - k=1 then a else a.map (·.add (1*8))) (n - k - 1) (cap - k - 1),⟨if cap - k=1 then a else a.map (·.add (1*8)),?_,fun hk1=> ?_⟩,rfl,⟨_,_,_,rfl⟩,fun hx hr=>lJ (lo:=1) (hi:=n - k) hx ⟨_,hr⟩ rfl (by omega) (by omega)⟩
 ·
  congr 1
 ·
  rw [if_neg (by omega),ha hk]
  cases A with
  |none=>rfl
  |some g=>(simp [cK])<;>omega
theorem Ge {fin:Int} {toks:List Tk} {k:Nat} (h:k<toks.length):hdT fin (toks.drop k)=toks[k]:=by
 rw [QY h];rfl
theorem tW {fin:Int} {toks:List Tk} {k:Nat} (h:toks.length≤k):hdT fin (toks.drop k)={ cY with at_:=fin }:=by
 rw [Ry h];rfl
theorem BB (g:Nat) (lv:Value) (A:Option Nat) (cap:Nat) (fin:Int) (toks:List Tk) (k:Nat) (hk:TkV lv A toks.length cap k) (x:Value) (w:World) (hr:Ro w g 0 [lv,.int .i64 fin,x])
  (ht:k<toks.length→ ∃ ga,A=some ga∧Ro w ga 0 (toks.flatMap bg)):ay Tryz.prog 177 [.pointer (some ⟨g,0,none⟩)] w (.agg (bg (hdT fin (toks.drop k))).toArray):=by
 refine aq Tryz.func177 rfl Tryz.ntmps177 rfl ?_
 obtain ⟨a,rfl,ha⟩:=hk
 by_cases hlt:k<toks.length
 ·
  rw [Ge hlt]
  obtain ⟨ga,rfl,hra⟩:=ht hlt
  have ha' :=ha hlt
  subst ha'
  have hra' :Ro w ga (k*8) (bg toks[k]):=by
   have:=hra.elem x8 k hlt
   rwa [RB] at this
  have hlen:0<toks.length - k:=by omega
  repeat' (first|(apply ak;exact rfl;apply aI (o:=0) (off:=0);exact hr;exact rfl;exact rfl)|(apply ak;exact rfl;apply aI (o:=0) (off:=1);exact hr;exact rfl;exact rfl)|(apply ak;exact rfl;apply aj (j:=0);exact rfl;exact rfl;exact hlen)|(apply ak;exact rfl;apply eR (o:=k*8) (off:=0*8);exact hra';(iterate 3 exact rfl))|refine sT ?_|refine sM fun _=> ?_|(refine sC ?_ ?_<;>intro hb<;>try omega)|fail)
  all_goals try (exfalso;omega)
  (refine eRC ?_)
  rfl
 ·
  rw [tW (by omega)]
  repeat' (first|(apply ak;exact rfl;apply aI (o:=0) (off:=0);exact hr;exact rfl;exact rfl)|(apply ak;exact rfl;apply aI (o:=0) (off:=1);exact hr;exact rfl;exact rfl)|refine sT ?_|refine sM fun _=> ?_|(refine sC ?_ ?_<;>intro hb<;>try omega)|fail)
  all_goals try (exfalso;omega)
  (refine eRC ?_)
  rfl
theorem Kl {g:Nat} {lv:Value} {A:Option Nat} {cap:Nat} {fin:Int} {toks:List Tk} {k:Nat} (hk:TkV lv A toks.length cap k) {B:Option Nat} {cb:Nat} {out:List Nd} {H:List Blk} {w0:World} (hH:MSub (pB g lv A cap fin toks B cb out) H) (w:World) (hm:Mem w0 w H):
  ay Tryz.prog 177 [.pointer (some ⟨g,0,none⟩)] w (.agg (bg (hdT fin (toks.drop k))).toArray):=by
 have hm' :=hH.use hm
 refine BB g lv A cap fin toks k hk (sl B out.length cb) w (Ro.of_box hm' .hd) fun hlt=> ?_
 obtain ⟨_,_,_,h4⟩:=(hm'.on _ (In.tl .hd:In (.own A 228 8 toks.length cap (toks.flatMap bg)) _).mem).1
 cases A with
 |none=>obtain ⟨h5,_⟩:=h4;omega
 |some ga=>exact ⟨ga,rfl,Ro.of_own hm' (In.tl .hd)⟩
theorem Kk (g:Nat) (lv:Value) (A:Option Nat) (cap:Nat) (fin:Int) (toks:List Tk) (k:Nat) (hv:TkV lv A toks.length cap k) (hk:k<toks.length) (hc:toks.length≤cap) (B:Option Nat) (cb:Nat) (out:List Nd) (R:List Blk) (w0:World):
  FnIn Tryz.prog 275 [.pointer (some ⟨g,0,none⟩)] w0 (pB g lv A cap fin toks B cb out++R) fun v H=>v= .tuple #[]∧ ∃ lv',TkV lv' A toks.length cap (k+1)∧H=pB g lv' A cap fin toks B cb out++R:=by
 refine dD Tryz.func275 rfl Tryz.ntmps275 rfl ?_
 obtain ⟨lv',h1,h3,⟨a',m',c',rfl⟩,h2⟩:=hv.next hk hc (P:=Tryz.prog) (t:=219) (e:=228)
 obtain ⟨a,rfl,ha⟩:=hv
 repeat' (first|(apply ak (d:=7);exact rfl;exact h2 rfl rfl)|refine sT ?_|refine sM fun _=> ?_|(refine sC ?_ ?_<;>intro hb<;>try omega)|fail)
 exact fO (.inr rfl) rfl (.refl _) ⟨rfl,_,h1,rfl⟩
theorem kr (n:Nd) (g:Nat) (lv:Value) (A:Option Nat) (cap:Nat) (fin:Int) (toks:List Tk) (B:Option Nat) (cb:Nat) (out:List Nd) (hlen:out.length≤1000000) (R:List Blk) (w0:World):
  FnIn Tryz.prog 276 [.pointer (some ⟨g,0,none⟩),.agg (bX n).toArray] w0 (pB g lv A cap fin toks B cb out++R) fun v H=>v= .tuple #[]∧ ∃ B' cb',H=pB g lv A cap fin toks B' cb' (out++ [n])++R:=by
 refine dD Tryz.func276 rfl Tryz.ntmps276 rfl ?_
 repeat' (first|refine sT ?_|refine sM fun _=> ?_|(refine sC ?_ ?_<;>intro hb<;>try omega)|fail)
 refine jl 11 rfl (by kernel_rfl) ?_
 ((with_reducible apply aR (i:=0));exact rfl;exact rfl;decide+kernel;decide+kernel;decide+kernel;exact nP;(intro _ _;exact vP))
 ((with_reducible apply aR (i:=1));exact rfl;exact rfl;decide+kernel;decide+kernel;decide+kernel;exact nP;(intro _ _;exact vP))
 ((with_reducible apply aR (i:=2));exact rfl;exact rfl;decide+kernel;decide+kernel;decide+kernel;exact nP;(intro _ _;exact vP))
 ((with_reducible apply aR (i:=3));exact rfl;exact rfl;decide+kernel;decide+kernel;decide+kernel;exact nP;(intro _ _;exact vP))
 repeat' (first|(apply cQ (i:=4) (j:=5);exact rfl;exact rfl;decide+kernel)|(apply cQ (i:=4) (j:=6);exact rfl;exact rfl;decide+kernel)|(apply aG (i:=4);exact rfl;decide+kernel)|(apply aG (i:=5);exact rfl;decide+kernel)|(apply aG (i:=6);exact rfl;decide+kernel)|(apply aG (i:=7);exact rfl;decide+kernel)|(apply aG (i:=8);exact rfl;decide+kernel)|(apply aG (i:=9);exact rfl;decide+kernel)|(apply aG (i:=10);exact rfl;decide+kernel)|(apply jk;decide+kernel)|(apply aQ;(iterate 3 exact rfl);exact pK;exact pK;exact rfl;(simp [bX,Value.oneCell']);omega;(simp only [maxLen];omega);intro g8 c8)|refine sT ?_|refine sM fun _=> ?_|(refine sC ?_ ?_<;>intro hb<;>try omega)|fail)
 all_goals
  refine fO eIO rfl (H' :=pB g lv A cap fin toks (some g8) c8 (out++ [n])++R) ?_ ⟨rfl,_,_,rfl⟩
  simp only [pB,QP,QS,Rm,Rj,RC,QW,QR,QU]
  exact mS
def zq (e:Int × Int):Value:= .iface 223 (.agg #[.int .i64 e.1,.int .i64 e.2])
theorem iW (x:Value) (at_ e:Int) (H:List Blk) (w0:World) (R:Value→List Blk→Prop):
  FnP Tryz.prog 178 [x,.int .i64 at_,.int .i64 e] w0 H R fun v H' =>v=zq (at_,e)∧H' =H:=by
 refine vY Tryz.func178 rfl Tryz.ntmps178 rfl ?_
 repeat' (first|(apply ak;exact rfl;apply z7;(intro m;exact fun h=>by cases h);exact rfl)|(apply Js;exact rfl)|refine sT ?_|refine sM fun _=> ?_|(refine sC ?_ ?_<;>intro hb<;>try omega)|fail)
 exact Ot (.refl _) ⟨rfl,rfl⟩
theorem Pd (op:Int) {g:Nat} {lv:Value} {A:Option Nat} {cap:Nat} {fin:Int} {toks:List Tk} {k:Nat} (hk:TkV lv A toks.length cap k) {B:Option Nat} {cb:Nat} {out:List Nd} {H:List Blk} {w0:World} (hH:MSub (pB g lv A cap fin toks B cb out) H) (w:World) (hm:Mem w0 w H):
  ay Tryz.prog 303 [.pointer (some ⟨g,0,none⟩),.int .i64 op] w (.bool (decide ((hdT fin (toks.drop k)).kind=8∧(hdT fin (toks.drop k)).num=op))):=by
 have hm0:=hH.use hm
 refine aq Tryz.func303 rfl Tryz.ntmps303 rfl ?_
 have hh: ∀ w' H',Mem w w' H' →ay Tryz.prog 177 [.pointer (some ⟨g,0,none⟩)] w' (.agg (bg (hdT fin (toks.drop k))).toArray):=fun w' H' hm' =>by
  refine BB g lv A cap fin toks k hk (sl B out.length cb) w' ((Ro.of_box hm0 .hd).next hm') fun hlt=> ?_
  obtain ⟨_,_,_,h4⟩:=(hm0.on _ (In.tl .hd:In (.own A 228 8 toks.length cap (toks.flatMap bg)) _).mem).1
  cases A with
  |none=>obtain ⟨h5,_⟩:=h4;omega
  |some ga=>exact ⟨ga,rfl,(Ro.of_own hm0 (In.tl .hd)).next hm'⟩
 generalize hdT fin (toks.drop k)=t at hh
 repeat' (first|(apply aa;exact rfl;exact rfl;(intro w' hm';exact hh w' _ hm'))|refine sT ?_|refine sM fun _=> ?_|(refine sC ?_ ?_<;>intro hb<;>try omega)|fail)
 all_goals ((refine rT1 ?_);simp_all)
theorem xJ (op:Int) (w:World):ay Tryz.prog 274 [.int .i64 op] w (.tuple #[.int .i64 (f9 op),.bool (decide (op=5)),.int .i64 (if f9 op=0 then 2 else 0)]):=by
 refine aq Tryz.func274 rfl Tryz.ntmps274 rfl ?_
 repeat' (first|refine sT ?_|refine sM fun _=> ?_|(refine sC ?_ ?_<;>intro hb<;>try omega)|fail)
 all_goals ((refine rT3 ?_);simp_all [f9];try omega)
end Go.SL
namespace Go.Proofs
open Go Go.Shelf Go.RowKit Go.Lib Go.Sort Go.SL
set_option maxHeartbeats 1000000 in
theorem Tryz.lessX (a b:Rf) (W:World):Calls Tryz.prog 46 #[.agg #[.int .i64 a.col,.int .i64 a.row],.agg #[.int .i64 b.col,.int .i64 b.row]] W fun e w' =>e= .returned (.bool (aU a b))∧ ∃ q os',w' =grow (W.drewN q) os' :=by
 go_enter Tryz.func46,Tryz.ntmps46
 go_wp2
 all_goals
  rename_i h
  go_ret
  refine ⟨?_,0,_,by rw [alloc_eq_grow,alloc_eq_grow,grow_grow];rfl⟩
  first
   |(congr 2;simp_all [aU];done)
   |(congr 2;simp only [aU];simp;omega)
def Lays (W w' :World):Prop:= ∃ q os',w' =grow (W.drewN q) os'
theorem Lays.refl (W:World):Lays W W:=⟨0,#[],by simp [grow,World.drewN]⟩
theorem Lays.alloc {W X:World} (h:Lays W X) (o:Obj):Lays W (X.alloc o):=by
 obtain ⟨q,os,rfl⟩:=h
 refine ⟨q,os.push o,?_⟩
 show ({ W with heap:=(W.heap++os).push o,drawn:=W.drawn+q }:World)={ W with heap:=W.heap++os.push o,drawn:=W.drawn+q }
 rw [Array.append_push]
theorem Lays.grow {W X:World} (h:Lays W X) (q2:Nat) (os2:Array Obj):Lays W (Go.Sort.grow (X.drewN q2) os2):=by
 obtain ⟨q,os,rfl⟩:=h
 refine ⟨q+q2,os++os2,?_⟩
 show ({ W with heap:=(W.heap++os)++os2,drawn:=W.drawn+q+q2 }:World)={ W with heap:=W.heap++(os++os2),drawn:=W.drawn+(q+q2) }
 rw [Array.append_assoc,SN]
set_option maxHeartbeats 1000000 in
theorem Tryz.orderX (a b:Rf) (W:World):Calls Tryz.prog 155 #[.agg #[.int .i64 a.col,.int .i64 a.row],.agg #[.int .i64 b.col,.int .i64 b.row]] W fun e w' =>e= .returned (.int .i64 (kG a b))∧ ∃ q os',w' =grow (W.drewN q) os' :=by
 unfold kG
 have c1: ∀ q os,(grow (((W.alloc (Obj.cells #[Value.int IntKind.i64 a.col,Value.int IntKind.i64 a.row] 50)).alloc (Obj.cells #[Value.int IntKind.i64 b.col,Value.int IntKind.i64 b.row] 50)).drewN q) os).cell? ⟨W.heap.size,0,none⟩=some (.int .i64 a.col):=fun q os=>by
  refine cell_grown (by show W.heap.size<((W.heap.push _).push _).size;rw [SI,SI];omega) ?_ q os
  have e: ∀ o1 o2:Obj,((W.alloc o1).alloc o2).heap[W.heap.size]? =some o1:=fun o1 o2=>by
   show ((W.heap.push o1).push o2)[W.heap.size]? =_
   rw [SV,if_neg (by rw [SI];omega),SV,if_pos rfl]
  simp only [World.cell?,e]
  rfl
 have c2: ∀ q os,(grow (((W.alloc (Obj.cells #[Value.int IntKind.i64 a.col,Value.int IntKind.i64 a.row] 50)).alloc (Obj.cells #[Value.int IntKind.i64 b.col,Value.int IntKind.i64 b.row] 50)).drewN q) os).cell? ⟨W.heap.size,1,none⟩=some (.int .i64 a.row):=fun q os=>by
  refine cell_grown (by show W.heap.size<((W.heap.push _).push _).size;rw [SI,SI];omega) ?_ q os
  have e: ∀ o1 o2:Obj,((W.alloc o1).alloc o2).heap[W.heap.size]? =some o1:=fun o1 o2=>by
   show ((W.heap.push o1).push o2)[W.heap.size]? =_
   rw [SV,if_neg (by rw [SI];omega),SV,if_pos rfl]
  simp only [World.cell?,e]
  rfl
 have c3: ∀ q os,(grow (((W.alloc (Obj.cells #[Value.int IntKind.i64 a.col,Value.int IntKind.i64 a.row] 50)).alloc (Obj.cells #[Value.int IntKind.i64 b.col,Value.int IntKind.i64 b.row] 50)).drewN q) os).cell? ⟨W.heap.size+1,0,none⟩=some (.int .i64 b.col):=fun q os=>by
  refine cell_grown (by show W.heap.size+1<((W.heap.push _).push _).size;rw [SI,SI];omega) ?_ q os
  have e: ∀ o1 o2:Obj,((W.alloc o1).alloc o2).heap[W.heap.size+1]? =some o2:=fun o1 o2=>by
   show ((W.heap.push o1).push o2)[W.heap.size+1]? =_
   rw [SV,if_pos (by rw [SI])]
  simp only [World.cell?,e]
  rfl
 have c4: ∀ q os,(grow (((W.alloc (Obj.cells #[Value.int IntKind.i64 a.col,Value.int IntKind.i64 a.row] 50)).alloc (Obj.cells #[Value.int IntKind.i64 b.col,Value.int IntKind.i64 b.row] 50)).drewN q) os).cell? ⟨W.heap.size+1,1,none⟩=some (.int .i64 b.row):=fun q os=>by
  refine cell_grown (by show W.heap.size+1<((W.heap.push _).push _).size;rw [SI,SI];omega) ?_ q os
  have e: ∀ o1 o2:Obj,((W.alloc o1).alloc o2).heap[W.heap.size+1]? =some o2:=fun o1 o2=>by
   show ((W.heap.push o1).push o2)[W.heap.size+1]? =_
   rw [SV,if_pos (by rw [SI])]
  simp only [World.cell?,e]
  rfl
 go_enter Tryz.func155,Tryz.ntmps155
 go_wp2_with (go_at_call 46;refine (Tryz.lessX _ _ _).mono ?_;rintro e w' ⟨rfl,q,os,rfl⟩)
 all_goals
  go_ret
  exact ⟨rfl,by first|exact (((Lays.refl W).alloc _).alloc _).grow _ _|exact ((((Lays.refl W).alloc _).alloc _).grow _ _).grow _ _⟩
end Go.Proofs
namespace Go.SL
open Go Go.Proofs
attribute [local irreducible] W WL WQ WG WA VOp thn blk aV aK FnIn
theorem Dh {v:Vl} (h:o8 v=0) (hk:v.kind=4):1≤v.num∧v.num≤6:=by
 simp only [o8,uq,hk] at h
 cases h1:(decide (v.text=av) && decide (1≤v.num) && decide (v.num≤6))
 ·
  simp [h1] at h
 ·
  simp only [QZ,decide_eq_true_eq] at h1
  exact ⟨h1.1.2,h1.2⟩
set_option maxRecDepth 10000 in
theorem E9 (v:Vl) (hn: -9223372036854775808≤v.num) (w:World):ay Tryz.prog 349 [.agg (dA v).toArray] w (.bool (Gb v)):=by
 refine aq Tryz.func349 rfl Tryz.ntmps349 rfl ?_
 have hE:=Dh (v:=v)
 repeat' (first|(apply aa;exact rfl;exact rfl;(intro w hm;exact xD v hn w))|refine sT ?_|refine sM fun _=> ?_|(refine sC ?_ ?_<;>intro hb<;>try omega)|fail)
 all_goals ((refine rT1 ?_);unfold Gb;(try have hE' :=hE (by assumption) (by assumption));(repeat' split)<;>simp_all<;>first|omega|(by_cases h6:v.num=6<;>simp [h6]<;>omega))
theorem Ll (a b:Nd):eqN a b=eqN b a:=by
 rw [Gk,Gk]
 by_cases h:a=b
 ·
  subst h;rfl
 ·
  rw [decide_eq_false h,decide_eq_false fun e=>h e.symm]
theorem iM {w0:World} {s:az} {H:List Blk} {ty t' :TypeId} {x y:Operand} {a b:Nd} (hx:ev s x=some (.agg (bX b).toArray)) (hy:ev s y=some (.agg (bX a).toArray)):VOp Tryz.prog w0 s H (.binOp .eql 293 x y t') ty (.bool (eqN a b)):=by
 rw [Ll]
 exact OY hx hy
def dS (n:Nd):Bool:=iB n && eqN n (cE n)
set_option maxHeartbeats 1000000 in
theorem jt (n:Nd) (hn: -9223372036854775808≤n.v.num) (w:World):ay Tryz.prog 325 [.agg (bX n).toArray] w (.bool (dS n)):=by
 refine aq Tryz.func325 rfl Tryz.ntmps325 rfl ?_
 repeat' (first|(apply aa;exact rfl;exact rfl;(intro w hm;exact E9 n.v hn w))|(apply dO;exact rfl;exact rfl;(intro w hm;exact DT n.rect w))|(apply dO;exact rfl;exact rfl;(intro w hm;exact Po n.rect w))|(apply tP (T:=293) (fun D=> [.int .u8 n.kind,.int .u8 0,.int .i64 0,.string av,.int .i64 0,.int .i64 0,.int .i64 0,.int .i64 0,.int .i64 0,.int .u8 (bif D 5 then n.fn else 0),.int .i64 (bif D 7 then n.n else 0)]) (xs' := [.int .u8 n.kind,.int .u8 0,.int .i64 0,.string av,.int .i64 0,.int .i64 0,.int .i64 0,.int .i64 0,.int .i64 0,.int .u8 n.fn,.int .i64 n.n]);decide+kernel;decide+kernel;(first|exact .hd|exact .tl .hd);exact rfl;(intro D hD;simp only [hD 5 (by decide),hD 7 (by decide),cond_true]))|(apply ak;exact rfl;(first|(apply iM (b:=⟨n.kind,n.v,aL,0,0,0⟩);exact rfl;exact rfl)|(apply iM (b:=⟨n.kind,bD,n.rect,0,0,0⟩);exact rfl;exact rfl)|(apply iM (b:=⟨n.kind,bD,aL,0,0,0⟩);exact rfl;exact rfl)|(apply iM (b:=⟨n.kind,bD,aL,n.op,0,0⟩);exact rfl;exact rfl)|(apply iM (b:=⟨n.kind,bD,aL,0,n.fn,n.n⟩);exact rfl;exact rfl)))|(apply aS;exact rfl;(first|(apply iM (b:=⟨n.kind,n.v,aL,0,0,0⟩);exact rfl;exact rfl)|(apply iM (b:=⟨n.kind,bD,n.rect,0,0,0⟩);exact rfl;exact rfl)|(apply iM (b:=⟨n.kind,bD,aL,0,0,0⟩);exact rfl;exact rfl)|(apply iM (b:=⟨n.kind,bD,aL,n.op,0,0⟩);exact rfl;exact rfl)|(apply iM (b:=⟨n.kind,bD,aL,0,n.fn,n.n⟩);exact rfl;exact rfl)))|refine sT ?_|refine sQ ?_|refine sD ?_|refine sG ?_|refine sM fun _=> ?_|(refine sC ?_ ?_<;>intro hb<;>try omega)|(refine sCQ ?_ ?_<;>intro hb<;>try omega)|fail)
 all_goals ((refine rT1 ?_);((try simp only [← Int.not_lt] at*);simp_all [dS,iB,cE,Kw, -Int.not_lt, -Int.not_le,← Int.not_lt]))
end Go.SL
namespace Go.SL
open Go
theorem ve {p:Pc} {c:Int} (h:bV c=true):cf p c=ko p (upC c):=by
 simp only [bV,SH,QZ,decide_eq_true_eq] at h
 rw [cf,if_pos]
 unfold upC
 split<;>omega
theorem gk {p:Pc} {c:Int} (h:aF c=true):cf p c=fQ p c:=by
 simp only [aF,QZ,decide_eq_true_eq] at h
 exact vg h.1 h.2
theorem lV {p:Pc} {c:Int} (h:bV c=false) (h2:aF c=false):(cf p c).ok=false:=by
 simp only [bV,aF,S9,Sk,decide_eq_false_iff_not] at h h2
 rw [xI (by omega) (by omega) (by omega)]
theorem Eg {p:Pc} (h:p.ok=false) (c:Int):(cf p c).ok=false:=by
 unfold cf
 split
 ·
  simp [ko,h]
 ·
  split
  ·
   simp [fQ,h]
  ·
   rfl
theorem nC: ∀ (l:List Int) {p:Pc},p.ok=false→(l.foldl cf p).ok=false
 | [],_,h=>h
 |c::r,_,h=>nC r (Eg h c)
theorem Ca: ∀ (l:List Int) (p:Pc),(∀ c∈l,bV c=true)→p.m1=0→l.foldl cf p=⟨p.m0+l.length,0,bp l p.v0,p.v1,p.ok⟩
 | [],p,_,h=>by obtain ⟨a,b,c,d,e⟩:=p;simp only at h;subst h;simp [bp]
 |c::r,p,hl,h=>by
  rw [Td,ve (hl c QT),Ca r _ (fun d hd=>hl d (Rc _ hd)) (by simp [ko,h])]
  simp only [ko,h,bp,decide_true,TZ,Rp,Pc.mk.injEq,true_and,and_true]
  refine ⟨by push_cast;omega,?_⟩
  rw [show 26*p.v0+(upC c - 65)+1=26*p.v0+(upC c - 64) by omega]
theorem vX: ∀ (l:List Int) (p:Pc),(∀ c∈l,aF c=true)→0<p.m1→l.foldl cf p=⟨p.m0,p.m1+l.length,p.v0,mz l p.v1,p.ok⟩
 | [],p,_,_=>by obtain ⟨a,b,c,d,e⟩:=p;simp [mz]
 |c::r,p,hl,h=>by
  rw [Td,gk (hl c QT),vX r _ (fun d hd=>hl d (Rc _ hd)) (by simp [fQ];omega)]
  simp only [fQ,h,mz,decide_true,Bool.or_true,TZ,Rp,Pc.mk.injEq,true_and,and_true]
  push_cast;omega
theorem pH: ∀ (l:List Int) (p:Pc),(l.all aF=false)→0<p.m1→(l.foldl cf p).ok=false
 | [],_,h,_=>by simp at h
 |c::r,p,h,hm=>by
  rw [Td]
  cases hd:aF c
  ·
   apply nC
   cases hl:bV c
   ·
    exact lV hl hd
   ·
    rw [ve hl]
    simp only [ko]
    rw [decide_eq_false (by omega)]
    simp
  ·
   rw [Tu,hd,Sy] at h
   apply pH r _ h
   rw [gk hd]
   simp only [fQ];omega
theorem l4: ∀ (l:List Int) {v:Int},(∀ c∈l,bV c=true)→0≤v→(l≠ []∨1≤v)→1≤bp l v
 | [],v,_,_,h=>by rcases h with h|h;exact absurd rfl h;exact h
 |c::r,v,hl,h0,_=>by
  have hc:=hl c QT
  simp only [bV,SH,QZ,decide_eq_true_eq] at hc
  have hu:65≤upC c:=by unfold upC;split<;>omega
  simp only [bp]
  exact l4 r (fun d hd=>hl d (Rc _ hd)) (by omega) (.inr (by omega))
theorem AU: ∀ (l:List Int) {v:Int},(∀ c∈l,aF c=true)→1≤v→1≤mz l v
 | [],_,_,h=>h
 |c::r,v,hl,h=>by
  have hc:=hl c QT
  simp only [aF,QZ,decide_eq_true_eq] at hc
  simp only [mz]
  exact AU r (fun d hd=>hl d (Rc _ hd)) (by omega)
theorem oS {p:Int→Bool}: ∀ {l:List Int} {c:Int},c∈l.takeWhile p→p c=true
 |d::r,c,h=>by
  rw [Tc] at h
  split at h
  ·
   rename_i hp
   rcases Rd.1 h with rfl|h
   ·
    exact hp
   ·
    exact oS h
  ·
   cases h
theorem LY (l:List Int):yq l=cv l:=by
 unfold yq cv
 dsimp only
 generalize ha:l.takeWhile bV=a
 generalize hd:l.dropWhile bV=d
 have hl:l=a++d:=by rw [← ha,← hd,List.takeWhile_append_dropWhile]
 have hal: ∀ c∈a,bV c=true:=fun c hc=>oS (ha ▸ hc)
 have hp:tF l=d.foldl cf ⟨a.length,0,bp a 0,0,true⟩:=by
  rw [tF,hl,TP,Ca a pc0 hal rfl]
  simp [pc0]
 rw [hp]
 cases d with
 |nil=>simp
 |cons c r=>
  have hcl:bV c=false:=by
   cases hq:bV c
   ·
    rfl
   ·
    exfalso
    have hne:l.dropWhile bV≠ []:=by rw [hd];simp
    have:=List.head_dropWhile_not bV hne
    simp only [hd,List.head_cons] at this
    rw [hq] at this;cases this
  rw [Td]
  by_cases ha0:a= []
  ·
   subst ha0
   have:(List.foldl cf (cf ⟨(([]:List Int).length:Int),0,bp [] 0,0,true⟩ c) r).ok=false∨(List.foldl cf (cf ⟨(([]:List Int).length:Int),0,bp [] 0,0,true⟩ c) r).m0=0∨(List.foldl cf (cf ⟨(([]:List Int).length:Int),0,bp [] 0,0,true⟩ c) r).m1=0:=by
    cases hdc:aF c
    ·
     exact .inl (nC r (lV hcl hdc))
    ·
     cases hr:r.all aF
     ·
      left
      apply pH r _ hr
      rw [gk hdc];simp [fQ]
     ·
      right;left
      rw [vX r _ (by simpa using hr) (by rw [gk hdc];simp [fQ])]
      rw [gk hdc];simp [fQ]
   rw [if_pos this,if_pos (show (([]:List Int)= []∨_) from .inl rfl)]
  ·
   have hlen:0<(a.length:Int):=by
    have:=Sx.2 ha0
    omega
   cases hdc:aF c
   ·
    rw [if_pos (.inl (nC r (lV hcl hdc))),if_pos (.inr (.inr (.inr (by simp [hdc]))))]
   ·
    rw [gk hdc]
    by_cases h48:c=48
    ·
     rw [if_pos (.inl (nC r (by simp [fQ,h48]))),if_pos (.inr (.inr (.inl (by simp [h48]))))]
    ·
     cases hr:r.all aF
     ·
      rw [if_pos (.inl (pH r _ hr (by simp [fQ]))),if_pos (.inr (.inr (.inr (by simp [hr]))))]
     ·
      have hr' : ∀ x∈r,aF x=true:=by simpa using hr
      have hp2:List.foldl cf (fQ ⟨a.length,0,bp a 0,0,true⟩ c) r=⟨a.length,1+r.length,bp a 0,mz (c::r) 0,true⟩:=by
       rw [vX r _ hr' (by simp [fQ])]
       simp [fQ,h48,mz]
      rw [hp2,if_neg (c:=(a= []∨_)) (by simp [ha0,h48,hdc,hr])]
      have hd2:=hdc
      simp only [aF,QZ,decide_eq_true_eq] at hd2
      have h1:=l4 a hal (Ss 0) (.inl ha0)
      have h3:1≤mz (c::r) 0:=AU r (v:=min (10*0+(c - 48)) 1025) hr' (by omega)
      generalize mz (c::r) 0=u at h3 ⊢
      split
      ·
       rename_i h
       exfalso
       rcases h with h|h|h
       ·
        cases h
       ·
        exact absurd h (by show ¬ ((a.length:Int)=0);omega)
       ·
        exact absurd h (by show ¬ (1+(r.length:Int)=0);omega)
      ·
       by_cases hb:1024<bp a 0∨1024<u
       ·
        rw [if_pos hb,if_neg]
        simp only [valid,QZ,decide_eq_true_eq]
        omega
       ·
        rw [if_neg hb,if_pos]
        simp only [valid,QZ,decide_eq_true_eq]
        omega
end Go.SL
namespace Go.Proofs
open Go Go.Shelf Go.RowKit Go.Lib Go.Sort Go.SL
def Tryz.sortRf_ren:Go.Shelf.Ren:=⟨fun|6=>154|15=>202|14=>201|28=>252|29=>253|20=>244|21=>245|22=>246|23=>247|24=>248|25=>249|26=>250|27=>251|46=>292|47=>293|48=>294|49=>295|50=>296|57=>329|n=>n,fun|22=>45|24=>50|25=>202|3=>3|39=>196|0=>0|53=>310|55=>33|4=>4|46=>303|45=>302|50=>307|5=>5|9=>9|66=>340|70=>344|76=>370|77=>367|n=>n,fun|n=>n⟩
theorem Tryz.sortRf:Go.Proofs.SlLaysF0.n6 Tryz.prog Tryz.sortRf_ren:={
 mixed:=by kernel_rfl
 f6:=⟨Tryz.f154.name,by decide,Tryz.func154.trans (congrArg some (by kernel_rfl))⟩
 f14:=⟨Tryz.f201.name,by decide,Tryz.func201.trans (congrArg some (by kernel_rfl))⟩
 f15:=Tryz.func202.trans (congrArg some (by kernel_rfl))
 f20:=⟨Tryz.f244.name,by decide,Tryz.func244.trans (congrArg some (by kernel_rfl))⟩
 f21:=⟨Tryz.f245.name,by decide,Tryz.func245.trans (congrArg some (by kernel_rfl))⟩
 f22:=⟨Tryz.f246.name,by decide,Tryz.func246.trans (congrArg some (by kernel_rfl))⟩
 f23:=⟨Tryz.f247.name,by decide,Tryz.func247.trans (congrArg some (by kernel_rfl))⟩
 f24:=⟨Tryz.f248.name,by decide,Tryz.func248.trans (congrArg some (by kernel_rfl))⟩
 f25:=⟨Tryz.f249.name,by decide,Tryz.func249.trans (congrArg some (by kernel_rfl))⟩
 f26:=⟨Tryz.f250.name,by decide,Tryz.func250.trans (congrArg some (by kernel_rfl))⟩
 f27:=⟨Tryz.f251.name,by decide,Tryz.func251.trans (congrArg some (by kernel_rfl))⟩
 f28:=Tryz.func252.trans (congrArg some (by kernel_rfl))
 f29:=Tryz.func253.trans (congrArg some (by kernel_rfl))
 f46:=⟨Tryz.f292.name,by decide,Tryz.func292.trans (congrArg some (by kernel_rfl))⟩
 f47:=Tryz.func293.trans (congrArg some (by kernel_rfl))
 f48:=Tryz.func294.trans (congrArg some (by kernel_rfl))
 f49:=⟨Tryz.f295.name,by decide,Tryz.func295.trans (congrArg some (by kernel_rfl))⟩
 f50:=⟨Tryz.f296.name,by decide,Tryz.func296.trans (congrArg some (by kernel_rfl))⟩
 f57:=⟨Tryz.f329.name,by decide,Tryz.func329.trans (congrArg some (by kernel_rfl))⟩
 t0:=Tryz.underlying0
 a0:=Tryz.isAgg0
 z0:=Tryz.sizeOf0
 v0:=Tryz.zeroValue0
 t3:=Tryz.underlying3
 a3:=Tryz.isAgg3
 z3:=Tryz.sizeOf3
 v3:=Tryz.zeroValue3
 t4:=Tryz.underlying4
 a4:=Tryz.isAgg4
 z4:=Tryz.sizeOf4
 v4:=Tryz.zeroValue4
 t5:=Tryz.underlying5
 a5:=Tryz.isAgg5
 z5:=Tryz.sizeOf5
 v5:=Tryz.zeroValue5
 t9:=Tryz.underlying9
 a9:=Tryz.isAgg9
 z9:=Tryz.sizeOf9
 v9:=Tryz.zeroValue9
 t22:=Tryz.underlying45
 a22:=Tryz.isAgg45
 z22:=Tryz.sizeOf45
 v22:=Tryz.zeroValue45
 t25:=Tryz.underlying202
 a25:=Tryz.isAgg202
 z25:=Tryz.sizeOf202
 v25:=Tryz.zeroValue202
 t39:=Tryz.underlying196
 a39:=Tryz.isAgg196
 z39:=Tryz.sizeOf196
 v39:=Tryz.zeroValue196
 t45:=Tryz.underlying302
 a45:=Tryz.isAgg302
 z45:=Tryz.sizeOf302
 v45:=Tryz.zeroValue302
 t46:=Tryz.underlying303
 a46:=Tryz.isAgg303
 z46:=Tryz.sizeOf303
 v46:=Tryz.zeroValue303
 t50:=Tryz.underlying307
 a50:=Tryz.isAgg307
 z50:=Tryz.sizeOf307
 v50:=Tryz.zeroValue307
 t53:=Tryz.underlying310
 a53:=Tryz.isAgg310
 z53:=Tryz.sizeOf310
 v53:=Tryz.zeroValue310
 t55:=Tryz.underlying33
 a55:=Tryz.isAgg33
 z55:=Tryz.sizeOf33
 v55:=Tryz.zeroValue33
 t66:=Tryz.underlying340
 a66:=Tryz.isAgg340
 z66:=Tryz.sizeOf340
 v66:=Tryz.zeroValue340
 t70:=Tryz.underlying344
 a70:=Tryz.isAgg344
 z70:=Tryz.sizeOf344
 v70:=Tryz.zeroValue344
 t76:=Tryz.underlying370
 a76:=Tryz.isAgg370
 z76:=Tryz.sizeOf370
 v76:=Tryz.zeroValue370
 t77:=Tryz.underlying367
 a77:=Tryz.isAgg367
 z77:=Tryz.sizeOf367
 v77:=Tryz.zeroValue367 }
theorem iz (x y:Rf):ltOf kG x y=aU x y:=by
 unfold ltOf kG
 cases h1:aU x y<;>cases h2:aU y x<;>simp
theorem Qh:SWO (ltOf kG):={
 irrefl x:=by rw [iz];simp [aU]
 trans x y z h1 h2:=by rw [iz] at*;simp [aU] at*;omega
 ntrans x y z h1 h2:=by rw [iz] at*;simp [aU] at*;omega }
theorem Om (x y:Rf) (h1:ltOf kG x y=false) (h2:ltOf kG y x=false):x=y:=by
 rw [iz] at h1 h2
 obtain ⟨a,b⟩:=x
 obtain ⟨c,d⟩:=y
 simp [aU] at h1 h2
 simp
 omega
instance:Inhabited Rf:=⟨⟨0,0⟩⟩
theorem Tryz.sortRf_calls (blk off cap:Nat) (d:Array Rf) (w:World) (hH:HoldsK bh 2 w blk off d) (hblk:blk<w.heap.size) (hsz:d.size<4611686018427387904):
  Calls Tryz.prog 154 #[.slice (some ⟨blk,off,none⟩) d.size cap,.func (.func 155) #[] #[]] w fun e w' =>
   e= .returned (.tuple #[])∧ ∃ n os,w' =sortWorldK bh 2 w blk off n (d.toList.mergeSort fun x y=> !(ltOf kG) y x).toArray os:=by
 have eg: ∀ args w,(callFunc 155 args).run Tryz.prog w= .ok (.enter 155 args) w:=enters_of Tryz.func155 (by kernel_rfl) rfl
 exact AnyQ.slices_SortFunc_total Tryz.sortRf 2 (fun w=>by have h:=Tryz.underlying50;show (isAgg 50).run _ w=_;simp [isAgg,run_underlying h]) (fun w=>by obtain ⟨i,h1,h2⟩:=(inferInstance:Size Tryz.prog 50 2).out;show (Go.sizeOf 50).run _ w=_;simp [Go.sizeOf,typeInfo,h1,h2]) bh (fun _=>rfl) (fun x v hv=>by simp [bh] at hv;rcases hv with rfl|rfl<;>rfl) kG Qh 155 #[] blk off cap d w eg (fun _ _ _ _ x y=>Tryz.orderX x y _) hH hblk hsz Om
end Go.Proofs
namespace Go.SL
open Go Go.Proofs Go.Sort Go.Shelf
def sortRf (L:List Rf):List Rf:=L.mergeSort fun x y=> !(aU y x)
theorem Ce (L:List Rf) (j:Nat) (h:j<L.length*2):(L.flatMap bh)[j]? =some ((flatK bh 2 L.toArray)[j]!):=by
 rw [get_flatK _ _ _ _ (by simpa using h)]
 have h1:j / 2<L.length:=by omega
 have h2:j % 2<2:=Nat.mod_lt _ (by omega)
 have h3:=oo lG L (j / 2) (j % 2) h1 h2
 rw [show j / 2*2+j % 2=j by omega] at h3
 rw [h3]
 have h4:L.toArray[j / 2]! =L[j / 2]:=by simp [h1]
 rw [h4,QQ (by rw [lG];exact h2)]
 congr 1
 rw [getElem!_pos _ _ (by rw [lG];exact h2)]
theorem DF (w:World) (g n:Nat) (d:Array Rf) (os:Array Obj):w.grownBy (sortWorldK bh 2 w g 0 n d os) (some g):={
 os:=rfl
 tape:=rfl
 output:=rfl
 size:=by
  show w.heap.size≤((w.heap.modify g _)++os).size
  rw [Array.size_append,TC]
  omega
 block k hk hne:=by
  show ((w.heap.modify g _)++os)[k]? =_
  rw [Sm (by rw [TC];exact hk),Th,if_neg (fun e=>hne (by rw [e]))] }
theorem G9 (w:World) (g n:Nat) (d:Array Rf) (os:Array Obj) (c:Array Value) (T:TypeId) (fr:Nat × Nat) (h:w.heap[g]? =some (.cells c T fr)):
  (sortWorldK bh 2 w g 0 n d os).heap[g]? =some (.cells (putCells id 0 (flatK bh 2 d) c) T fr):=by
 have hlt:g<w.heap.size:=(RI.1 h).1
 show ((w.heap.modify g _)++os)[g]? =_
 rw [Sm (by rw [TC];exact hlt),Th,if_pos rfl,h]
 rfl
theorem HM (L:List Rf) (xs junk:List Value) (hl:xs.length=L.length*2):putCells id 0 (flatK bh 2 L.toArray) (xs++junk).toArray=(L.flatMap bh++junk).toArray:=by
 have hfl:(L.flatMap bh).length=L.length*2:=aP lG L
 apply Array.ext_getElem?
 intro j
 simp only [putCells,Array.getElem?_mapIdx,RV,size_flatK,Tj,QX,true_and,RB,SK]
 by_cases hj:j<L.length*2
 ·
  rw [Sh (by omega),Sh (by omega),Ce L j hj,QQ (by omega)]
  simp [hj]
 ·
  rw [RZ (by omega),RZ (by omega),hl,hfl]
  simp [hj]
theorem AG (L:List Rf) (g cap:Nat) (hL:L.length≤1000000) (R:List Blk) (w0:World):
  FnIn Tryz.prog 154 [sl (some g) L.length cap,.func (.func 155) #[] #[]] w0 (.own (some g) 50 2 L.length cap (L.flatMap bh)::R) fun v H=>v= .tuple #[]∧H= .own (some g) 50 2 L.length cap ((sortRf L).flatMap bh)::R:=by
 intro w hm
 obtain ⟨⟨h1,h2,h3,junk,h4,h5⟩,hk⟩:=hm.on _ QT
 have hlt:g<w.heap.size:=(RI.1 h5).1
 have hH:HoldsK bh 2 w g 0 L.toArray:=by
  intro j hj
  simp only [size_flatK,Tj] at hj
  have hc:(L.flatMap bh++junk).toArray[j]? =some (flatK bh 2 L.toArray)[j]! :=by
   rw [RV,Sh (by omega),Ce L j hj]
  constructor
  ·
   simp only [World.cell?,RB,h5]
   exact hc
  ·
   simp [World.frozen?,h5]
 have hs:=Tryz.sortRf_calls g 0 cap L.toArray w hH hlt (by simp;omega)
 have hsz:L.toArray.size=L.length:=by simp
 rw [hsz] at hs
 refine hs.mono ?_
 rintro e w' ⟨rfl,n,os,rfl⟩
 have hlen:(sortRf L).length=L.length:=by simp [sortRf]
 have heq:(L.toArray.toList.mergeSort fun x y=> !(ltOf kG) y x)=sortRf L:=by
  simp only [sortRf,iz]
 rw [heq]
 refine ⟨_,_,rfl,hm.upd (DF _ _ _ _ _) (b' := .own (some g) 50 2 L.length cap ((sortRf L).flatMap bh)) ?_ fun k hk=> .inl hk,rfl,rfl⟩
 have hfl:((sortRf L).flatMap bh).length=L.length*2:=by rw [aP lG,hlen]
 refine ⟨hfl,h2,h3,junk,by rw [QP,hfl,← h1,← QP];exact h4,?_⟩
 rw [G9 _ _ _ _ _ _ _ _ h5,HM (sortRf L) _ _ (by rw [hlen];exact h1)]
theorem yR (L:List Rf) (A:Option Nat) (cap:Nat) (hL:L.length≤1000000) (R:List Blk) (w0:World):
  FnIn Tryz.prog 154 [sl A L.length cap,.func (.func 155) #[] #[]] w0 (.own A 50 2 L.length cap (L.flatMap bh)::R) fun v H=>v= .tuple #[]∧H= .own A 50 2 L.length cap ((sortRf L).flatMap bh)::R:=by
 cases A with
 |some g=>exact AG L g cap hL R w0
 |none=>
  intro w hm
  obtain ⟨⟨h1,h2,h3,h4⟩,_⟩:=hm.on _ QT
  obtain ⟨h5,h6⟩:=h4
  have hnil:L= []:=SC.1 h5
  subst hnil
  subst h6
  refine Calls.mono (AnyF.slices_SortFunc_none Tryz.sortRf none 0 _ w) ?_
  rintro e w' ⟨rfl,rfl⟩
  exact ⟨_,_,rfl,hm,rfl,by simp [sortRf]⟩
end Go.SL
namespace Go.SL
open Go Go.Proofs
attribute [local irreducible] W WL WQ WG WA WX WLI WR WT VOp RW thn blk bE scp aV bo bI aK FnIn FnP
def pE (a:Rf):Value:= .agg (bh a).toArray
def gB (gg gm:Nat) (es:List (Rf × Value × Nat)) (clock:Nat):List Blk:= [.box gg 199 [.map (some gm)],.obj gm (fg pE es clock)]
def vW (es:List (Rf × Value × Nat)):List Rf:=sortRf (es.map fun e=>e.1)
theorem su {L M:List Rf} (h:L.Perm M):sortRf L=sortRf M:=by
 have hp: ∀ L:List Rf,(sortRf L).Pairwise fun x y=>(!(aU y x))=true:=fun L=>
  List.pairwise_mergeSort (le:=fun x y=> !(aU y x)) (fun a b c h1 h2=>by simp [aU] at*;omega) (fun a b=>by simp [aU];omega) L
 refine List.Perm.eq_of_pairwise (fun a b _ _ h1 h2=> ?_) (hp L) (hp M) (((List.mergeSort_perm L _).trans h).trans (List.mergeSort_perm M _).symm)
 exact Om a b (by rw [iz];simpa using h2) (by rw [iz];simpa using h1)
set_option maxHeartbeats 1000000 in
theorem CW (gg gm clock:Nat) (es:List (Rf × Value × Nat)) (hok:MapOk es clock) (hlen:es.length≤1000000) (R:List Blk) (w0:World):
  FnIn Tryz.prog 123 [.pointer (some ⟨gg,0,none⟩)] w0 (gB gg gm es clock++R) fun v H=> ∃ A cap,v=sl A es.length cap∧H= .own A 50 2 es.length cap ((vW es).flatMap bh)::(gB gg gm es clock++R):=by
 refine dD Tryz.func123 rfl Tryz.ntmps123 rfl ?_
 refine aH 50 2 ?_
 repeat' (first|(apply ak;exact rfl;apply ib;exact rfl)|(apply yD (enc:=pE);exact rfl;exact rfl;exact pK;intro gi)|refine sT ?_|refine sS ?_|refine sM fun _=> ?_|(refine sC ?_ ?_<;>intro hb<;>try omega)|fail)
 refine ax [11] rfl (fun x:List (Rf × Value × Nat) × Option Nat × Nat=> [(3,sl x.2.1 x.1.length x.2.2)]) (fun x=> .obj gi (oT gm clock (x.1.map fun e=>e.2.2)):: .own x.2.1 50 2 x.1.length x.2.2 ((x.1.map fun e=>e.1).flatMap bh)::(gB gg gm es clock++R)) (fun x=>Vis es x.1) (fun x=>es.length - x.1.length) ([],none,0) (Vis.nil es) sB (.refl _) ?_
 rintro ⟨vis,A,cap⟩ hv
 dsimp only at hv ⊢
 have hvl:=hv.len
 have hml:(vis.map fun e=>e.1).length=vis.length:=RN _
 have hS:=fun R' =>yR (vis.map fun e=>e.1) A cap (by omega) R' w0
 rw [hml] at hS
 repeat' (first|(apply zS (enc:=pE);exact rfl;exact rfl;exact pK;exact pK;exact hok;intro e he hne)|(intro hall)|(apply ak;exact rfl;apply MF (enc:=pE);exact rfl;exact pK;exact pK;exact he;exact hok)|(apply bR;(iterate 3 exact rfl);(repeat first|exact .hd|apply Sel.tl|apply In.tl);(intro w hm;exact hm.cells_own (by (repeat first|exact .hd|apply Sel.tl|apply In.tl)));exact rfl;(simp [Value.oneCell',sl]);omega;(simp only [maxLen];omega);(intro A2 cap2 hA2))|(apply aw (f:=154);exact rfl;exact rfl;exact FnIn.msub (hS _) (MSub.pick pK (MSub.refl _));rintro _ _ ⟨rfl,rfl⟩)|refine sT ?_|refine sS ?_|refine sM fun _=> ?_|(refine sC ?_ ?_<;>intro hb<;>try omega)|fail)
 ·
  refine ⟨(vis++ [e],A2,cap2),hv.step he hne,?_,?_,sB,?_⟩
  ·
   have:=hv.lt he hne
   simp only [QP,QS]
   omega
  ·
   simp only [QP,QS]
   exact sB
  ·
   simp only [RX,Rz,Sl,QP,QS,Rm,Rj,RC,QW]
   exact mS
 ·
  have hperm:=hv.perm hok hall
  have hl:vis.length=es.length:=hperm.length_eq
  have hf:vW es=sortRf (vis.map fun e=>e.1):=su (hperm.symm.map _)
  refine cH eIO rfl rfl (H' := .own A 50 2 es.length cap ((vW es).flatMap bh)::(gB gg gm es clock++R)) ?_ ⟨A,cap,by rw [hl],rfl⟩
  rw [hf,← hl]
  exact mS
end Go.SL
