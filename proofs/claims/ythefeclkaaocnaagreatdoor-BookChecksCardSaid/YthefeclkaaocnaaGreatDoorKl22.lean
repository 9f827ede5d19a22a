/-
  Lemmas and walks, put together: R1 R2 R3 R4 R5.
-/
import Derived.Laws.Bits64
import Derived.Test.YthefeclkaaocnaaGreatDoorKl19
import Derived.Test.YthefeclkaaocnaaGreatDoorKl20
set_option linter.unusedSimpArgs false
set_option linter.unusedVariables false
set_option maxRecDepth 20000
namespace Go.SL
open Go Go.Proofs
attribute [local irreducible] W WL WQ WG WA WX WLI WR WT WC VOp RW thn blk bS scp bq bF cj aS FnIn FnP ceP
section
variable {w0:World} {s:az} {H:List Blk} {ty t' :TypeId} {x y:Operand}
theorem Dp {a b:Vl} {c:Bool} (h:decide (a=b)=c) (hx:ev s x=some (.agg (cY a).toArray)) (hy:ev s y=some (.agg (cY b).toArray)):VOp Tryz.prog w0 s H (.binOp .eql 172 x y t') ty (.bool c):=by
 have h1:=zX (w0:=w0) (H:=H) (ty:=ty) (t' :=t') hx hy
 rwa [CP,h] at h1
theorem Dq {a b:Rct} {c:Bool} (h:decide (a=b)=c) (hx:ev s x=some (.agg (bO a).toArray)) (hy:ev s y=some (.agg (bO b).toArray)):VOp Tryz.prog w0 s H (.binOp .eql 33 x y t') ty (.bool c):=by
 have h1:=JY (w0:=w0) (H:=H) (ty:=ty) (t' :=t') hx hy
 rwa [CQ,h] at h1
theorem lL {a b:Rct} {c:Bool} (h:decide (a=b)=c) (hx:ev s x=some (.agg (bO a).toArray)) (hy:ev s y=some (.agg (bO b).toArray)):VOp Tryz.prog w0 s H (.binOp .neq 33 x y t') ty (.bool (!c)):=by
 have h1:=JT (w0:=w0) (H:=H) (ty:=ty) (t' :=t') hx hy
 rwa [CQ,h] at h1
theorem lM {a b:Rf} {c:Bool} (h:decide (a=b)=c) (hx:ev s x=some (.agg (cB a).toArray)) (hy:ev s y=some (.agg (cB b).toArray)):VOp Tryz.prog w0 s H (.binOp .eql 51 x y t') ty (.bool c):=by
 have h1:=Ff (w0:=w0) (H:=H) (ty:=ty) (t' :=t') hx hy
 rwa [CT,h] at h1
end
theorem AH (a b:Rf) (w:World):ay Tryz.prog 158 [.agg (cB a).toArray,.agg (cB b).toArray] w (.bool (fj a b)):=by
 refine aq Tryz.func158 rfl Tryz.ntmps158 rfl ?_
 repeat' (first|refine sT ?_|refine sM fun _=> ?_|(refine sC ?_ ?_<;>intro hb<;>try omega)|fail)
 all_goals ((refine rT1 ?_);((try simp only [← Int.not_lt] at*);simp_all [fj, -Int.not_lt, -Int.not_le,← Int.not_lt]))
theorem gy (a:Rf) (w:World):ay Tryz.prog 338 [.agg (cB a).toArray] w (.agg (bO (II a.col a.row)).toArray):=by
 refine aq Tryz.func338 rfl Tryz.ntmps338 rfl ?_
 repeat' (first|refine sT ?_|refine sM fun _=> ?_|(refine sC ?_ ?_<;>intro hb<;>try omega)|fail)
 all_goals ((refine eRC ?_);rfl)
theorem gT {a:ByteArray} {i:Nat} (h:a.size≤i):bat a i=0:=by
 rw [bat,LW,ML (by rw [au];exact h)];rfl
theorem kY (a:ByteArray) (ha:a.size≤1000000) (i:Nat) (w:World):ay Tryz.prog 317 [.string a,.int .i64 (i:Int)] w (.bool (aC (bat a i))):=by
 refine aq Tryz.func317 rfl Tryz.ntmps317 rfl ?_
 have h0:=fun h:a.size≤i=>gT h
 generalize hc:bat a i=c at h0
 repeat' (first|(apply ak;exact rfl;apply aU (j:=i);exact rfl;exact rfl;omega)|(rw [hc])|refine sT ?_|refine sT2 ?_|refine sM fun _=> ?_|(refine sC ?_ ?_<;>intro hb<;>try omega)|fail)
 all_goals ((refine rT1 ?_);(try rw [h0 (by omega)]);simp_all [aC];try omega)
theorem kr (a:ByteArray) (ha:a.size≤1000000) (i:Nat) (w:World):ay Tryz.prog 320 [.string a,.int .i64 (i:Int)] w (.bool (bH (bat a i))):=by
 refine aq Tryz.func320 rfl Tryz.ntmps320 rfl ?_
 have h0:=fun h:a.size≤i=>gT h
 generalize hc:bat a i=c at h0
 repeat' (first|(apply ak;exact rfl;apply aU (j:=i);exact rfl;exact rfl;omega)|(rw [hc])|refine sT ?_|refine sT2 ?_|refine sM fun _=> ?_|(refine sC ?_ ?_<;>intro hb<;>try omega)|fail)
 all_goals ((refine rT1 ?_);(try rw [h0 (by omega)]);simp_all [bH];try omega)
def yC (c:Int):Int:=if bH c then upC c - 64 else 0
theorem mK (c:Int) (h0:0≤c) (h1:c<256) (w:World):ay Tryz.prog 365 [.int .u8 c] w (.int .i64 (yC c)):=by
 refine aq Tryz.func365 rfl Tryz.ntmps365 rfl ?_
 repeat' (first|(apply ak (d:=10);exact rfl;apply df (c:=c - 65);exact rfl;exact rfl;exact dQ (by omega) (by omega))|(apply ak (d:=20);exact rfl;apply df (c:=c - 97);exact rfl;exact rfl;exact dQ (by omega) (by omega))|(apply ak (d:=11);exact rfl;apply bJ (c:=c - 65);exact rfl;exact I64.wrap ⟨by omega,by omega⟩)|(apply ak (d:=21);exact rfl;apply bJ (c:=c - 97);exact rfl;exact I64.wrap ⟨by omega,by omega⟩)|(apply ak (d:=12);exact rfl;apply dZ;exact rfl;exact rfl;exact ⟨by omega,by omega⟩)|(apply ak (d:=22);exact rfl;apply dZ;exact rfl;exact rfl;exact ⟨by omega,by omega⟩)|refine sT ?_|refine sM fun _=> ?_|(refine sC ?_ ?_<;>intro hb<;>try omega)|fail)
 all_goals
  (refine rT1 ?_)
  unfold yC upC
  first
   |(rw [if_pos ((fT c).2 (by omega)),if_pos (by omega)];congr 1;omega)
   |(rw [if_pos ((fT c).2 (by omega)),if_neg (by omega)];congr 1;omega)
   |(rw [if_neg (by rw [fT];omega)])
set_option maxHeartbeats 1000000 in
theorem jb (a:ByteArray) (ha:a.size≤1000000) (w:World):ay Tryz.prog 249 [.string a] w (.string (upB a)):=by
 refine aq Tryz.func249 rfl Tryz.ntmps249 rfl ?_
 repeat' (first|(apply j0;exact rfl;exact rfl;intro gb cap)|refine sT ?_|refine sM fun _=> ?_|(refine sC ?_ ?_<;>intro hb<;>try omega)|fail)
 refine ax [3] rfl (fun i:Nat=> [(4,.int .i64 (i:Int))]) (fun i=> [.byt gb 5 a.size cap ((((ap a).take i).map upC++(ap a).drop i).map (Value.int .u8))]) (fun i=>i≤a.size) (fun i=>a.size - i) 0 (by omega) sB ?_ ?_
 ·
  rw [lV];simp only [M0,MX,LG,MP];exact mS
 intro i hi
 have hl:=au a
 by_cases hlt:i<a.size
 ·
  have hil:i<(ap a).length:=by omega
  have hok:=kC a (ap a)[i] (Mw hil)
  have hget:((((ap a).take i).map upC++(ap a).drop i).map (Value.int .u8))[0+i*1]? =some (.int .u8 (ap a)[i]):=by
   rw [MD,show 0+i*1=i by omega,MC (by simp;omega)]
   simp [Nf (Nat.le_of_lt hil),MQ]
  have hstep:97≤(ap a)[i]∧(ap a)[i]≤122→upC (ap a)[i]=(ap a)[i] - 32:=fun h=>by rw [upC,if_pos h]
  have hsame: ¬ (97≤(ap a)[i]∧(ap a)[i]≤122)→upC (ap a)[i]=(ap a)[i]:=fun h=>by rw [upC,if_neg h]
  have hupd:=qQ upC (Value.int .u8) (ap a) i hil
  have hkeep: ∀ v,(((ap a).take i).map upC++(ap a).drop i).map (Value.int .u8)=v→upC (ap a)[i]=(ap a)[i]→v=(((ap a).take (i+1)).map upC++(ap a).drop (i+1)).map (Value.int .u8):=fun v hv hs=>by
   rw [← hupd,hs,← hv]
   rw [show 0+i*1=i by omega] at hget
   obtain ⟨h1,h2⟩:=LV.1 hget
   rw [← h2,List.set_getElem_self]
  generalize (ap a)[i]=c at hget hok hstep hsame hupd hkeep
  repeat' (first|(apply ak;exact rfl;apply aj;exact rfl;exact rfl;exact hlt)|(apply ak;exact rfl;apply iO;exact rfl;exact pK;exact hget)|(apply ak (d:=31);exact rfl;apply df (c:=c - 32);exact rfl;exact rfl;exact dQ (by omega) (by omega))|(apply j5;exact rfl;exact rfl;exact pK;exact rfl;(simp;omega))|refine sT ?_|refine sS ?_|refine sW ?_|refine sN ?_|refine sWN ?_|refine sM fun _=> ?_|(refine sC ?_ ?_<;>intro hb<;>try omega)|(refine sCW ?_ ?_<;>intro hb<;>try omega)|fail)
  ·
   rw [show 0+i*1=i by omega,← hstep ⟨by assumption,by assumption⟩,hupd]
   exact ⟨i+1,hlt,by omega,sB,sB,mS⟩
  ·
   exact ⟨i+1,hlt,by omega,sB,sB,(by rw [← hkeep _ rfl (hsame (by omega))];exact mS)⟩
  ·
   exact ⟨i+1,hlt,by omega,sB,sB,(by rw [← hkeep _ rfl (hsame (by omega))];exact mS)⟩
 ·
  have e2:i=a.size:=by omega
  subst e2
  rw [Mm (by omega),L6 (by omega),LN]
  repeat' (first|(apply ak (d:=34);exact rfl;apply oM;exact rfl;exact pK;(rw [MF];omega))|refine sT ?_|refine sS ?_|refine sM fun _=> ?_|(refine sC ?_ ?_<;>intro hb<;>try omega)|fail)
  (refine rT1 ?_)
  rfl
theorem xM (b:Bool) (w:World):ay Tryz.prog 250 [.bool b] w (.agg (cY (kf b)).toArray):=by
 refine aq Tryz.func250 rfl Tryz.ntmps250 rfl ?_
 repeat' (first|refine sT ?_|refine sM fun _=> ?_|(refine sC ?_ ?_<;>intro hb<;>try omega)|fail)
 all_goals ((refine eRC ?_);simp_all [kf,cY,av])
theorem mL (c:Int) (w:World):ay Tryz.prog 252 [.int .i64 c] w (.agg (cY (fk c)).toArray):=by
 refine aq Tryz.func252 rfl Tryz.ntmps252 rfl ?_
 repeat' (first|refine sT ?_|refine sM fun _=> ?_|(refine sC ?_ ?_<;>intro hb<;>try omega)|fail)
 all_goals ((refine eRC ?_);simp only [fk];(first|rw [if_pos (by omega)]|rw [if_neg (by omega)]);rfl)
theorem AG (n:Int) (h: -9223372036854775808≤n) (w:World):ay Tryz.prog 254 [.int .i64 n] w (.agg (cY (rJ n)).toArray):=by
 refine aq Tryz.func254 rfl Tryz.ntmps254 rfl ?_
 have hf: ∀ w,ay Tryz.prog 252 [.int .i64 3] w (.agg #[.int .u8 4,.int .i64 3,.string av]):=fun w=>mL 3 w
 repeat' (first|(apply aa;exact rfl;exact rfl;(intro w hm;exact hf w))|refine sT ?_|refine sM fun _=> ?_|(refine sC ?_ ?_<;>intro hb<;>try omega)|fail)
 ·
  (refine eRC ?_)
  rw [rJ,if_pos (by omega)];rfl
 ·
  (refine eRC ?_)
  rw [rJ,if_neg (by omega)];rfl
def IZ (c:Int):ByteArray:=if 1≤c∧c≤7 then bZ.getD c.toNat av else av
theorem uw (c:Int) (w:World):ay Tryz.prog 294 [.int .i64 c] w (.string (IZ c)):=by
 refine aq Tryz.func294 rfl Tryz.ntmps294 rfl ?_
 repeat' (first|refine sT ?_|refine sS ?_|refine sM fun _=> ?_|(refine sC ?_ ?_<;>intro hb<;>try omega)|fail)
 all_goals first
  |((refine rT1 ?_);subst_vars;rfl)
  |((refine rT1 ?_);rw [IZ,if_neg (by omega)];rfl)
theorem AL (a:ByteArray) (ha:a.size≤1000000) (w:World):ay Tryz.prog 251 [.string a] w (.tuple #[.int .i64 (f4 a).1,.int .i64 (f4 a).2]):=by
  refine aq Tryz.func251 rfl Tryz.ntmps251 rfl ?_
  have hU:=fun w=>jb a ha w
  unfold f4
  generalize upB a=u at hU
  obtain ⟨X,hX⟩: ∃ X,gZ u (bZ.drop 1) 1=X:=⟨_,rfl⟩
  rw [hX]
  repeat' (first|refine sT ?_|refine sS ?_|refine sM fun _=> ?_|(refine sC ?_ ?_<;>intro hb<;>try omega)|fail)
  refine ax [0,2,3] rfl (fun i:Nat=> [(4,.int .i64 ((i:Int)+1))]) (fun _=> []) (fun i=>i≤7∧X=gZ u (bZ.drop (i+1)) ((i:Int)+1)) (fun i=>7 - i) 0 ⟨by omega,hX.symm⟩ sB (.refl _) ?_
  rintro i ⟨hi,hc⟩
  by_cases hlt:i<7
  · rw [ph (by omega),gZ] at hc
    have hN: ∀ w,ay Tryz.prog 294 [.int .i64 ((i:Int)+1)] w (.string (bZ.getD (i+1) av)):=fun w=>by
      have:=uw ((i:Int)+1) w
      rw [IZ,if_pos (by omega)] at this
      exact this
    generalize bZ.getD (i+1) av=x at hN hc
    repeat' (first|(apply aa (f:=294);exact rfl;exact rfl;(intro w' hm;exact hN w'))|(apply aa;exact rfl;exact rfl;(intro w hm;exact hU w))|refine sT ?_|refine sS ?_|refine sJ ?_|refine sM fun _=> ?_|(refine sC ?_ ?_<;>intro hb<;>try omega)|fail)
    all_goals first
      |(refine ic eIO rfl rfl rfl (.nil _) ?_;rw [hc,if_pos (by assumption)];done)
      | (refine ⟨i + 1, ⟨by omega, ?_⟩, by omega, ?_, ?_, .nil _⟩
         · rw [hc,if_neg (by assumption)];rfl
         · exact sB
         · exact sB)
  · have e:i=7:=by omega
    subst e
    repeat' (first|refine sT ?_|refine sS ?_|refine sM fun _=> ?_|(refine sC ?_ ?_<;>intro hb<;>try omega)|fail)
    all_goals (refine ic eIO rfl rfl rfl (.nil _) ?_;rw [hc];rfl)
theorem AC (c:Int) (h1:1≤c) (h2:c≤5) (w:World):ay Tryz.prog 339 [.agg (cY ⟨4,c,av⟩).toArray] w (.string (bZ.getD c.toNat av)):=by
 refine aq Tryz.func339 rfl Tryz.ntmps339 rfl ?_
 have he:decide ((⟨4,c,av⟩:Vl)=fk 7)=false:=by rw [← CP];simp [eqV,fk];omega
 have hv:mD ⟨4,c,av⟩=0:=by
  have h6:decide (c≤6)=true:=decide_eq_true (by omega)
  simp [mD,qF,h1,h6]
 have hc:=fun w=>uu ⟨4,c,av⟩ (by dsimp only;omega) w
 rw [hv] at hc
 have hN:=fun w=>uw c w
 rw [show IZ c=bZ.getD c.toNat av from if_pos ⟨h1,by omega⟩] at hN
 repeat' (first|(apply (bK (id:=1) [1] []);kernel_rfl;kernel_rfl;kernel_rfl)|(apply aa;exact rfl;exact rfl;(intro w hm;exact mL 7 w))|(apply dm;(iterate 3 exact rfl);apply Dp (a:=⟨4,c,av⟩) (b:=fk 7) he;exact rfl;exact rfl)|(apply aa;exact rfl;exact rfl;(intro w hm;exact hc w))|(apply aa;exact rfl;exact rfl;(intro w hm;exact hN w))|refine sT ?_|refine sW ?_|refine sM fun _=> ?_|(refine sC ?_ ?_<;>intro hb<;>try omega)|(refine sCW ?_ ?_<;>intro hb<;>try omega)|fail)
 all_goals ((refine rT1 ?_);rfl)
end Go.SL
namespace Go.SL
open Go Go.Proofs Go.RowKit
section
variable {P:Program} {n:Fr} {w0:World} {Q:bI} {s:az} {H:List Blk} {ty:TypeId} {x y:Operand} {k:IntKind} {a b:Int} {t t' :TypeId}
theorem KG (hx:ev s x=some (.int k a)) (hy:ev s y=some (.int k b)) (h:b≠0):VOp P w0 s H (.binOp .quo t x y t') ty (.int k (k.wrap (a.tdiv b))):=fun ρ w _ _ _ _ hρ _=>by
 simp [execOp,hρ x _ hx,hρ y _ hy,eqGuard,binOp,Op.intDiv,h]
theorem kN {c:Int} (hx:ev s x=some (.int k a)) (hy:ev s y=some (.int k b)) (h:b≠0) (hc:k.wrap (a.tdiv b)=c):VOp P w0 s H (.binOp .quo t x y t') ty (.int k c):=hc ▸ KG hx hy h
theorem m7 {c:Int} (hx:ev s x=some (.int k a)) (hy:ev s y=some (.int k b)) (h:b≠0) (hc:a.tmod b=c):VOp P w0 s H (.binOp .rem t x y t') ty (.int k c):=hc ▸ KF hx hy h
theorem fF {c:Int} (hx:ev s x=some (.int k a)) (hy:ev s y=some (.int k b)) (hc:k.wrap (a*b)=c):VOp P w0 s H (.binOp .mul t x y t') ty (.int k c):=hc ▸ zU hx hy
end
attribute [local irreducible] W WL WQ WG WA WX WLI WR WT WC VOp RW thn blk bS scp bq bF cj aS FnIn FnP ceP
def eL (v:Int):List Value:= [.int .u64 (v / 18446744073709551616),.int .u64 (v % 18446744073709551616)]
theorem jF {v:Int} (h0:0≤v) (h:v<18446744073709551616):eL v= [.int .u64 0,.int .u64 v]:=by
 unfold eL
 rw [Int.ediv_eq_zero_of_lt h0 h,Int.emod_eq_of_lt h0 h]
theorem qj (x y:Int) (hx:0≤x) (hy:0≤y) (h:x+y<340282366920938463463374607431768211456) (w:World):ay Tryz.prog 296 [.agg (eL x).toArray,.agg (eL y).toArray] w (.agg (eL (x+y)).toArray):=by
 refine aq Tryz.func296 rfl Tryz.ntmps296 rfl ?_
 obtain ⟨xh,hxh⟩: ∃ z,x / 18446744073709551616=z:=⟨_,rfl⟩
 obtain ⟨xl,hxl⟩: ∃ z,x % 18446744073709551616=z:=⟨_,rfl⟩
 obtain ⟨yh,hyh⟩: ∃ z,y / 18446744073709551616=z:=⟨_,rfl⟩
 obtain ⟨yl,hyl⟩: ∃ z,y % 18446744073709551616=z:=⟨_,rfl⟩
 unfold eL
 rw [hxh,hxl,hyh,hyl]
 obtain ⟨l,hlw⟩: ∃ z,IntKind.u64.wrap (xl+yl)=z:=⟨_,rfl⟩
 obtain ⟨h1,hhw⟩: ∃ z,IntKind.u64.wrap (xh+yh)=z:=⟨_,rfl⟩
 have hl2:=hlw
 have hh2:=hhw
 rw [IntKind.wrap_u64] at hl2 hh2
 have h11:IntKind.u64.wrap (h1+1)=(h1+1) % 18446744073709551616:=IntKind.wrap_u64 _
 repeat' (first|(apply ak (d:=11);exact rfl;apply dA;exact rfl;exact rfl;exact hlw)|(apply ak (d:=16);exact rfl;apply dA;exact rfl;exact rfl;exact hhw)|(apply ak (d:=22);exact rfl;apply dA;exact rfl;exact rfl;exact h11)|refine sT ?_|refine sM fun _=> ?_|(refine sC ?_ ?_<;>intro hb<;>try omega)|fail)
 all_goals
  (refine eRC ?_)
  have e1:(x+y) % 18446744073709551616=l:=by omega
  rw [e1]
  congr 4
  omega
set_option maxHeartbeats 1000000 in
theorem Ah (u:Int) (h0:0≤u) (h1:u<18446744073709551616) (w:World):ay Tryz.prog 297 [.int .u64 u,.int .u64 10] w (.agg (eL (10*u)).toArray):=by
 refine aq Tryz.func297 rfl Tryz.ntmps297 rfl ?_
 obtain ⟨al,hal⟩: ∃ z,u % 4294967296=z:=⟨_,rfl⟩
 obtain ⟨ah,hah⟩: ∃ z,u / 4294967296=z:=⟨_,rfl⟩
 have b1:0≤al∧al<4294967296:=by omega
 have b2:0≤ah∧ah<4294967296:=by omega
 have t1:u.tmod 4294967296=al:=by rw [Int.tmod_eq_emod_of_nonneg h0];exact hal
 have t2:IntKind.u64.wrap (u.tdiv 4294967296)=ah:=by rw [NZ h0,hah,IntKind.wrap_u64];omega
 have t3:(10:Int).tmod 4294967296=10:=by decide
 have t4:IntKind.u64.wrap ((10:Int).tdiv 4294967296)=0:=by decide
 have m1:IntKind.u64.wrap (ah*0)=0:=by rw [Int.mul_zero];decide
 have m2:IntKind.u64.wrap (al*10)=al*10:=by rw [IntKind.wrap_u64];omega
 have m3:IntKind.u64.wrap (ah*10)=ah*10:=by rw [IntKind.wrap_u64];omega
 have q3:IntKind.u64.wrap ((ah*10).tdiv 4294967296)=ah*10 / 4294967296:=by rw [NZ (by omega),IntKind.wrap_u64];omega
 have r3:(ah*10).tmod 4294967296=ah*10 % 4294967296:=Int.tmod_eq_emod_of_nonneg (by omega)
 have m4:IntKind.u64.wrap (ah*10 % 4294967296*4294967296)=ah*10 % 4294967296*4294967296:=by rw [IntKind.wrap_u64];omega
 have m5:IntKind.u64.wrap (al*0)=0:=by rw [Int.mul_zero];decide
 have q5:IntKind.u64.wrap ((0:Int).tdiv 4294967296)=0:=by decide
 have r5:(0:Int).tmod 4294967296=0:=by decide
 have m6:IntKind.u64.wrap ((0:Int)*4294967296)=0:=by decide
 have e1:eL (al*10)= [.int .u64 0,.int .u64 (al*10)]:=jF (by omega) (by omega)
 have e2:eL (ah*10*4294967296)= [.int .u64 (ah*10 / 4294967296),.int .u64 (ah*10 % 4294967296*4294967296)]:=by
  have ea:ah*10*4294967296 / 18446744073709551616=ah*10 / 4294967296:=by omega
  have eb:ah*10*4294967296 % 18446744073709551616=ah*10 % 4294967296*4294967296:=by omega
  rw [eL,ea,eb]
 have e3:eL 0= [.int .u64 0,.int .u64 0]:=jF (by omega) (by omega)
 have p1:=fun w=>qj (al*10) (ah*10*4294967296) (by omega) (by omega) (by omega) w
 have p2:=fun w=>qj (al*10+ah*10*4294967296) 0 (by omega) (by omega) (by omega) w
 rw [e1,e2] at p1
 rw [e3,Int.add_zero] at p2
 have e4:al*10+ah*10*4294967296=10*u:=by omega
 rw [e4] at p1 p2
 have hb: ∀ c:Int,(4294967296:Int)≠0:=fun _=>by decide
 repeat' (first|(apply ak (d:=11);exact rfl;apply m7;exact rfl;exact rfl;exact hb 0;exact t1)|(apply ak (d:=13);exact rfl;apply kN;exact rfl;exact rfl;exact hb 0;exact t2)|(apply ak (d:=15);exact rfl;apply m7;exact rfl;exact rfl;exact hb 0;exact t3)|(apply ak (d:=17);exact rfl;apply kN;exact rfl;exact rfl;exact hb 0;exact t4)|(apply ak (d:=20);exact rfl;apply fF;exact rfl;exact rfl;exact m1)|(apply ak (d:=23);exact rfl;apply fF;exact rfl;exact rfl;exact m2)|(apply ak (d:=28);exact rfl;apply fF;exact rfl;exact rfl;exact m3)|(apply ak (d:=29);exact rfl;apply kN;exact rfl;exact rfl;exact hb 0;exact q3)|(apply ak (d:=32);exact rfl;apply fF;exact rfl;exact rfl;exact m3)|(apply ak (d:=33);exact rfl;apply m7;exact rfl;exact rfl;exact hb 0;exact r3)|(apply ak (d:=34);exact rfl;apply fF;exact rfl;exact rfl;exact m4)|(apply ak (d:=40);exact rfl;apply fF;exact rfl;exact rfl;exact m5)|(apply ak (d:=41);exact rfl;apply kN;exact rfl;exact rfl;exact hb 0;exact q5)|(apply ak (d:=44);exact rfl;apply fF;exact rfl;exact rfl;exact m5)|(apply ak (d:=45);exact rfl;apply m7;exact rfl;exact rfl;exact hb 0;exact r5)|(apply ak (d:=46);exact rfl;apply fF;exact rfl;exact rfl;exact m6)|(apply aa (d:=36);exact rfl;exact rfl;(intro w' hm;exact p1 w'))|(apply aa (d:=48);exact rfl;exact rfl;(intro w' hm;exact p2 w'))|refine sT ?_|refine sM fun _=> ?_|(refine sC ?_ ?_<;>intro hb<;>try omega)|fail)
 (refine eRC ?_)
 rfl
theorem kp (v:Int) (neg:Bool) (h0:0≤v) (h1:v<340282366920938463463374607431768211456) (w:World):ay Tryz.prog 298 [.agg (eL v).toArray,.bool neg] w (.tuple #[.int .i64 (if cf<v then 0 else if neg then -v else v),.bool (decide (v≤cf))]):=by
 refine aq Tryz.func298 rfl Tryz.ntmps298 rfl ?_
 have hm:cf=9223372036854775807:=rfl
 by_cases hv:v≤cf
 ·
  rw [if_neg (by omega),decide_eq_true hv,jF h0 (by omega)]
  have hw:IntKind.i64.wrap v=v:=mY h0 hv
  cases neg
  ·
   repeat' (first|(apply ak;exact rfl;apply bJ;exact rfl;exact hw)|refine sT ?_|refine sM fun _=> ?_|(refine sC ?_ ?_<;>intro hb<;>try omega)|fail)
   all_goals first|(exfalso;omega)|((refine rT2 ?_);rfl)
  ·
   repeat' (first|(apply ak;exact rfl;apply bJ;exact rfl;exact hw)|(apply ak;exact rfl;apply Js;exact rfl;exact ⟨by omega,by omega⟩)|refine sT ?_|refine sM fun _=> ?_|(refine sC ?_ ?_<;>intro hb<;>try omega)|fail)
   all_goals first|(exfalso;omega)|((refine rT2 ?_);rfl)
 ·
  rw [if_pos (by omega),decide_eq_false hv]
  unfold eL
  obtain ⟨vh,hvh⟩: ∃ z,v / 18446744073709551616=z:=⟨_,rfl⟩
  obtain ⟨vl,hvl⟩: ∃ z,v % 18446744073709551616=z:=⟨_,rfl⟩
  rw [hvh,hvl]
  repeat' (first|refine sT ?_|refine sM fun _=> ?_|(refine sC ?_ ?_<;>intro hb<;>try omega)|fail)
  all_goals first|(exfalso;omega)|((refine rT2 ?_);rfl)
theorem nz (a:ByteArray) (ha:a.size≤1000000) (i0:Nat) (w:World):ay Tryz.prog 295 [.string a,.int .i64 (i0:Int)] w (.int .i64 ((i0+aB aC ((ap a).drop i0):Nat):Int)):=by
 refine aq Tryz.func295 rfl Tryz.ntmps295 rfl ?_
 have hl:=au a
 by_cases hbig:a.size≤i0
 ·
  rw [nn (by omega),Nj]
  repeat' (first|refine sT ?_|refine sS ?_|refine sT2 ?_|refine sM fun _=> ?_|(refine sC ?_ ?_<;>intro hb<;>try omega)|fail)
  refine ax [0] rfl (fun _:Unit=> [(1,.int .i64 (i0:Int))]) (fun _=> []) (fun _=>True) (fun _=>0) () trivial sB (.refl _) ?_
  rintro ⟨⟩ -
  repeat' (first|refine sT ?_|refine sS ?_|refine sT2 ?_|refine sM fun _=> ?_|(refine sC ?_ ?_<;>intro hb<;>try omega)|fail)
  all_goals first|(exfalso;omega)|((refine rT1 ?_);rfl)
 obtain ⟨X,hX⟩: ∃ X,i0+aB aC ((ap a).drop i0)=X:=⟨_,rfl⟩
 rw [hX]
 repeat' (first|refine sT ?_|refine sS ?_|refine sT2 ?_|refine sM fun _=> ?_|(refine sC ?_ ?_<;>intro hb<;>try omega)|fail)
 refine ax [0] rfl (fun i:Nat=> [(1,.int .i64 (i:Int))]) (fun _=> []) (fun i=>i≤a.size∧X=i+aB aC ((ap a).drop i)) (fun i=>a.size - i) i0 ⟨by omega,hX.symm⟩ sB (.refl _) ?_
 rintro i ⟨hi,hx⟩
 by_cases hlt:i<a.size
 ·
  rw [ba hlt,aB] at hx
  have hd:=dN (bat a i)
  repeat' (first|(apply ak;exact rfl;apply aU (j:=i);exact rfl;exact rfl;exact hlt)|refine sT ?_|refine sS ?_|refine sT2 ?_|refine sN ?_|refine sM fun _=> ?_|(refine sC ?_ ?_<;>intro hb<;>try omega)|fail)
  all_goals first
   |(refine ⟨i+1,⟨hlt,?_⟩,by omega,sB,sB,.nil _⟩;rw [hx,if_pos (hd.2 ⟨by assumption,by assumption⟩)];omega)
   |((refine rT1 ?_);rw [hx,if_neg (fun h=>by have:=hd.1 h;omega)];rfl)
 ·
  have e:i=a.size:=by omega
  subst e
  rw [nn (by omega),Nj] at hx
  repeat' (first|refine sT ?_|refine sS ?_|refine sT2 ?_|refine sM fun _=> ?_|(refine sC ?_ ?_<;>intro hb<;>try omega)|fail)
  all_goals first|(exfalso;omega)|((refine rT1 ?_);rw [hx])
end Go.SL
namespace Go.SL
open Go Go.Proofs
attribute [local irreducible] W WL WQ WG WA WX WLI WR WT WC VOp RW thn blk bS scp bq bF cj aS FnIn FnP ceP
structure DecP (l:List Int) (neg:Bool) (fr n:Nat) (D:List Int) (r:Int):Prop where
 negE:neg=decide (l.head? =some 45)
 frE:fr=if neg then 1 else 0
 nE:n=aB aC (l.drop fr)
 pos:n≠0
 len:D.length=n+4
 at1: ∀ k,k<n→D[k]? =l[fr+k]?
 at2: ∀ k,n≤k→k<n+4→D[k]? =some (l.getD (fr+k+1) 48)
 rnd:r=l.getD (fr+n+5) 48
 end_: ∀ k,fr+n<k→k<l.length→aC (l.getD k 0)=true
 res:fC l=if cf<bn D 0+(if 53≤r then 1 else 0) then (0,3) else (if neg then -(bn D 0+(if 53≤r then 1 else 0)) else bn D 0+(if 53≤r then 1 else 0),0)
theorem Bh (l:List Int) (i k:Nat) (d:Int):(l.drop i).getD k d=l.getD (i+k) d:=by
 rw [LW,LW,MQ]
theorem DecP.dig {l:List Int} {neg:Bool} {fr n:Nat} {D:List Int} {r:Int} (h:DecP l neg fr n D r) {k:Nat} {c:Int} (hk:D[k]? =some c):48≤c∧c≤57:=by
 have hlt:k<n+4:=by
  have:=(LV.1 hk).1
  rw [h.len] at this;exact this
 rcases MV k n with h1|h1
 ·
  rw [h.at1 k h1] at hk
  refine (dN c).1 (iQ (l.drop fr) k c (by rw [← h.nE];exact h1) ?_)
  rw [MQ];exact hk
 ·
  rw [h.at2 k h1 hlt] at hk
  injection hk with hk
  rcases MV (fr+k+1) l.length with h2|h2
  ·
   have:=h.end_ (fr+k+1) (by omega) h2
   rw [LW,LF h2] at this hk
   simp only [Ok] at this hk
   rw [hk] at this
   exact (dN c).1 this
  ·
   rw [LW,ML h2] at hk
   simp only [Option.getD_none] at hk
   omega
theorem Eh (l:List Int) (neg:Bool) (hneg:neg=decide (l.head? =some 45)) (fr:Nat) (hfr:fr=if neg then 1 else 0) (n:Nat) (hn:n=aB aC (l.drop fr)) (e:Nat) (he:e=if l[fr+n]? =some 46 then fr+n+1+aB aC (l.drop (fr+n+1)) else fr+n):
  ((n=0∨e≠l.length∨e=fr+n+1)∧fC l=(0,4))∨(n≠0∧e=l.length∧e≠fr+n+1∧ ∃ D r,DecP l neg fr n D r):=by
 have hls:(if neg then l.tail else l)=l.drop fr:=by
  subst hfr
  cases neg<;>simp
 have hnl:n≤(l.drop fr).length:=hn ▸ bM aC _
 rw [LL] at hnl
 have hfl:fr≤l.length:=by
  subst hfr
  cases neg with
  |false=>simp
  |true=>
   have:l.head? =some 45:=of_decide_eq_true hneg.symm
   cases l with
   |nil=>cases this
   |cons=>simp
 obtain ⟨rest,hrest⟩: ∃ rest,(l.drop fr).drop n=rest:=⟨_,rfl⟩
 have hr2:l.drop (fr+n)=rest:=by rw [← MK];exact hrest
 have hrl:rest.length=l.length - (fr+n):=by rw [← hr2,LL]
 have hhead:rest.head? =l[fr+n]? :=by rw [← hr2,List.head?_drop]
 have htail:rest.tail=l.drop (fr+n+1):=by rw [← hr2,ND]
 have hrt:aB aC rest.tail≤rest.tail.length:=bM _ _
 rw [NU] at hrt
 rw [← hhead,← htail] at he
 obtain ⟨q,hq⟩: ∃ q,aB aC rest.tail=q:=⟨_,rfl⟩
 rw [hq] at he hrt
 have hdec: ∀ fc,(decide (1<rest.length) && (decide (rest.head? =some 46) && decide (q+1=rest.length)))=fc→fC l=if n=0∨(fc=false∧rest≠ []) then (0,4)
   else if cf<bn ((l.drop fr).take n++((if fc then rest.tail else [])++ [48,48,48,48,48]).take 4) 0+(if 53≤((if fc then rest.tail else [])++ [48,48,48,48,48]).getD 4 0 then 1 else 0) then (0,3)
   else (if neg then -(bn ((l.drop fr).take n++((if fc then rest.tail else [])++ [48,48,48,48,48]).take 4) 0+(if 53≤((if fc then rest.tail else [])++ [48,48,48,48,48]).getD 4 0 then 1 else 0)) else bn ((l.drop fr).take n++((if fc then rest.tail else [])++ [48,48,48,48,48]).take 4) 0+(if 53≤((if fc then rest.tail else [])++ [48,48,48,48,48]).getD 4 0 then 1 else 0),0):=by
  intro fc hfc
  unfold fC
  rw [← hneg]
  simp only [hls,← hn,hrest,hq,hfc]
 by_cases h0:n=0
 ·
  left
  refine ⟨.inl h0,?_⟩
  rw [hdec _ rfl,if_pos (.inl h0)]
 by_cases h46:rest.head? =some 46
 ·
  rw [if_pos h46] at he
  have hpos:0<rest.length:=by
   cases rest with
   |nil=>cases h46
   |cons=>simp
  by_cases hfin:1<rest.length∧q+1=rest.length
  ·
   right
   refine ⟨h0,by omega,by omega,?_⟩
   have hfrac:(decide (1<rest.length) && (decide (rest.head? =some 46) && decide (q+1=rest.length)))=true:=by simp [h46,hfin.1,hfin.2]
   have hd:=hdec _ hfrac
   simp only [if_true] at hd
   rw [if_neg (by simp [h0])] at hd
   have hall: ∀ k,fr+n<k→k<l.length→aC (l.getD k 0)=true:=fun k h1 h2=>by
    obtain ⟨j,rfl⟩: ∃ j,k=fr+n+1+j:=⟨k - (fr+n+1),by omega⟩
    have hj:j<aB aC rest.tail:=by omega
    refine iQ rest.tail j _ hj ?_
    rw [htail,MQ,LW,LF h2];rfl
   have hp5: ∀ k,k<5→(rest.tail++ [48,48,48,48,48])[k]? =some (l.getD (fr+n+k+1) 48):=fun k hk=>by
    rw [show fr+n+k+1=fr+n+1+k by omega,← Bh,← htail]
    rw [LW]
    rcases MV k rest.tail.length with h|h
    ·
     rw [MO h,LF h];rfl
    ·
     rw [MC h,ML h]
     have:k - rest.tail.length<5:=by omega
     rcases (by omega:k - rest.tail.length=0∨k - rest.tail.length=1∨k - rest.tail.length=2∨k - rest.tail.length=3∨k - rest.tail.length=4) with h|h|h|h|h<;>rw [h]<;>rfl
   refine ⟨(l.drop fr).take n++(rest.tail++ [48,48,48,48,48]).take 4,(rest.tail++ [48,48,48,48,48]).getD 4 0,hneg,hfr,hn,h0,?_,?_,?_,?_,hall,hd⟩
   ·
    simp only [LC,LP,LL,L9,NK]
    omega
   ·
    intro k hk
    rw [MO (by simp;omega),Nh hk,MQ]
   ·
    intro k h1 h2
    rw [MC (by simp;omega)]
    rw [LP,LL,Nf (by omega),Nh (by omega),hp5 _ (by omega)]
    congr 2;omega
   ·
    rw [LW,hp5 4 (by omega)];rfl
  ·
   left
   have hfrac:(decide (1<rest.length) && (decide (rest.head? =some 46) && decide (q+1=rest.length)))=false:=by
    simp only [h46,decide_true,Mi,MB,decide_eq_false_iff_not]
    omega
   refine ⟨by omega,?_⟩
   rw [hdec _ hfrac,if_pos (.inr ⟨rfl,fun h=>by rw [h] at hpos;exact Nat.lt_irrefl _ hpos⟩)]
 ·
  rw [if_neg h46] at he
  have hfrac:(decide (1<rest.length) && (decide (rest.head? =some 46) && decide (q+1=rest.length)))=false:=by simp [h46]
  have hd:=hdec _ hfrac
  simp only [MG,if_false] at hd
  by_cases hnil:rest= []
  ·
   right
   have hlen:fr+n=l.length:=by rw [hnil] at hrl;simp at hrl;omega
   refine ⟨h0,by omega,by omega,?_⟩
   rw [if_neg (by simp [h0,hnil])] at hd
   have hp5: ∀ k,k<5→(([]:List Int)++ [48,48,48,48,48])[k]? =some (l.getD (fr+n+k+1) 48):=fun k hk=>by
    have e0:l.getD (fr+n+k+1) 48=48:=by rw [LW,ML (by omega)];rfl
    rw [e0]
    rcases (by omega:k=0∨k=1∨k=2∨k=3∨k=4) with h|h|h|h|h<;>rw [h]<;>rfl
   refine ⟨(l.drop fr).take n++(([]:List Int)++ [48,48,48,48,48]).take 4,(([]:List Int)++ [48,48,48,48,48]).getD 4 0,hneg,hfr,hn,h0,?_,?_,?_,?_,fun k h1 h2=>by omega,hd⟩
   ·
    simp;omega
   ·
    intro k hk
    rw [MO (by simp;omega),Nh hk,MQ]
   ·
    intro k h1 h2
    rw [MC (by simp;omega)]
    rw [LP,LL,Nf (by omega),Nh (by omega),hp5 _ (by omega)]
    congr 2;omega
   ·
    rw [LW,hp5 4 (by omega)];rfl
  ·
   left
   have:0<rest.length:=Nc.2 hnil
   refine ⟨by omega,?_⟩
   rw [hd,if_pos (.inr ⟨trivial,hnil⟩)]
theorem rG {D:List Int} {k:Nat} {c:Int} (h:D[k]? =some c):bn (D.take (k+1)) 0=10*bn (D.take k) 0+(c - 48):=by
 obtain ⟨h1,rfl⟩:=LV.1 h
 rw [LQ h1,mN]
theorem mf {D:List Int} (hd: ∀ (k:Nat) c,D[k]? =some c→48≤c∧c≤57) (k:Nat):0≤bn (D.take k) 0∧bn (D.take k) 0≤bn D 0:=by
 have h48: ∀ c∈D,48≤c:=fun c hc=>by
  obtain ⟨i,hi,rfl⟩:=Nl hc
  exact (hd i _ (LF hi)).1
 have h1:0≤bn (D.take k) 0:=jR _ (fun c hc=>h48 c (MH hc)) (M7 _)
 refine ⟨h1,?_⟩
 conv=>rhs;rw [← MA k D,nH]
 exact jR _ (fun c hc=>h48 c (Nr hc)) h1
set_option maxHeartbeats 2000000 in
theorem DI (a:ByteArray) (ha:a.size≤1000000) (w:World):ay Tryz.prog 253 [.string a] w (.tuple #[.int .i64 (fC (ap a)).1,.int .i64 (fC (ap a)).2]):=by
  refine aq Tryz.func253 rfl Tryz.ntmps253 rfl ?_
  have hl:=au a
  have hm:cf=9223372036854775807:=rfl
  obtain ⟨neg,hneg⟩: ∃ neg,neg=decide ((ap a).head? =some 45):=⟨_,rfl⟩
  have hb0:=nS a 45
  obtain ⟨fr,hfr⟩: ∃ fr,fr=if neg then 1 else 0:=⟨_,rfl⟩
  obtain ⟨n,hn⟩: ∃ n,n=aB aC ((ap a).drop fr):=⟨_,rfl⟩
  obtain ⟨e,he⟩: ∃ e,e=if (ap a)[fr+n]? =some 46 then fr+n+1+aB aC ((ap a).drop (fr+n+1)) else fr+n:=⟨_,rfl⟩
  have hcase:=Eh (ap a) neg hneg fr hfr n hn e he
  have hfrl:fr≤a.size:=by
    rw [hfr]
    cases neg with
    |false=>exact LS _
    |true=>have:=(hb0.1 (of_decide_eq_true hneg.symm)).1;simp only [if_true];omega
  have hnl:fr+n≤a.size:=by
    have:=bM aC ((ap a).drop fr)
    rw [LL] at this
    omega
  have hD1:=nz a ha fr
  rw [← hn] at hD1
  have hD2:=nz a ha (fr+n+1)
  have hyes:0<a.size→bat a 0=45→fr=1:=fun h1 h2=>by
    have:neg=true:=by rw [hneg];exact decide_eq_true (hb0.2 ⟨h1,h2⟩)
    rw [hfr,this];rfl
  have hno:(0<a.size→bat a 0≠45)→fr=0:=fun h=>by
    have:neg=false:=by rw [hneg];exact decide_eq_false (fun h' =>h (hb0.1 h').1 (hb0.1 h').2)
    rw [hfr,this];rfl
  have hnegE:decide ((fr:Int)=1)=neg:=by
    rw [hfr]
    cases neg<;>rfl
  have h46: ∀ j,j<a.size→((ap a)[j]? =some 46↔bat a j=46):=fun j hj=>by rw [fu hj];simp
  have h46' :a.size≤fr+n→ ¬ (ap a)[fr+n]? =some 46:=fun h=>by rw [ML (by omega)];simp
  repeat' (first|(refine vB (id:=2) (ι:=Unit) (fun _=> [(0,.string a),(4,.int .i64 (fr:Int))]) (fun _=> []) (fun _=>True) ?_ ?_)|refine sT ?_|refine sS ?_|refine sT2 ?_|refine sM fun _=> ?_|(refine sC ?_ ?_<;>intro hb<;>try omega)|exact cT|fail)
  · rw [hyes (by omega) (by assumption)]
    refine cu (()) ?_ sB mS
    trivial
  · rw [hno (fun _=>by assumption)]
    refine cu (()) ?_ sB mS
    trivial
  · rw [hno (fun h=>by omega)]
    refine cu (()) ?_ sB mS
    trivial
  rintro ⟨⟩ -
  repeat' (first|(apply aa (d:=22);exact rfl;exact rfl;(intro w' hm;exact hD1 w'))|(refine vB (id:=6) (ι:=Unit) (fun _=> [(0,.string a),(4,.int .i64 (fr:Int)),(5,.int .i64 ((fr+n:Nat):Int)),(6,.int .i64 (e:Int))]) (fun _=> []) (fun _=>True) ?_ ?_)|(apply ak;exact rfl;apply aU (j:=fr+n);exact rfl;exact rfl;omega)|(apply aa (d:=37);exact rfl;exact rfl;(intro w' hm;exact hD2 w'))|refine sT ?_|refine sS ?_|refine sT2 ?_|refine sN ?_|refine sM fun _=> ?_|(refine sC ?_ ?_<;>intro hb<;>try omega)|exact cT|fail)
  · rw [he,if_pos ((h46 _ (by omega)).2 (by assumption))]
    refine cu (()) ?_ sB mS
    trivial
  · rw [he,if_neg (fun h=>absurd ((h46 _ (by omega)).1 h) (by assumption))]
    refine cu (()) ?_ sB mS
    trivial
  · rw [he,if_neg (h46' (by omega))]
    refine cu (()) ?_ sB mS
    trivial
  rintro ⟨⟩ -
  clear hD1 hD2 hyes hno h46 h46' hb0
  rcases hcase with ⟨hbad,hd⟩|⟨h0,he1,he2,D,r,hP⟩
  · repeat' (first|refine sT ?_|refine sS ?_|refine sT2 ?_|refine sN ?_|refine sM fun _=> ?_|(refine sC ?_ ?_<;>intro hb<;>try omega)|exact cT|fail)
    all_goals first
      |((refine rT2 ?_);rw [hd];done)
      |(exfalso;omega)
  have hD4:=hP.len
  have hat: ∀ i,fr≤i→i<fr+n+5→i≠fr+n→ ∃ c,D[if i<fr+n then i - fr else i - fr - 1]? =some c∧48≤c∧c≤57∧(i<a.size→bat a i=c)∧(a.size≤i→c=48):=fun i h1 h2 h3=>by
    by_cases h:i<fr+n
    · rw [if_pos h]
      have hk:=hP.at1 (i - fr) (by omega)
      rw [show fr+(i - fr)=i by omega,fu (by omega)] at hk
      exact ⟨_,hk,(hP.dig hk).1,(hP.dig hk).2,fun _=>rfl,fun h=>by omega⟩
    · rw [if_neg h]
      have hk:=hP.at2 (i - fr - 1) (by omega) (by omega)
      rw [show fr+(i - fr - 1)+1=i by omega] at hk
      refine ⟨_,hk,(hP.dig hk).1,(hP.dig hk).2,fun h4=> ?_,fun h4=> ?_⟩
      · rw [LW,fu h4];rfl
      · rw [LW,ML (by omega)];rfl
  have hge:=mf (fun k c h=>hP.dig (k:=k) h)
  have hres:=hP.res
  have hr:=hP.rnd
  repeat' (first|refine sT ?_|refine sS ?_|refine sT2 ?_|refine sN ?_|refine sM fun _=> ?_|(refine sC ?_ ?_<;>intro hb<;>try omega)|exact cT|fail)
  all_goals try (exfalso;omega)
  rename_i g7
  refine ax [0,4,5,7] rfl (fun i:Nat=> [(8,.int .i64 (i:Int))]) (fun i=> [.box g7 377 (eL (bn (D.take (if i≤fr+n then i - fr else i - fr - 1)) 0))]) (fun i=>fr≤i∧i≤fr+n+5∧bn (D.take (if i≤fr+n then i - fr else i - fr - 1)) 0≤10*cf+9) (fun i=>fr+n+5 - i) fr ⟨by omega,by omega,?_⟩ sB ?_ ?_
  · rw [if_pos (by omega),Nat.sub_self,M0];decide
  · rw [if_pos (by omega),Nat.sub_self,M0]
    exact .refl _
  rintro i ⟨h1,h2,h3⟩
  obtain ⟨k,hk⟩: ∃ k,(if i≤fr+n then i - fr else i - fr - 1)=k:=⟨_,rfl⟩
  rw [hk] at h3 ⊢
  have hgk:=hge k
  obtain ⟨V,hV⟩: ∃ V,bn (D.take k) 0=V:=⟨_,rfl⟩
  rw [hV] at h3 hgk ⊢
  by_cases hend:i=fr+n+5
  · have hVD:V=bn D 0:=by
      rw [← hV,Mm]
      rw [hD4,← hk,if_neg (by omega)];omega
    have hsi:=fun v neg h h' w=>kp v neg h h' w
    subst hend
    have hpl: ∀ w,ay Tryz.prog 296 [.agg (eL V).toArray,.agg #[.int .u64 0,.int .u64 1]] w (.agg (eL (V+1)).toArray):=fun w=>by
      have:=qj V 1 hgk.1 (by omega) (by omega) w
      rwa [jF (v:=1) (by omega) (by omega)] at this
    have hS0:=fun w=>kp V neg hgk.1 (by omega) w
    have hS1:=fun w=>kp (V+1) neg (by omega) (by omega) w
    rw [← hVD] at hres
    have hrin:fr+n+5<a.size→bat a (fr+n+5)=r:=fun hin=>by
      rw [hr,LW,fu hin];rfl
    have hrout:a.size≤fr+n+5→r=48:=fun h=>by
      rw [hr,LW,ML (by omega)];rfl
    clear hr hP hat hge hV hVD
    repeat' (first|(apply ak (d:=57);exact rfl;apply dc (b:=5);exact rfl;exact rfl;(simp only [maxLen] at*;omega))|(apply ak (d:=93);exact rfl;apply dc (b:=5);exact rfl;exact rfl;(simp only [maxLen] at*;omega))|(apply ak (d:=100);exact rfl;apply dc (b:=5);exact rfl;exact rfl;(simp only [maxLen] at*;omega))|(apply ak (d:=101);exact rfl;apply aU (j:=fr+n+5);exact rfl;exact rfl;omega)|(rw [hrin (by omega)])|(apply aa (f:=296);exact rfl;exact rfl;(intro w' hm;exact hpl w'))|(rw [hnegE])|(apply aa (f:=298);exact rfl;exact rfl;(intro w' hm;first|exact hS1 w' |exact hS0 w'))|refine sT ?_|refine sS ?_|refine sT2 ?_|refine sN ?_|refine sM fun _=> ?_|(refine sC ?_ ?_<;>intro hb<;>try omega)|exact cT|fail)
    all_goals first
      |(exfalso;omega)
      | ((refine rT2 ?_)
         rw [hres]
         by_cases h53:53≤r
         · rw [if_pos h53]
           first|(exfalso;omega)|(rw [if_pos (by omega)];done)|(have hnb: ¬ cf<V+1:=(by omega);simp only [if_neg hnb];done)
         · rw [if_neg h53,Int.add_zero]
           first|(exfalso;omega)|(rw [if_pos (by omega)];done)|(have hnb: ¬ cf<V:=(by omega);simp only [if_neg hnb];done))
  · have hlt5:i<fr+n+5:=by omega
    have hgeD:=hgk.2
    by_cases hbig:cf<V
    · have hout:fC (ap a)=(0,3):=by
        rw [hres,if_pos]
        split<;>omega
      obtain ⟨vh,hvh⟩: ∃ z,V / 18446744073709551616=z:=⟨_,rfl⟩
      obtain ⟨vl,hvl⟩: ∃ z,V % 18446744073709551616=z:=⟨_,rfl⟩
      have hat' :=hat i h1 hlt5
      unfold eL
      rw [hvh,hvl]
      clear hres hP hat hge
      repeat' (first|(apply ak (d:=57);exact rfl;apply dc (b:=5);exact rfl;exact rfl;(simp only [maxLen] at*;omega))|(apply ak (d:=72);exact rfl;apply aU (j:=i);exact rfl;exact rfl;omega)|(apply ak (d:=73);exact rfl;apply df (c:=bat a i - 48);exact rfl;exact rfl;(obtain ⟨c,_,hc1,hc2,hc3,_⟩:=hat' (by omega);rw [hc3 (by omega)];exact dQ (by omega) (by omega)))|(apply ak (d:=74);exact rfl;apply zZ;exact rfl)|refine sT ?_|refine sS ?_|refine sT2 ?_|refine sN ?_|refine sM fun _=> ?_|(refine sC ?_ ?_<;>intro hb<;>try omega)|exact cT|fail)
      all_goals first
        |(exfalso;omega)
        |((refine rT2 ?_);rw [hout];done)
    · have hsm:eL V= [.int .u64 0,.int .u64 V]:=jF hgk.1 (by omega)
      by_cases hip:i=fr+n
      · subst hip
        rw [hsm]
        repeat' (first|(apply ak (d:=57);exact rfl;apply dc (b:=5);exact rfl;exact rfl;(simp only [maxLen] at*;omega))|(apply ak (d:=60);exact rfl;apply dc (b:=1);exact rfl;exact rfl;(simp only [maxLen] at*;omega))|refine sT ?_|refine sS ?_|refine sT2 ?_|refine sN ?_|refine sM fun _=> ?_|(refine sC ?_ ?_<;>intro hb<;>try omega)|exact cT|fail)
        all_goals first
          |(exfalso;omega)
          |skip
        have hk2:(if fr+n+1≤fr+n then fr+n+1 - fr else fr+n+1 - fr - 1)=k:=by
          rw [← hk,if_neg (by omega),if_pos (by omega)];omega
        refine ⟨fr+n+1,⟨by omega,by omega,?_⟩,by omega,sB,sB,?_⟩
        · rw [hk2,hV];exact h3
        · rw [hk2,hV,hsm]
          exact mS
      · obtain ⟨c,hc0,hc1,hc2,hc3,hc4⟩:=hat i h1 hlt5 hip
        have hkk:(if i<fr+n then i - fr else i - fr - 1)=k:=by
          rw [← hk]
          by_cases h:i<fr+n
          · rw [if_pos h,if_pos (by omega)]
          · rw [if_neg h,if_neg (by omega)]
        have hk2:(if i+1≤fr+n then i+1 - fr else i+1 - fr - 1)=k+1:=by
          rw [← hkk]
          by_cases h:i<fr+n
          · rw [if_pos h,if_pos (by omega)];omega
          · rw [if_neg h,if_neg (by omega)];omega
        rw [hkk] at hc0
        have hnext:=rG hc0
        rw [hV] at hnext
        obtain ⟨d,hd⟩: ∃ d,c - 48=d:=⟨_,rfl⟩
        rw [hd] at hnext
        have hT:=fun w=>Ah V hgk.1 (by omega) w
        have hP2: ∀ w,ay Tryz.prog 296 [.agg (eL (10*V)).toArray,.agg #[.int .u64 0,.int .u64 d]] w (.agg (eL (10*V+d)).toArray):=fun w=>by
          have:=qj (10*V) d (by omega) (by omega) (by omega) w
          rwa [jF (v:=d) (by omega) (by omega)] at this
        have hend2: ∀ (s:az) (H:List Blk),Sub [(8,.int .i64 ((i+1:Nat):Int))] s→Sub [(0,.string a),(4,.int .i64 (fr:Int)),(5,.int .i64 ((fr+n:Nat):Int)),(7,.pointer (some ⟨g7,0,none⟩))] s→MSub [.box g7 377 (eL (10*V+d))] H→ ∃ i',(fr≤i' ∧i' ≤fr+n+5∧bn (D.take (if i' ≤fr+n then i' - fr else i' - fr - 1)) 0≤10*cf+9)∧fr+n+5 - i' <fr+n+5 - i∧Sub [(8,.int .i64 (i' :Int))] s∧Sub [(0,.string a),(4,.int .i64 (fr:Int)),(5,.int .i64 ((fr+n:Nat):Int)),(7,.pointer (some ⟨g7,0,none⟩))] s∧MSub [.box g7 377 (eL (bn (D.take (if i' ≤fr+n then i' - fr else i' - fr - 1)) 0))] H:=fun s H a1 a2 a3=>by
          refine ⟨i+1,⟨by omega,by omega,?_⟩,by omega,a1,a2,?_⟩
          · rw [hk2,hnext];omega
          · rw [hk2,hnext];exact a3
        clear hres hP hat hge hr
        rw [hsm]
        by_cases hin:i<a.size
        · have hbc:=hc3 hin
          repeat' (first|(apply ak (d:=57);exact rfl;apply dc (b:=5);exact rfl;exact rfl;(simp only [maxLen] at*;omega))|(apply ak (d:=60);exact rfl;apply dc (b:=1);exact rfl;exact rfl;(simp only [maxLen] at*;omega))|(apply ak (d:=72);exact rfl;apply aU (j:=i);exact rfl;exact rfl;exact hin)|(rw [hbc])|(apply ak (d:=73);exact rfl;apply df (c:=d);exact rfl;exact rfl;(rw [hd];exact dQ (by omega) (by omega)))|(apply ak (d:=74);exact rfl;apply bJ (c:=d);exact rfl;(rw [IntKind.wrap_u64];omega))|(apply aa (f:=297);exact rfl;exact rfl;(intro w' hm;exact hT w'))|(apply aa (f:=296);exact rfl;exact rfl;(intro w' hm;exact hP2 w'))|refine sT ?_|refine sS ?_|refine sT2 ?_|refine sN ?_|refine sM fun _=> ?_|(refine sC ?_ ?_<;>intro hb<;>try omega)|exact cT|fail)
          all_goals first
            |(exfalso;omega)
            |exact hend2 _ _ sB sB mS
        · have hd0:d=0:=by have:=hc4 (by omega);omega
          subst hd0
          repeat' (first|(apply ak (d:=57);exact rfl;apply dc (b:=5);exact rfl;exact rfl;(simp only [maxLen] at*;omega))|(apply ak (d:=60);exact rfl;apply dc (b:=1);exact rfl;exact rfl;(simp only [maxLen] at*;omega))|(apply aa (f:=297);exact rfl;exact rfl;(intro w' hm;exact hT w'))|(apply aa (f:=296);exact rfl;exact rfl;(intro w' hm;exact hP2 w'))|refine sT ?_|refine sS ?_|refine sT2 ?_|refine sN ?_|refine sM fun _=> ?_|(refine sC ?_ ?_<;>intro hb<;>try omega)|exact cT|fail)
          all_goals first
            |(exfalso;omega)
            |exact hend2 _ _ sB sB mS
end Go.SL
