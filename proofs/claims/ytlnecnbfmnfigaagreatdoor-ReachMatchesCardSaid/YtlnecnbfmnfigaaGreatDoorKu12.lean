/-
  Lemmas and walks, put together: A3 A4 B1 B2.
-/
import Derived.Test.YtlnecnbfmnfigaaGreatDoorKu11
set_option linter.unusedSimpArgs false
set_option linter.unusedVariables false
set_option maxRecDepth 20000
namespace Go.SL
open Go Go.Proofs
attribute [local irreducible] W WL WQ WG WA VOp thn blk bZ scp bA FnAt FnIn
set_option maxRecDepth 10000 in
theorem Dj (f:FuncId) [Callable Tryz.prog f] (caps:List Value) (g:Int→Int) (a:ByteArray) (ha:a.size≤1000000) (w:World) (hf: ∀ c w' H,0≤c→c<256→Mem w w' H→aF Tryz.prog f ([.int .u8 c]++caps) w' (.int .u8 (g c))):
  FnAt Tryz.prog 233 [.string a,.func (.func f) #[] caps.toArray] w fun v H=> ∃ gb cap,v= .slice (some ⟨gb,0,none⟩) a.size cap∧H= [.byt gb 5 a.size cap (((ap a).map g).map (Value.int .u8))]:=by
 refine aA Tryz.func233 rfl Tryz.ntmps233 rfl ?_
 repeat' (first|(apply mo;exact rfl;exact rfl;intro gb cap)|refine sT ?_|refine sM fun _=> ?_|(refine sC ?_ ?_<;>intro hb<;>try omega)|fail)
 refine eH (fun i:Nat=> [(5,.slice (some ⟨gb,0,none⟩) a.size cap),(10,.slice (some ⟨gb,0,none⟩) a.size cap),(11,.int .i64 (a.size:Int)),(12,.int .i64 (i:Int)),(1,.func (.func f) #[] caps.toArray)])
  (fun i=> [.byt gb 5 a.size cap ((((ap a).take i).map g++(ap a).drop i).map (Value.int .u8))]) (fun i=>i≤a.size) (fun i=>a.size - i) 0 (by omega) ?_ ?_ ?_
 ·
  exact sB
 ·
  rw [oR];simp only [Qj,P3,O4,Qt];exact mS
 ·
  intro i hi
  have hl:=au a
  by_cases hlt:i<a.size
  ·
   have hil:i<(ap a).length:=by omega
   have hok:=mR a (ap a)[i] (PG hil)
   have hget:((((ap a).take i).map g++(ap a).drop i).map (Value.int .u8))[0+i*1]? =some (.int .u8 (ap a)[i]):=by
    rw [Pw,show 0+i*1=i by omega,PQ (by simp;omega)]
    simp [QX (Nat.le_of_lt hil),Qi]
   repeat' (first|(apply aj;exact rfl;apply ag;exact rfl;exact rfl;exact hlt)|(apply aj;exact rfl;apply ko;exact rfl;exact .hd;exact hget)|(apply iP;exact rfl;exact rfl;infer_instance;exact rfl;(intro w' hm;exact hf _ w' _ hok.1 hok.2 hm))|(apply mq;exact rfl;exact rfl;exact .hd;exact rfl;(simp;omega))|(apply aj;exact rfl;apply kZ;exact rfl;exact rfl;(constructor<;>omega))|refine sT ?_|refine sM fun _=> ?_|(refine sC ?_ ?_<;>intro hb<;>try omega)|fail)
   refine ⟨i+1,by omega,by omega,?_,?_⟩
   ·
    exact sB
   ·
    rw [show 0+i*1=i by omega,uP g (Value.int .u8) (ap a) i hil]
    exact mS
  ·
   have e:i=a.size:=by omega
   subst e
   repeat' (first|refine sT ?_|refine sM fun _=> ?_|(refine sC ?_ ?_<;>intro hb<;>try omega)|fail)
   refine bK (.inl rfl) rfl rfl (.refl _) ⟨gb,cap,rfl,?_⟩
   rw [PM (by omega),PA (by omega),Pa]
set_option maxRecDepth 10000 in
theorem HO (c:Int) (h0:0≤c) (h1:c<256) (ga gb:Nat) (w:World) (ha:Ro w ga 0 [.int .u8 97]) (hb' :Ro w gb 0 [.int .i64 (-32)]):aF Tryz.prog 309 [.int .u8 c,.pointer (some ⟨ga,0,none⟩),.pointer (some ⟨gb,0,none⟩)] w (.int .u8 (upC c)):=by
 refine aA Tryz.func309 rfl Tryz.ntmps309 rfl ?_
 have hwc:IntKind.i64.wrap c=c:=I64.wrap ⟨by omega,by omega⟩
 have h122:IntKind.u8.wrap (97+25)=122:=by decide
 repeat' (first|(apply aj;exact rfl;apply aN (off:=0);exact ha;exact rfl;exact rfl)|(apply aj;exact rfl;apply aN (off:=0);exact hb';exact rfl;exact rfl)|(apply aj;exact rfl;apply eC;exact rfl;exact rfl;exact h122)|(apply aj (d:=15);exact rfl;apply cU;exact rfl;exact hwc)|(apply aj (d:=17);exact rfl;apply kZ;exact rfl;exact rfl;exact ⟨by omega,by omega⟩)|(apply aj (d:=18);exact rfl;apply cU (c:=c - 32);exact rfl;(rw [show c+ -32=c - 32 by omega];exact fa (by omega) (by omega)))|refine sT ?_|refine sM fun _=> ?_|(refine sC ?_ ?_<;>intro hb<;>try omega)|fail)
 all_goals ((refine rT1 ?_);unfold upC;first|rw [if_pos (by omega)]|rw [if_neg (by omega)])
def upB (a:ByteArray):ByteArray:=mkB ((ap a).map upC)
theorem qK (a:ByteArray):ap (upB a)=(ap a).map upC:=by
 refine nX ?_
 intro c hc
 obtain ⟨d,hd,rfl⟩:=Py.1 hc
 have:=mR a d hd
 unfold upC
 split<;>omega
set_option maxRecDepth 10000 in
theorem JW (a:ByteArray) (ha:a.size≤1000000) (w:World):aF Tryz.prog 276 [.string a,.int .u8 97,.int .i64 (-32)] w (.string (upB a)):=by
 refine aA Tryz.func276 rfl Tryz.ntmps276 rfl ?_
 repeat' (first|((with_reducible apply aS (R:=fun v H=> ∃ gb cap,v= .slice (some ⟨gb,0,none⟩) a.size cap∧H= [.byt gb 5 a.size cap (((ap a).map upC).map (Value.int .u8))]));exact rfl;exact rfl;(intro w' hm;exact Dj 309 [_,_] upC a ha w' (fun c w2 H2 h0 h1 hm2=>HO c h0 h1 _ _ w2 ((Ro.of_box hm pK).next hm2) ((Ro.of_box hm pK).next hm2)));(rintro v H' ⟨gb,cap,rfl,rfl⟩))|(apply aj;exact rfl;apply rz;exact rfl;exact .hd;simp [au])|refine sT ?_|refine sM fun _=> ?_|(refine sC ?_ ?_<;>intro hb<;>try omega)|fail)
 (refine rT1 ?_)
 rfl
set_option maxRecDepth 10000 in
theorem rj (a:ByteArray) (ha:a.size≤1000000) (w:World):aF Tryz.prog 242 [.string a] w (.string (upB a)):=by
 refine aA Tryz.func242 rfl Tryz.ntmps242 rfl ?_
 repeat' (first|(apply aa;exact rfl;exact rfl;(intro w hm;exact JW a ha w))|refine sT ?_|refine sM fun _=> ?_|(refine sC ?_ ?_<;>intro hb<;>try omega)|fail)
 (refine rT1 ?_)
 rfl
def lD:List Int→Option (List Int)
 | []=>some []
 |c::r=>if c≠34 then (lD r).map (c:: ·) else match r with
  | []=>none
  |d::r' =>if d=34 then (lD r').map (34:: ·) else none
def gj (l:List Int):List Int × Int:=
 if l.length<2∨l.head? ≠some 34∨l.getLast? ≠some 34∨l.all (fun c=>bL c)=false then ([],4)
 else match lD ((l.drop 1).dropLast) with
  |none=>([],4)
  |some r=>if 256<r.length then ([],5) else (r,0)
theorem nN (a:ByteArray):nO a=(ap a).all fun c=>bL c:=by
 simp only [nO,ap,List.all_map]
 congr 1
 funext c
 simp only [Function.comp,bL]
 rw [PN];simp;omega
theorem J7 (a:ByteArray) (c:Int) (h:0<a.size):((ap a).getLast? =some c)↔bat a (a.size - 1)=c:=by
 rw [QT,au,gK (by omega)]
 simp
theorem Bl {a:ByteArray} {i:Nat} (h0:1≤i) (h:i<a.size - 1):(((ap a).drop 1).dropLast).drop (i - 1)=bat a i::(((ap a).drop 1).dropLast).drop i:=by
 have hl:=au a
 obtain ⟨j,rfl⟩: ∃ j,i=j+1:=⟨i - 1,by omega⟩
 rw [Sd]
 have hlen:(((ap a).drop 1).dropLast).length=a.size - 2:=by simp;omega
 have hlt:j<(((ap a).drop 1).dropLast).length:=by omega
 rw [Pf hlt]
 congr 1
 have h1:=gK (a:=a) (i:=j+1) (by omega)
 have h2:(((ap a).drop 1).dropLast)[j]? =some (bat a (j+1)):=by
  rw [List.getElem?_dropLast,if_pos (by simp;omega),Qi,QI 1 j,h1]
 rw [O5 hlt] at h2
 exact Option.some.inj h2
theorem rF {c:Int} {r:List Int} (h:c≠34):lD (c::r)=(lD r).map (c:: ·):=by
 rw [lD.eq_def];simp [h]
theorem Fs (a:ByteArray) (ha:a.size≤1000000) (w:World):aF Tryz.prog 279 [.string a] w (.tuple #[.string (mkB (gj (ap a)).1),.int .i64 (gj (ap a)).2]):=by
 refine aA Tryz.func279 rfl Tryz.ntmps279 rfl ?_
 have hl:=au a
 have hp:=qD a ha
 rw [nN] at hp
 have hh:=qM a 34
 have hg:=J7 a 34
 by_cases hbad:(ap a).length<2∨(ap a).head? ≠some 34∨(ap a).getLast? ≠some 34∨(ap a).all (fun c=>bL c)=false
 ·
  rw [gj,if_pos hbad]
  repeat' (first|(apply aa;exact rfl;exact rfl;(intro w hm;exact hp w))|refine sT ?_|refine sS ?_|refine sT2 ?_|refine sN ?_|refine sM fun _=> ?_|(refine sC ?_ ?_<;>intro hb<;>try omega)|fail)
  iterate 4 (focus ((refine rT2 ?_);rfl))
  exfalso
  rename_i h1 h2 h3
  rcases hbad with h|h|h|h
  ·
   omega
  ·
   exact h (hh.2 ⟨by omega,Decidable.not_not.1 h2⟩)
  ·
   exact h ((hg (by omega)).2 (Decidable.not_not.1 h3))
  ·
   rw [hb] at h;cases h
 ·
  have hun:gj (ap a)=match lD (((ap a).drop 1).dropLast) with
    |none=>([],4)
    |some r=>if 256<r.length then ([],5) else (r,0):=by rw [gj,if_neg hbad]
  rw [hun]
  simp only [not_or,Decidable.not_not,Bool.not_eq_false] at hbad
  obtain ⟨b1,b2,b3,b4⟩:=hbad
  have b5:=(hh.1 b2).2
  have b6:=(hg (by omega)).1 b3
  rw [b4] at hp
  have hn:(a.size:Int) - 1=((a.size - 1:Nat):Int):=by omega
  generalize hB:((ap a).drop 1).dropLast=B
  have hBl:B.length=a.size - 2:=by rw [← hB];simp;omega
  repeat' (first|(apply aa;exact rfl;exact rfl;(intro w hm;exact hp w))|refine sT ?_|refine sS ?_|refine sT2 ?_|refine sN ?_|refine sM fun _=> ?_|(refine sC ?_ ?_<;>intro hb<;>try omega)|fail)
  all_goals try (exfalso;omega)
  refine aK 5 1 ?_
  refine ax [0,4] rfl (fun x:Nat × List Int × Option Nat × Nat=> [(5,sl x.2.2.1 x.2.1.length x.2.2.2),(6,.int .i64 (x.1:Int))]) (fun x=> [.own x.2.2.1 5 1 x.2.1.length x.2.2.2 (x.2.1.map (Value.int .u8))]) (fun x=>1≤x.1∧x.1≤a.size - 1∧x.2.1.length≤x.1∧lD B=(lD (B.drop (x.1 - 1))).map (x.2.1++ ·)) (fun x=>a.size - x.1) (1,[],none,0) ⟨by omega,by omega,by simp,by simp⟩ sB mS ?_
  rintro ⟨i,out,A,cap⟩ ⟨i1,i2,i3,i4⟩
  dsimp only at i1 i2 i3 i4 ⊢
  by_cases hend:i=a.size - 1
  ·
   have hBd:B.drop (i - 1)= []:=PA (by omega)
   rw [hBd] at i4
   simp only [lD,Qb,Pa] at i4
   rw [i4]
   dsimp only
   by_cases hlen:256<out.length
   ·
    rw [if_pos hlen]
    repeat' (first|refine sT ?_|refine sS ?_|refine sT2 ?_|refine sN ?_|refine sM fun _=> ?_|(refine sC ?_ ?_<;>intro hb<;>try omega)|fail)
    all_goals first|(exfalso;omega)|((refine rT2 ?_);rfl)
   ·
    rw [if_neg hlen]
    repeat' (first|(apply aj;exact rfl;apply DE;exact rfl;exact pK;exact rfl)|refine sT ?_|refine sS ?_|refine sT2 ?_|refine sN ?_|refine sM fun _=> ?_|(refine sC ?_ ?_<;>intro hb<;>try omega)|fail)
    all_goals first|(exfalso;omega)|((refine rT2 ?_);rfl)
  ·
   have hdr:=Bl (a:=a) i1 (by omega)
   rw [hB] at hdr
   rw [hdr] at i4
   by_cases hq:bat a i=34
   ·
    rw [hq] at i4
    by_cases h1:i+1=a.size - 1
    ·
     have hBd:B.drop i= []:=PA (by omega)
     rw [hBd] at i4
     simp only [lD,ne_eq,not_true_eq_false,if_false,SI] at i4
     rw [i4]
     repeat' (first|refine sT ?_|refine sS ?_|refine sT2 ?_|refine sN ?_|refine sM fun _=> ?_|(refine sC ?_ ?_<;>intro hb<;>try omega)|fail)
     all_goals first|(exfalso;omega)|((refine rT2 ?_);rfl)
    ·
     have hdr2:=Bl (a:=a) (i:=i+1) (by omega) (by omega)
     rw [hB,Sd] at hdr2
     rw [hdr2] at i4
     by_cases h2:bat a (i+1)=34
     ·
      simp only [lD,ne_eq,not_true_eq_false,if_false,h2,if_true,RS] at i4
      repeat' (first|(apply aU;(iterate 3 exact rfl);exact pK;exact pK;exact rfl;(simp [Value.oneCell']);omega;(simp only [maxLen];omega);intro g8 c8)|(apply aj (d:=63);exact rfl;apply fC (b:=2);exact rfl;exact rfl;(simp only [maxLen];omega))|refine sT ?_|refine sS ?_|refine sT2 ?_|refine sN ?_|refine sM fun _=> ?_|(refine sC ?_ ?_<;>intro hb<;>try omega)|fail)
      all_goals try (exfalso;omega)
      refine ⟨(i+2,out++ [34],some g8,c8),⟨by dsimp only;omega,by dsimp only;omega,by simp;omega,?_⟩,(by dsimp only;omega),?_,sB,?_⟩
      ·
       dsimp only
       rw [i4,show i+2 - 1=i+1 by omega]
       congr 1
       funext l
       simp
      ·
       simp only [O2,O6]
       exact sB
      ·
       simp only [O2,O6,P4,PB,P3]
       exact mS
     ·
      simp only [lD,ne_eq,not_true_eq_false,if_false,h2,SI] at i4
      rw [i4]
      repeat' (first|refine sT ?_|refine sS ?_|refine sT2 ?_|refine sN ?_|refine sM fun _=> ?_|(refine sC ?_ ?_<;>intro hb<;>try omega)|fail)
      all_goals first|(exfalso;omega)|((refine rT2 ?_);rfl)
   ·
    rw [rF hq,RS] at i4
    repeat' (first|(apply aU;(iterate 3 exact rfl);exact pK;exact pK;exact rfl;(simp [Value.oneCell']);omega;(simp only [maxLen];omega);intro g8 c8)|refine sT ?_|refine sS ?_|refine sT2 ?_|refine sN ?_|refine sM fun _=> ?_|(refine sC ?_ ?_<;>intro hb<;>try omega)|fail)
    all_goals try (exfalso;omega)
    refine ⟨(i+1,out++ [bat a i],some g8,c8),⟨by dsimp only;omega,by dsimp only;omega,by simp;omega,?_⟩,(by dsimp only;omega),?_,sB,?_⟩
    ·
     dsimp only
     rw [i4,show i+1 - 1=i by omega]
     congr 1
     funext l
     simp
    ·
     simp only [O2,O6]
     exact sB
    ·
     simp only [O2,O6,P4,PB,P3]
     exact mS
def cM:List ByteArray:= [⟨#[]⟩,⟨#[35,68,73,86,47,48,33]⟩,⟨#[35,86,65,76,85,69,33]⟩,⟨#[35,78,85,77,33]⟩,⟨#[35,78,47,65]⟩,⟨#[35,82,69,70,33]⟩,⟨#[35,67,89,67,76,69,33]⟩,⟨#[35,68,69,78,73,69,68]⟩]
def Words (w:World):Prop:=Ro w 0 0 (cM.map Value.string)
theorem Words.next {w0 w:World} {H:List Blk} (h:Words w0) (hm:Mem w0 w H):Words w:=Ro.next h hm
def gF (c:Int):Vl:=⟨4,if c<1∨7<c then 2 else c,ay⟩
def vX (n:Int):Vl:=if n= -9223372036854775808 then gF 3 else ⟨1,n,ay⟩
def mE (b:Bool):Vl:=⟨2,if b then 1 else 0,ay⟩
def nB:ByteArray:=⟨#[84,82,85,69]⟩
def lH:ByteArray:=⟨#[70,65,76,83,69]⟩
def zM (a:ByteArray):Vl:=if upB a=nB then mE true else if upB a=lH then mE false else gF 2
theorem mY (c:Int) (w:World):aF Tryz.prog 195 [.int .i64 c] w (.agg (dN (gF c)).toArray):=by
 refine aA Tryz.func195 rfl Tryz.ntmps195 rfl ?_
 repeat' (first|refine sT ?_|refine sM fun _=> ?_|(refine sC ?_ ?_<;>intro hb<;>try omega)|exact cT|fail)
 all_goals ((refine eRC ?_);simp only [gF];(first|rw [if_pos (by omega)]|rw [if_neg (by omega)]);rfl)
theorem MB (n:Int) (w:World):aF Tryz.prog 198 [.int .i64 n] w (.agg (dN (vX n)).toArray):=by
 refine aA Tryz.func198 rfl Tryz.ntmps198 rfl ?_
 repeat' (first|(apply aa;exact rfl;exact rfl;(intro w hm;exact mY 3 w))|refine sT ?_|refine sM fun _=> ?_|(refine sC ?_ ?_<;>intro hb<;>try omega)|exact cT|fail)
 all_goals ((refine eRC ?_);simp_all [vX,dN,gF,ay])
theorem KG (b:Bool) (w:World):aF Tryz.prog 275 [.bool b] w (.agg (dN (mE b)).toArray):=by
 refine aA Tryz.func275 rfl Tryz.ntmps275 rfl ?_
 repeat' (first|refine sT ?_|refine sM fun _=> ?_|(refine sC ?_ ?_<;>intro hb<;>try omega)|exact cT|fail)
 all_goals ((refine eRC ?_);simp_all [mE,dN,ay])
theorem JV (v:Vl) (ha:v.text.size≤1000000) (w:World):aF Tryz.prog 241 [.agg (dN v).toArray] w (.agg (dN (zM v.text)).toArray):=by
 refine aA Tryz.func241 rfl Tryz.ntmps241 rfl ?_
 repeat' (first|(apply aa;exact rfl;exact rfl;(intro w hm;exact rj v.text ha w))|(apply aa;exact rfl;exact rfl;(intro w hm;exact KG _ w))|(apply aa;exact rfl;exact rfl;(intro w hm;exact mY 2 w))|refine sT ?_|refine sM fun _=> ?_|(refine sC ?_ ?_<;>intro hb<;>try omega)|exact cT|fail)
 all_goals ((refine eRC ?_);simp_all [zM,nB,lH];rfl)
theorem Mv (c:Int) (h1:1≤c) (h2:c≤5) (w:World) (hw:Words w):aF Tryz.prog 285 [.agg (dN ⟨4,c,ay⟩).toArray] w (.string (cM.getD c.toNat ay)):=by
 refine aA Tryz.func285 rfl Tryz.ntmps285 rfl ?_
 have he:eqV ⟨4,c,ay⟩ (gF 7)=false:=by simp [eqV,gF];omega
 have hv:pH ⟨4,c,ay⟩=0:=by
  have h6:decide (c≤6)=true:=decide_eq_true (by omega)
  simp [pH,uE,h1,h6]
 have hc:=DB ⟨4,c,ay⟩
 rw [hv] at hc
 obtain ⟨k,rfl⟩: ∃ k:Nat,c=(k:Int):=⟨c.toNat,by omega⟩
 have hcell:(cM.map Value.string)[k*1]? =some (.string (cM.getD k ay)):=by
  rcases (by omega:k=1∨k=2∨k=3∨k=4∨k=5) with rfl|rfl|rfl|rfl|rfl<;>rfl
 repeat' (first|(apply bz;exact rfl;exact rfl;(intro w hm;exact mY 7 w))|(apply bz;exact rfl;exact rfl;(intro w hm;exact hc w))|(apply aP;exact rfl;exact he ▸ DJ (b:=gF 7) rfl rfl)|(apply aj;exact rfl;apply uK (j:=k);exact rfl;exact rfl;omega)|(apply aj;exact rfl;apply aN (o:=0);exact hw;exact rfl;exact hcell)|refine sT ?_|refine sQ ?_|refine sD ?_|refine sM fun _=> ?_|(refine sC ?_ ?_<;>intro hb<;>try omega)|(refine sCQ ?_ ?_<;>intro hb<;>try omega)|exact cT|fail)
 (refine rT1 ?_)
 rfl
instance:KLaw Tryz.prog 5 (fun z:Int=>Value.int .u8 z):=Ka
theorem ze {P:Program} {n:Fr} {w0:World} {Q:cd} {s:aB} {H:List Blk} {rest:List Oper} {ty:TypeId} {p:String} {af:Array Edge} {κ:Type} [DecidableEq κ] {enc:κ→Value} {t K E g clock:Nat} {m x kx:Operand} {k:κ} {v:Value} {es:List (κ × Value × Nat)} {es' :List (κ × Value × Nat)} {c' :Nat} {R:List Blk} {ops:Array Oper} [ht:Und P t (.map K E)] [hk:KLaw P K enc] (hm:ev s m=some (.map (some g))) (hkx:ev s kx=some (enc k)) (hx:ev s x=some v) (hsel:Sel (.obj g (cw enc es clock)) H R)
  (he:kT k v clock es=(es',c')) (h:WL P n w0 ops rest Q s (.obj g (cw enc es' c')::R)):WL P n w0 ops (⟨none,.insert t m kx x,ty,p,af,none⟩::rest) Q s H:=by
 refine Gz hm hkx hx hsel ?_
 rw [he];exact h
theorem J8 {κ:Type} [DecidableEq κ] {k:κ} {v:Value} {clock:Nat} {es:List (κ × Value × Nat)} (h:cA k es 0=none):kT k v clock es=(es++ [(k,v,clock)],clock+1):=by
 simp [kT,h]
def Gi (v:Vl):List (Int × Value × Nat):=
 [(0,.func (.func 239) #[.agg (dN v).toArray] #[],0),(1,.func (.func 239) #[.agg (dN v).toArray] #[],1),(2,.func (.func 240) #[.agg (dN v).toArray] #[],2),(3,.func (.func 241) #[.agg (dN v).toArray] #[],3),(4,.func (.func 240) #[.agg (dN v).toArray] #[],4)]
theorem DW (v:Vl) (w:World):FnAt Tryz.prog 238 [.agg (dN v).toArray] w fun u H=> ∃ g,u= .map (some g)∧H= [.obj g (cw (fun z:Int=>Value.int .u8 z) (Gi v) 5)]:=by
 refine aA Tryz.func238 rfl Tryz.ntmps238 rfl ?_
 repeat' (first|(apply j9 (enc:=fun z:Int=>Value.int .u8 z);exact rfl;intro g)|(apply aj;exact rfl;apply mB;exact rfl)|(apply ze (enc:=fun z:Int=>Value.int .u8 z);(iterate 3 exact rfl);exact pK;exact J8 rfl)|refine sT ?_|refine sM fun _=> ?_|(refine sC ?_ ?_<;>intro hb<;>try omega)|exact cT|fail)
 exact bK (H' := [.obj g (cw (fun z:Int=>Value.int .u8 z) (Gi v) 5)]) (.inl rfl) rfl rfl (.pick .hd (.nil _)) ⟨g,rfl,rfl⟩
def jc (v:Vl):Vl:=if pH v=0 then zM v.text else gF 2
set_option maxHeartbeats 1000000 in
theorem De (v:Vl) (hk:v.kind=3) (ha:v.text.size≤1000000) (w:World):aF Tryz.prog 237 [.agg (dN v).toArray,.func (.func 238) #[] #[]] w (.agg (dN (jc v)).toArray):=by
 refine aA Tryz.func237 rfl Tryz.ntmps237 rfl ?_
 obtain ⟨k,num,text⟩:=v
 dsimp only at hk ha
 subst hk
 have hv:=DB ⟨3,num,text⟩
 have hn:=JV ⟨3,num,text⟩ ha
 repeat' (first|refine sT ?_|refine sM fun _=> ?_|(refine sC ?_ ?_<;>intro hb<;>try omega)|exact cT|fail)
 rename_i g2 g4
 refine ru (id:=1) (ι:=Unit) (fun _=> [(5,.func (.func 241) #[.agg (dN ⟨3,num,text⟩).toArray] #[]),(6,.bool true),(2,.pointer (some ⟨g2,0,none⟩)),(4,.pointer (some ⟨g4,0,none⟩))]) (fun _=> [.box g2 155 (dN ⟨3,num,text⟩),.box g4 155 (dN bR)]) (fun _=>True) ?_ ?_
 ·
  refine jN 11 rfl (by kernel_rfl) ?_
  ((with_reducible apply aV (i:=0));exact rfl;exact rfl;decide+kernel;decide+kernel;decide+kernel;exact nP;(intro _ _;exact vP))
  ((with_reducible apply aV (i:=3));exact rfl;exact rfl;decide+kernel;decide+kernel;decide+kernel;exact nP;(intro _ _;exact vP))
  repeat' (first|(apply df (i:=1) (j:=4);exact rfl;exact rfl;decide+kernel)|(apply df (i:=2) (j:=4);exact rfl;exact rfl;decide+kernel)|(apply aL (i:=1);exact rfl;decide+kernel)|(apply aL (i:=2);exact rfl;decide+kernel)|(apply aL (i:=4);exact rfl;decide+kernel)|(apply aL (i:=5);exact rfl;decide+kernel)|(apply aV (i:=6);exact rfl;exact rfl;decide+kernel;decide+kernel;decide+kernel;exact nP;(intro _ _;exact vP))|(apply aV (i:=7);exact rfl;exact rfl;decide+kernel;decide+kernel;decide+kernel;exact nP;(intro _ _;exact vP))|(apply aV (i:=8);exact rfl;exact rfl;decide+kernel;decide+kernel;decide+kernel;exact nP;(intro _ _;exact vP))|(apply aV (i:=9);exact rfl;exact rfl;decide+kernel;decide+kernel;decide+kernel;exact nP;(intro _ _;exact vP))|(apply aV (i:=10);exact rfl;exact rfl;decide+kernel;decide+kernel;decide+kernel;exact nP;(intro _ _;exact vP))|(apply jM;decide+kernel)|(apply ni;exact rfl;exact rfl;infer_instance;exact rfl;exact FnIn.of_at (fun w' _=>DW ⟨3,num,text⟩ w');(rintro _ _ ⟨H1,⟨g5,rfl,rfl⟩,rfl⟩))|(apply aj;exact rfl;apply uH (enc:=fun z:Int=>Value.int .u8 z);exact rfl;exact rfl;exact pK;exact rfl)|refine sT ?_|refine sM fun _=> ?_|(refine sC ?_ ?_<;>intro hb<;>try omega)|exact cT|fail)
  all_goals ((apply cL;rotate_left 1;exact sB;exact mS);trivial)
 ·
  rintro _ -
  simp only [jc]
  generalize pH ⟨3,num,text⟩=e at hv
  repeat' (first|(apply aa;exact rfl;exact rfl;(intro w hm;exact hv w))|(apply aa;exact rfl;exact rfl;(intro w hm;exact mY 2 w))|(apply rq;exact rfl;exact rfl;infer_instance;exact rfl;(intro w' _;exact hn w'))|refine sT ?_|refine sM fun _=> ?_|(refine sC ?_ ?_<;>intro hb<;>try omega)|exact cT|fail)
  all_goals
   (refine eRC ?_)
   simp_all
   rfl
theorem Iy (v:Vl) (hk:v.kind=3) (ha:v.text.size≤1000000) (w:World):aF Tryz.prog 192 [.agg (dN v).toArray] w (.agg (dN (jc v)).toArray):=by
 refine aA Tryz.func192 rfl Tryz.ntmps192 rfl ?_
 repeat' (first|(apply aa;exact rfl;exact rfl;(intro w hm;exact De v hk ha w))|refine sT ?_|refine sM fun _=> ?_|(refine sC ?_ ?_<;>intro hb<;>try omega)|exact cT|fail)
 (refine eRC ?_)
 rfl
def jB (u:ByteArray):List ByteArray→Int→Int × Int
 | [],_=>(0,4)
 |x::r,i=>if x=u then (i,0) else jB u r (i+1)
def iN (a:ByteArray):Int × Int:=jB (upB a) (cM.drop 1) 1
theorem Dw {i:Nat} (h:i<8):(cM.map Value.string)[i]? =some (.string (cM.getD i ay)):=by
 rcases (by omega:i=0∨i=1∨i=2∨i=3∨i=4∨i=5∨i=6∨i=7) with rfl|rfl|rfl|rfl|rfl|rfl|rfl|rfl<;>rfl
theorem sr {i:Nat} (h:i<8):cM.drop i=cM.getD i ay::cM.drop (i+1):=by
 rcases (by omega:i=0∨i=1∨i=2∨i=3∨i=4∨i=5∨i=6∨i=7) with rfl|rfl|rfl|rfl|rfl|rfl|rfl|rfl<;>rfl
theorem ME (a:ByteArray) (ha:a.size≤1000000) (w:World) (hw:Words w):aF Tryz.prog 194 [.string a] w (.tuple #[.int .i64 (iN a).1,.int .i64 (iN a).2]):=by
 refine aA Tryz.func194 rfl Tryz.ntmps194 rfl ?_
 have hload:(((cM.map Value.string).drop 0).take 8)=cM.map Value.string:=rfl
 have hU:=rj a ha
 generalize hu:upB a=u at hU
 repeat' (first|(apply aa;exact rfl;exact rfl;(intro w hm;exact hU w))|(apply aj;exact rfl;apply cI (o:=0) (off:=0);exact hw;exact rfl;exact hload;exact rfl)|refine sT ?_|refine sT2 ?_|refine sM fun _=> ?_|(refine sC ?_ ?_<;>intro hb<;>try omega)|exact cT|fail)
 refine ax [0,8] rfl (fun i:Nat=> [(9,.int .i64 (i:Int))]) (fun _=> []) (fun i=>i≤8∧iN a=jB u (cM.drop (max i 1)) (max i 1:Nat)) (fun i=>8 - i) 0 ⟨by omega,by rw [iN,hu];rfl⟩ sB mS ?_
 rintro i ⟨hi,hr⟩
 by_cases hlt:i<8
 ·
  have hx:=Dw hlt
  have hd:=sr hlt
  generalize cM.getD i ay=x at hx hd
  repeat' (first|(apply aj;exact rfl;apply nu;exact rfl;exact rfl;exact hlt;exact hx)|refine sT ?_|refine sT2 ?_|refine sN ?_|refine sM fun _=> ?_|(refine sC ?_ ?_<;>intro hb<;>try omega)|exact cT|fail)
  ·
   rename_i h0
   rw [show max i 1=i by omega,hd,jB,if_pos hb] at hr
   rw [hr]
   (refine rT2 ?_)
   rfl
  ·
   rename_i h0
   rw [show max i 1=i by omega,hd,jB,if_neg hb] at hr
   refine ⟨i+1,?_,(by first|omega|(dsimp only;omega)),sB,sB,mS⟩
   refine ⟨hlt,?_⟩
   rw [hr,show max (i+1) 1=i+1 by omega]
   rfl
  ·
   have h0:i=0:=by omega
   subst h0
   refine ⟨0+1,?_,(by first|omega|(dsimp only;omega)),sB,sB,mS⟩
   exact ⟨by omega,hr⟩
 ·
  have e:i=8:=by omega
  subst e
  rw [hr]
  repeat' (first|refine sT ?_|refine sT2 ?_|refine sM fun _=> ?_|(refine sC ?_ ?_<;>intro hb<;>try omega)|exact cT|fail)
  all_goals first|(exfalso;omega)|((refine rT2 ?_);rfl)
end Go.SL
namespace Go.SL
open Go Go.Proofs
attribute [local irreducible] W WL WQ WG WA WX WLI WR WT VOp thn blk bZ scp bA ck FnAt FnIn
theorem ll (c:Int) (w:World):aF Tryz.prog 278 [.int .u8 c] w (.bool (aJ c)):=by
 refine aA Tryz.func278 rfl Tryz.ntmps278 rfl ?_
 repeat' (first|refine sT ?_|refine sM fun _=> ?_|(refine sC ?_ ?_<;>intro hb<;>try omega)|fail)
 all_goals ((refine rT1 ?_);((try simp only [← Int.not_lt] at*);simp_all [aJ, -Int.not_lt, -Int.not_le,← Int.not_lt]))
theorem qJ (c:Int) (w:World):aF Tryz.prog 280 [.int .u8 c] w (.bool (cf c)):=by
 refine aA Tryz.func280 rfl Tryz.ntmps280 rfl ?_
 repeat' (first|refine sT ?_|refine sM fun _=> ?_|(refine sC ?_ ?_<;>intro hb<;>try omega)|fail)
 all_goals ((refine rT1 ?_);(try simp only [← Int.not_lt] at*);simp_all [cf, -Int.not_lt, -Int.not_le,← Int.not_lt];try omega)
theorem HQ (c:Int) (w:World):aF Tryz.prog 311 [.int .u8 c] w (.bool (da c)):=by
 refine aA Tryz.func311 rfl Tryz.ntmps311 rfl ?_
 repeat' (first|(apply aa;exact rfl;exact rfl;(intro w hm;exact qJ c w))|(apply aa;exact rfl;exact rfl;(intro w hm;exact ll c w))|refine sT ?_|refine sT2 ?_|refine sM fun _=> ?_|(refine sC ?_ ?_<;>intro hb<;>try omega)|fail)
 all_goals ((refine rT1 ?_);simp_all [da])
def iW (p:Int→Bool) (l:List Int):List Int:=l.take (aI p l)
theorem Cg {p:Int→Bool} {c:Int} {r:List Int} (h:p c=true):iW p (c::r)=c::iW p r:=by simp [iW,aI,h]
theorem Cf {p:Int→Bool} {c:Int} {r:List Int} (h:p c=false):iW p (c::r)= []:=by simp [iW,aI,h]
theorem xu (p:Int→Bool) (l:List Int):(iW p l).length=aI p l:=by
 simp [iW,QX (co p l)]
set_option maxHeartbeats 1000000 in
theorem HE (a:ByteArray) (ha:a.size≤1000000) (i0:Nat) (hi0:i0≤a.size) (fis:FuncId) [Callable Tryz.prog fis] (p:Int→Bool) (hf: ∀ c w,aF Tryz.prog fis [.int .u8 c] w (.bool (p c))) (w0:World) (g4 g3 g5:Nat):
  Mw Tryz.prog 330 [.pointer (some ⟨g4,0,none⟩),.pointer (some ⟨g3,0,none⟩),.pointer (some ⟨g5,0,none⟩)] w0 [.box g4 3 [.int .i64 (i0:Int)],.box g3 9 [.string a],.box g5 368 [.func (.func fis) #[] #[]]] (iW p ((ap a).drop i0)) (fun c=> [.int .u8 c]):=by
 intro l I J H0 hy h0
 refine FnIn.msub (H' := [.box g4 3 [.int .i64 (i0:Int)],.box g3 9 [.string a],.box g5 368 [.func (.func fis) #[] #[]]]++H0) ?_ MSub.swap
 refine bM Tryz.func330 rfl Tryz.ntmps330 rfl ?_
 repeat' (first|refine sT ?_|refine sT2 ?_|refine sM fun _=> ?_|(refine sC ?_ ?_<;>intro hb<;>try omega)|fail)
 refine eH (fun y:Nat × List Int × List Blk=> [(0,.func (.yield l) #[] #[]),(1,.pointer (some ⟨g4,0,none⟩)),(2,.pointer (some ⟨g3,0,none⟩)),(3,.pointer (some ⟨g5,0,none⟩)),(5,.int .i64 (y.1:Int))])
  (fun y=> [.box g4 3 [.int .i64 (i0:Int)],.box g3 9 [.string a],.box g5 368 [.func (.func fis) #[] #[]]]++y.2.2)
  (fun y=>y.1≤a.size∧iW p ((ap a).drop i0)=y.2.1++iW p ((ap a).drop y.1)∧I y.2.1 y.2.2) (fun y=>a.size - y.1) (i0,[],H0) ⟨hi0,rfl,h0⟩ sB (MSub.refl _) ?_
 rintro ⟨i,pre,H1⟩ ⟨hi,hus,hI⟩
 dsimp only at hi hus hI ⊢
 by_cases hlt:i<a.size
 ·
  rw [bn hlt] at hus
  have hfc:=fun w=>hf (bat a i) w
  cases hp:p (bat a i)
  ·
   rw [hp] at hfc
   rw [Cf hp,Pa] at hus
   repeat' (first|(apply xD;exact rfl;exact rfl;infer_instance;exact rfl;(intro w' _;exact hfc w'))|refine sT ?_|refine sI ?_|refine sQ ?_|refine sT2 ?_|refine sQ2 ?_|refine sN ?_|refine sNQ ?_|refine sD ?_|refine sM fun _=> ?_|(refine sC ?_ ?_<;>intro hb<;>try omega)|(refine sCQ ?_ ?_<;>intro hb<;>try omega)|fail)
   exact jv (.inr rfl) rfl (.refl _) ⟨H1,.inl (hus ▸ hI),MSub.swap⟩
  ·
   rw [hp] at hfc
   rw [Cg hp] at hus
   repeat' (first|(apply xD;exact rfl;exact rfl;infer_instance;exact rfl;(intro w' _;exact hfc w'))|(apply lO (id:=3))|(apply IM;exact rfl;exact rfl;apply ba;exact rfl;exact rfl;exact hlt)|refine sT ?_|refine sI ?_|refine sQ ?_|refine sT2 ?_|refine sQ2 ?_|refine sN ?_|refine sNQ ?_|refine sD ?_|refine sM fun _=> ?_|(refine sC ?_ ?_<;>intro hb<;>try omega)|(refine sCQ ?_ ?_<;>intro hb<;>try omega)|fail)
   (with_reducible apply j8)
   ·
    exact rfl
   ·
    exact rfl
   ·
    exact rfl
   ·
    exact MSub.swapN
   ·
    exact fun w hm=>hy pre (bat a i) _ hus H1 [] hI w hm
   intro bb H2 hq
   cases bb
   ·
    repeat' (first|refine sT ?_|refine sI ?_|refine sT2 ?_|refine sM fun _=> ?_|(refine sC ?_ ?_<;>intro hb<;>try omega)|fail)
    exact jv eIO rfl (.refl _) ⟨H2,.inr ⟨_,hq⟩,by rw [Pa];exact .refl _⟩
   ·
    repeat' (first|refine sT ?_|refine sI ?_|refine sT2 ?_|refine sN ?_|refine sM fun _=> ?_|(refine sC ?_ ?_<;>intro hb<;>try omega)|fail)
    refine ⟨(i+1,_,H2),⟨hlt,hus.trans (by rw [List.append_assoc];rfl),hq⟩,(by dsimp only;omega),sB,?_⟩
    exact MSub.swapN'
 ·
  have e:i=a.size:=by omega
  subst e
  have hl:=au a
  rw [PA (i:=a.size) (by omega),show iW p []= [] from rfl,Pa] at hus
  repeat' (first|refine sT ?_|refine sI ?_|refine sQ ?_|refine sT2 ?_|refine sQ2 ?_|refine sN ?_|refine sNQ ?_|refine sD ?_|refine sM fun _=> ?_|(refine sC ?_ ?_<;>intro hb<;>try omega)|(refine sCQ ?_ ?_<;>intro hb<;>try omega)|fail)
  exact jv (.inr rfl) rfl (.refl _) ⟨H1,.inl (hus ▸ hI),MSub.swap⟩
theorem JJ (a:ByteArray) (i0:Nat) (fis:FuncId) (w:World):
  FnAt Tryz.prog 310 [.string a,.int .i64 (i0:Int),.func (.func fis) #[] #[]] w fun v H=> ∃ g4 g3 g5,v= .func (.func 330) #[] #[.pointer (some ⟨g4,0,none⟩),.pointer (some ⟨g3,0,none⟩),.pointer (some ⟨g5,0,none⟩)]∧H= [.box g4 3 [.int .i64 (i0:Int)],.box g3 9 [.string a],.box g5 368 [.func (.func fis) #[] #[]]]:=by
 refine aA Tryz.func310 rfl Tryz.ntmps310 rfl ?_
 repeat' (first|refine sT ?_|refine sM fun _=> ?_|(refine sC ?_ ?_<;>intro hb<;>try omega)|fail)
 rename_i g3 g4 g5
 exact bK (.inl rfl) rfl rfl (H' := [.box g4 3 [.int .i64 (i0:Int)],.box g3 9 [.string a],.box g5 368 [.func (.func fis) #[] #[]]]) mS ⟨g4,g3,g5,rfl,rfl⟩
set_option maxHeartbeats 1000000 in
theorem rT (a:ByteArray) (ha:a.size≤1000000) (i0:Nat) (hi0:i0≤a.size) (fis:FuncId) [Callable Tryz.prog fis] (p:Int→Bool) (hf: ∀ c w,aF Tryz.prog fis [.int .u8 c] w (.bool (p c))) (w:World):
  aF Tryz.prog 277 [.string a,.int .i64 (i0:Int),.func (.func fis) #[] #[]] w (.int .i64 (aI p ((ap a).drop i0):Int)):=by
 refine tr Tryz.func277 rfl Tryz.ntmps277 (by rfl) ?_
 refine p8 ?_
 repeat' (first|(apply aS;exact rfl;exact rfl;(intro w' hm;exact JJ a i0 fis w');(rintro v H' ⟨g4,g3,g5,rfl,rfl⟩))|refine sT ?_|refine sR ?_|refine sM fun _=> ?_|(refine sC ?_ ?_<;>intro hb<;>try omega)|(refine sCR ?_ ?_<;>intro hb<;>try omega)|fail)
 rename_i gn
 have hpl:=xu p ((ap a).drop i0)
 have hll:=au a
 have hrl:=co p ((ap a).drop i0)
 rw [Pp] at hrl
 rw [← hpl]
 refine ut (ps:= [12]) (us:=iW p ((ap a).drop i0)) (encs:=fun c=> [.int .u8 c]) (Hc:= [.box g4 3 [.int .i64 (i0:Int)],.box g3 9 [.string a],.box g5 368 [.func (.func fis) #[] #[]]]) (HU0:= [.box gn 3 [.int .i64 0]]) rfl (fun _=>rfl) rfl (HE a ha i0 hi0 fis p hf w g4 g3 g5)
  (fun pre HU=>HU= [.box gn 3 [.int .i64 (pre.length:Int)]]) (fun _=>False) MSub.swap rfl ?_ ?_ ?_
 ·
  rintro l pre u post hus _ rfl F F'
  have hlu:=congrArg List.length hus
  simp only [O2,Pe] at hlu
  change WR _ _ _ l _ _ ((12,Value.int .u8 u)::_) (.box gn 3 [.int .i64 (pre.length:Int)]::F)
  repeat' (first|refine sT ?_|refine sR ?_|refine sM fun _=> ?_|(refine sC ?_ ?_<;>intro hb<;>try omega)|(refine sCR ?_ ?_<;>intro hb<;>try omega)|fail)
  refine wR ⟨[.box gn 3 [.int .i64 (pre.length:Int)]],MSub.refl _,?_⟩
  change WR _ _ _ l _ _ _ (.box gn 3 [.int .i64 (pre.length:Int)]::F')
  repeat' (first|refine sT ?_|refine sR ?_|refine sN ?_|refine sM fun _=> ?_|(refine sC ?_ ?_<;>intro hb<;>try omega)|(refine sCR ?_ ?_<;>intro hb<;>try omega)|fail)
  refine oF [.box gn 3 [.int .i64 ((pre.length+1:Nat):Int)]] ?_ (by rw [O2];rfl)
  change MSub (_::F') _
  exact mS
 ·
  rintro D _ rfl
  change ck _ _ _ _ _ (jG D:: .box gn 3 [.int .i64 ((iW p ((ap a).drop i0)).length:Int)]::_)
  repeat' (first|refine sT ?_|refine sR ?_|refine sM fun _=> ?_|(refine sC ?_ ?_<;>intro hb<;>try omega)|(refine sCR ?_ ?_<;>intro hb<;>try omega)|fail)
  refine wG .hd ?_
  exact bK (.inl rfl) rfl rfl (MSub.nil _) rfl
 ·
  rintro D HU h
  exact h.elim
def DV:Option (Tk × Nat)→Value
 |some (t,n)=> .tuple #[.agg (bk t).toArray,.int .i64 (n:Int)]
 |none=> .tuple #[.agg (bk dq).toArray,.int .i64 0]
def atT (i:Nat) (o:Option (Tk × Nat)):Option (Tk × Nat):=o.map fun x=>({ x.1 with at_:=(i:Int) },x.2)
def fS (l:List Int):Option (Tk × Nat):=
 let w:=aI aJ l
 let p:=cv (l.drop w)
 let n:=if p=0 then w else w+1+p
 if w=0∨4<p then none
 else if (gR (l.take n)).2≠0 then none else some (⟨1,(gR (l.take n)).1,ay,aW,0⟩,n)
theorem nQ {c:Int} {r:List Int} (h:c=46):cv (c::r)=aI aJ r:=by subst h;rfl
theorem mK {c:Int} {r:List Int} (h:c≠46):cv (c::r)=0:=by
 unfold cv
 split
 ·
  rename_i heq;injection heq with h1 h2;exact absurd h1 h
 ·
  rfl
set_option maxHeartbeats 1000000 in
theorem HM (a:ByteArray) (ha:a.size≤100000) (i:Nat) (hi:i≤a.size) (g:Nat) (w:World) (hr:Ro w g 0 [.string a]):
  aF Tryz.prog 245 [.pointer (some ⟨g,0,none⟩),.int .i64 (i:Int)] w (DV (atT i (fS ((ap a).drop i)))):=by
 refine aA Tryz.func245 rfl Tryz.ntmps245 rfl ?_
 have hl:=au a
 have hL1:=rT a (by omega) i hi 278 aJ ll
 have hwl:=co aJ ((ap a).drop i)
 rw [Pp] at hwl
 generalize hw:aI aJ ((ap a).drop i)=n at hL1 hwl
 generalize hpd:cv ((ap a).drop (i+n))=p
 have hN:fS ((ap a).drop i)=if n=0∨4<p then none else if (gR (((ap a).drop i).take (if p=0 then n else n+1+p))).2≠0 then none else some (⟨1,(gR (((ap a).drop i).take (if p=0 then n else n+1+p))).1,ay,aW,0⟩,if p=0 then n else n+1+p):=by
  simp only [fS,hw,Qy,hpd]
 rw [hN]
 have hL2:=fun h=>rT a (by omega) (i+n+1) h 278 aJ ll
 have hcut: ∀ m,ap (sub a i (i+m))=((ap a).drop i).take m:=fun m=>by rw [eF,show i+m - i=m by omega]
 have hple:p≤a.size - (i+n) - 1:=by
  rw [← hpd]
  by_cases h:i+n<a.size
  ·
   rw [bn h]
   by_cases h46:bat a (i+n)=46
   ·
    rw [nQ h46]
    have:=co aJ ((ap a).drop (i+n+1))
    rw [Pp] at this
    omega
   ·
    rw [mK h46];omega
  ·
   rw [PA (by omega)];simp [cv]
 have hend: ∀ h:i+n+1<a.size,bat a (i+n)=46→(p=aI aJ ((ap a).drop (i+n+1))):=fun h h46=>by
  rw [← hpd,bn (by omega),nQ h46]
 have hno: ¬ (i+n+1<a.size∧bat a (i+n)=46∧aJ (bat a (i+n+1))=true)→p=0:=fun h=>by
  by_cases h1:i+n<a.size
  ·
   by_cases h46:bat a (i+n)=46
   ·
    by_cases h2:i+n+1<a.size
    ·
     rw [hend h2 h46,bn h2,aI,if_neg fun h3=>h ⟨h2,h46,h3⟩]
    ·
     rw [← hpd,bn h1,nQ h46,PA (by omega)];rfl
   ·
    rw [← hpd,bn h1,mK h46]
  ·
   rw [← hpd,PA (by omega)];rfl
 have hyes:i+n+1<a.size→bat a (i+n)=46→aJ (bat a (i+n+1))=true→0<p:=fun h h46 h3=>by
  rw [hend h h46,bn h,aI,if_pos h3];omega
 repeat' (first|(apply aj;exact rfl;apply aN (o:=0) (off:=0);exact hr;exact rfl;exact rfl)|(apply aa;exact rfl;exact rfl;(intro w hm;exact hL1 w))|(apply aa;exact rfl;exact rfl;(intro w hm;exact ll _ w))|(refine FJ (id:=7) [0,1,4] rfl (ι:=Nat × Nat) (fun x=> [(7,.int .i64 (x.1:Int)),(5,.int .i64 (x.2:Int))]) (fun x=>x.1=p∧x.2=if p=0 then n else n+1+p) ?_ ?_)|(apply aa;exact rfl;exact rfl;(intro w hm;exact hL2 (by omega) w))|refine sT ?_|refine sT2 ?_|refine sN ?_|refine sM fun _=> ?_|(refine sC ?_ ?_<;>intro hb<;>try omega)|exact cT|fail)
 ·
  (refine lI ?_)
  rw [if_pos (.inl (by omega))];rfl
 ·
  rename_i h1 h2 h3
  refine cL ((aI aJ ((ap a).drop (i+n+1)),n+(1+aI aJ ((ap a).drop (i+n+1))))) ?_ sB mS
  have h5:=hyes (by omega) h3 hb
  have h6:=hend (by omega) h3
  rw [← h6]
  exact ⟨rfl,by rw [if_neg (by omega)];omega⟩
 ·
  rename_i h1 h2 h3
  refine cL ((0,n)) ?_ sB mS
  have:=hno fun h=>by rw [hb] at h;cases h.2.2
  exact ⟨this.symm,by rw [if_pos this]⟩
 ·
  refine cL ((0,n)) ?_ sB mS
  have:=hno fun h=>hb h.2.1
  exact ⟨this.symm,by rw [if_pos this]⟩
 ·
  refine cL ((0,n)) ?_ sB mS
  have:=hno fun h=>by omega
  exact ⟨this.symm,by rw [if_pos this]⟩
 rintro ⟨p',m⟩ ⟨rfl,hm⟩
 have hn0:n≠0:=by omega
 dsimp only at hm ⊢
 rw [← hm]
 by_cases h4:4<p'
 ·
  rw [if_pos (.inr h4)]
  repeat' (first|refine sT ?_|refine sT2 ?_|refine sM fun _=> ?_|(refine sC ?_ ?_<;>intro hb<;>try omega)|exact cT|fail)
  all_goals first|(exfalso;omega)|((refine lI ?_);rfl)
 ·
  rw [if_neg (by omega)]
  have him:i+m≤a.size:=by rw [hm];split<;>omega
  have hP:=tB (sub a i (i+m)) (by rw [cD _ him];omega)
  rw [hcut m] at hP
  generalize gR (((ap a).drop i).take m)=q at hP
  repeat' (first|(apply aj;exact rfl;apply aN (o:=0) (off:=0);exact hr;exact rfl;exact rfl)|(apply aa;exact rfl;exact rfl;(intro w hm;exact hP w))|refine sT ?_|refine sT2 ?_|refine sN ?_|refine sM fun _=> ?_|(refine sC ?_ ?_<;>intro hb<;>try omega)|exact cT|fail)
  ·
   (refine lI ?_)
   rw [if_pos hb];rfl
  ·
   (refine lI ?_)
   rw [if_neg hb];rfl
theorem l8 (a:ByteArray) (j:Nat):((ap a).drop j).headD 0=bat a j:=by
 rw [bat,List.headD_eq_head?_getD,List.head?_drop,PE]
theorem zL (a:ByteArray) (ha:a.size≤100000) (j:Nat) (g:Nat) (w:World) (hr:Ro w g 0 [.string a]):
  aF Tryz.prog 282 [.pointer (some ⟨g,0,none⟩),.int .i64 (j:Int)] w (.int .u8 (bat a j)):=by
 refine aA Tryz.func282 rfl Tryz.ntmps282 rfl ?_
 have hl:=au a
 repeat' (first|(apply aj;exact rfl;apply aN (o:=0) (off:=0);exact hr;exact rfl;exact rfl)|refine sT ?_|refine sT2 ?_|refine sN ?_|refine sM fun _=> ?_|(refine sC ?_ ?_<;>intro hb<;>try omega)|exact cT|fail)
 ·
  (refine rT1 ?_)
  rfl
 ·
  (refine rT1 ?_)
  have e:bat a j=0:=by rw [bat,PE,P5 (by omega)];rfl
  rw [e]
def upW (l:List Int):List Int:=(l.take (aI da l)).map upC
theorem uQ (l:List Int):(upW l).length=aI da l:=by
 have:=co da l
 simp [upW];omega
theorem Jg {l:List Int} (h:iC l):iC (upW l):=by
 intro c hc
 obtain ⟨d,hd,rfl⟩:=Py.1 hc
 have:=h d (P2 hd)
 unfold upC
 split<;>omega
theorem Ce (a:ByteArray) (ha:a.size≤100000) (i:Nat) (hi:i≤a.size) (g:Nat) (w:World) (hr:Ro w g 0 [.string a]):
  aF Tryz.prog 281 [.pointer (some ⟨g,0,none⟩),.int .i64 (i:Int)] w (.string (mkB (upW ((ap a).drop i)))):=by
 refine aA Tryz.func281 rfl Tryz.ntmps281 rfl ?_
 have hl:=au a
 have hL:=rT a (by omega) i hi 311 da HQ
 have hwl:=co da ((ap a).drop i)
 rw [Pp] at hwl
 unfold upW
 generalize aI da ((ap a).drop i)=n at hL hwl
 have hU:=rj (sub a i (i+n)) (by rw [cD _ (by omega)];omega)
 have e:upB (sub a i (i+n))=mkB ((((ap a).drop i).take n).map upC):=by rw [upB,eF,show i+n - i=n by omega]
 rw [e] at hU
 repeat' (first|(apply aj;exact rfl;apply aN (o:=0) (off:=0);exact hr;exact rfl;exact rfl)|(apply aa;exact rfl;exact rfl;(intro w hm;exact hL w))|(apply aa;exact rfl;exact rfl;(intro w hm;exact hU w))|refine sT ?_|refine sT2 ?_|refine sN ?_|refine sM fun _=> ?_|(refine sC ?_ ?_<;>intro hb<;>try omega)|exact cT|fail)
 (refine rT1 ?_)
 rfl
def cO:List Int→Option Nat
 | []=>none
 |c::r=>if c≠34 then (cO r).map (· +1) else match r with
  | []=>some 0
  |d::r' =>if d=34 then (cO r').map (· +2) else some 0
theorem lu {c:Int} {r:List Int} (h:c≠34):cO (c::r)=(cO r).map (· +1):=by rw [cO.eq_def];simp [h]
def nG (l:List Int):Option (Tk × Nat):=
 if l.headD 0≠34 then none
 else match cO (l.drop 1) with
  |none=>none
  |some k=>if (gj (l.take (k+2))).2≠0 then none else some (⟨2,0,mkB (gj (l.take (k+2))).1,aW,0⟩,k+2)
set_option maxHeartbeats 1000000 in
theorem LA (a:ByteArray) (ha:a.size≤100000) (i:Nat) (hi:i<a.size) (g:Nat) (w:World) (hr:Ro w g 0 [.string a]):
  aF Tryz.prog 246 [.pointer (some ⟨g,0,none⟩),.int .i64 (i:Int)] w (DV (atT i (nG ((ap a).drop i)))):=by
 refine aA Tryz.func246 rfl Tryz.ntmps246 rfl ?_
 have hl:=au a
 unfold nG
 rw [l8,Qy]
 by_cases h34:bat a i=34
 ·
  rw [if_neg (by omega)]
  have hcut: ∀ m,ap (sub a i (i+m))=((ap a).drop i).take m:=fun m=>by rw [eF,show i+m - i=m by omega]
  repeat' (first|(apply aj;exact rfl;apply aN (o:=0) (off:=0);exact hr;exact rfl;exact rfl)|refine sT ?_|refine sT2 ?_|refine sN ?_|refine sM fun _=> ?_|(refine sC ?_ ?_<;>intro hb<;>try omega)|exact cT|fail)
  all_goals try (exfalso;omega)
  rename_i g4
  generalize hC:cO ((ap a).drop (i+1))=C
  refine ax [0,1,4,5] rfl (fun j:Nat=> [(6,.int .i64 (j:Int))]) (fun _=> [.box g4 291 (bk dq)]) (fun j=>i+1≤j∧j≤a.size∧C=(cO ((ap a).drop j)).map (· +(j - (i+1)))) (fun j=>a.size - j) (i+1) ⟨by omega,by omega,by rw [hC];simp⟩ sB mS ?_
  rintro j ⟨hj1,hj2,hj3⟩
  by_cases hlt:j<a.size
  ·
   rw [bn hlt] at hj3
   by_cases hq:bat a j=34
   ·
    by_cases hn:j+1<a.size∧bat a (j+1)=34
    ·
     rw [bn hn.1,hq,hn.2] at hj3
     simp only [cO,ne_eq,not_true_eq_false,if_false,if_true,RS] at hj3
     have hn1:=hn.1
     repeat' (first|(apply aj;exact rfl;apply aN (o:=0) (off:=0);exact hr;exact rfl;exact rfl)|refine sT ?_|refine sT2 ?_|refine sN ?_|refine sM fun _=> ?_|(refine sC ?_ ?_<;>intro hb<;>try omega)|exact cT|fail)
     all_goals try (exfalso;omega)
     refine ⟨j+2,?_,(by first|omega|(dsimp only;omega)),sB,sB,mS⟩
     refine ⟨by omega,by omega,?_⟩
     rw [hj3,show j+1+1=j+2 by omega]
     congr 1
     funext k
     simp only [Function.comp]
     omega
    ·
     have hC0:C=some (j - (i+1)):=by
      rw [hj3,hq]
      by_cases h1:j+1<a.size
      ·
       rw [bn h1]
       have h2:bat a (j+1)≠34:=fun h=>hn ⟨h1,h⟩
       simp [cO,h2]
      ·
       rw [PA (i:=j+1) (by omega)]
       simp [cO]
     rw [hC0]
     dsimp only
     have hm:j - (i+1)+2=j+1 - i:=by omega
     rw [hm]
     have hc:=hcut (j+1 - i)
     rw [show i+(j+1 - i)=j+1 by omega] at hc
     have hP:=Fs (sub a i (j+1)) (by rw [cD _ (by omega)];omega)
     rw [hc] at hP
     generalize gj (((ap a).drop i).take (j+1 - i))=q at hP
     repeat' (first|(apply aj;exact rfl;apply aN (o:=0) (off:=0);exact hr;exact rfl;exact rfl)|(apply aa;exact rfl;exact rfl;(intro w hm;exact hP w))|refine sT ?_|refine sT2 ?_|refine sN ?_|refine sM fun _=> ?_|(refine sC ?_ ?_<;>intro hb<;>try omega)|exact cT|fail)
     all_goals first|(exfalso;omega)|((refine lI ?_);first|(rw [if_pos hb];rfl)|(rw [if_neg hb];rfl))
   ·
    rw [lu hq,RS] at hj3
    repeat' (first|(apply aj;exact rfl;apply aN (o:=0) (off:=0);exact hr;exact rfl;exact rfl)|refine sT ?_|refine sT2 ?_|refine sN ?_|refine sM fun _=> ?_|(refine sC ?_ ?_<;>intro hb<;>try omega)|exact cT|fail)
    all_goals try (exfalso;omega)
    refine ⟨j+1,?_,(by first|omega|(dsimp only;omega)),sB,sB,mS⟩
    refine ⟨by omega,by omega,?_⟩
    rw [hj3]
    congr 1
    funext k
    simp only [Function.comp]
    omega
  ·
   rw [PA (by omega)] at hj3
   rw [hj3]
   dsimp only [cO,Option.map]
   repeat' (first|(apply aj;exact rfl;apply aN (o:=0) (off:=0);exact hr;exact rfl;exact rfl)|refine sT ?_|refine sT2 ?_|refine sN ?_|refine sM fun _=> ?_|(refine sC ?_ ?_<;>intro hb<;>try omega)|exact cT|fail)
   all_goals try (exfalso;omega)
   (refine lI ?_)
   rfl
 ·
  rw [if_pos (by omega)]
  repeat' (first|(apply aj;exact rfl;apply aN (o:=0) (off:=0);exact hr;exact rfl;exact rfl)|refine sT ?_|refine sT2 ?_|refine sN ?_|refine sM fun _=> ?_|(refine sC ?_ ?_<;>intro hb<;>try omega)|exact cT|fail)
  all_goals try (exfalso;omega)
  (refine lI ?_)
  rfl
end Go.SL
