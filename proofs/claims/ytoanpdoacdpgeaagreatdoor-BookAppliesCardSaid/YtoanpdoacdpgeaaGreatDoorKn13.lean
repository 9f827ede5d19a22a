/-
  Lemmas and walks, put together: W12 W2 W13 W3 W15 W16 W5 W6 W7.
-/
import Derived.Test.YtoanpdoacdpgeaaGreatDoorKn12
set_option linter.unusedSimpArgs false
set_option linter.unusedVariables false
set_option maxRecDepth 20000
namespace Go.SL
open Go Go.Proofs
attribute [local irreducible] W WL WQ WG WA VOp thn blk ba aP FnIn
def fJ (fn:Int):ByteArray:=if 51≤fn then au else (au::cV).getD fn.toNat au
theorem wrap_i64 {a:Int} (h1:0≤a) (h2:a≤255):IntKind.i64.wrap a=a:=I64.wrap ⟨by omega,by omega⟩
theorem kM (fn:Int) (h0:0≤fn) (h1:fn≤255) (w:World):ay Tryz.prog 326 [.int .u8 fn] w (.string (fJ fn)):=by
 obtain ⟨j,rfl⟩:=PF h0
 refine aq Tryz.func326 rfl Tryz.ntmps326 rfl ?_
 have hg: ∀ h:j<51,((au::cV).map Value.string)[0+j*1]? =some (.string ((au::cV).getD j au)):=by
  intro h
  have:j<(au::cV).length:=h
  rw [show 0+j*1=j by omega]
  simp only [Om,Nx,Nc this]
  rfl
 repeat' (first|(apply ak;exact rfl;apply vB;exact rfl;exact wrap_i64 h0 h1)|(apply ak;exact rfl;apply aj (j:=j);exact rfl;exact rfl;omega)|(apply ak;exact rfl;apply bN;exact rfl;exact pK;exact hg (by omega))|refine sT ?_|refine sM fun _=> ?_|(refine sC ?_ ?_<;>intro hb<;>try omega)|fail)
 ·
  (refine rT1 ?_)
  rw [fJ,if_pos (by omega)]
  rfl
 ·
  (refine rT1 ?_)
  rw [fJ,if_neg (by omega)]
  rfl
theorem za {i:Nat} (h:i<50):fJ ((i:Int)+1)=cV[i]'h:=by
 have h2:i<cV.length:=h
 rw [fJ,if_neg (by omega),show ((i:Int)+1).toNat=i+1 by omega]
 simp [h2]
 rfl
theorem sL (b:ByteArray) (w:World):ay Tryz.prog 364 [.string b] w (.tuple #[.int .u8 (bf b).1,.int .i64 (bf b).2]):=by
 refine aq Tryz.func364 rfl Tryz.ntmps364 rfl ?_
 repeat' (first|refine sT ?_|refine sM fun _=> ?_|(refine sC ?_ ?_<;>intro hb<;>try omega)|fail)
 refine fq (fun i:Nat=> [(0,.string b),(4,.int .u8 ((i:Int)+1))]) (fun _=> []) (fun i=>i≤50∧dH cV b 0=dH (cV.drop i) b (i:Int)) (fun i=>50 - i) 0 ⟨by omega,rfl⟩ ?_ ?_ ?_
 ·
  exact sB
 ·
  exact mS
 ·
  rintro i ⟨hi,hrec⟩
  by_cases hlt:i<50
  ·
   have hl:i<cV.length:=hlt
   have hr: ∀ w,ay Tryz.prog 326 [.int .u8 ((i:Int)+1)] w (.string (cV[i]'hl)):=fun w=>za hlt ▸ kM _ (by omega) (by omega) w
   rw [Nn hl,dH] at hrec
   repeat' (first|(apply aa;exact rfl;exact rfl;(intro w hm;exact hr w))|(apply ak;exact rfl;apply dK (c:=((i+1:Nat):Int)+1);exact rfl;exact rfl;exact eC (by omega) (by omega))|refine sT ?_|refine sM fun _=> ?_|(refine sC ?_ ?_<;>intro hb<;>try omega)|fail)
   ·
    refine iJ (.inl rfl) Tryz.results364 rfl rfl (.nil _) ?_
    rw [bf,hrec,if_pos hb.symm,if_neg (by omega)]
   ·
    refine ⟨i+1,⟨by omega,?_⟩,by omega,?_,?_⟩
    ·
     rw [hrec,if_neg (fun h=>hb h.symm)]
     rfl
    ·
     exact sB
    ·
     exact mS
  ·
   have e:i=50:=by omega
   subst e
   repeat' (first|refine sT ?_|refine sM fun _=> ?_|(refine sC ?_ ?_<;>intro hb<;>try omega)|fail)
   refine iJ (.inl rfl) Tryz.results364 rfl rfl (.nil _) ?_
   rw [bf,hrec]
   rfl
def bJ (fn:Int):Int × Int:=
 if fn=5∨fn=6∨fn=7∨fn=25∨fn=39∨fn=40∨fn=18∨fn=19∨fn=45∨fn=44 then (2,2)
 else if fn=20∨fn=41∨fn=43 then (2,3)
 else if fn=32∨fn=33 then (1,2)
 else if fn=34 then (3,3)
 else if fn=21∨fn=22∨fn=23∨fn=38∨fn=9∨fn=10∨fn=11∨fn=12∨fn=14∨fn=15∨fn=16∨fn=17 then (1,16)
 else if fn=30 then (2,16)
 else (1,1)
set_option maxRecDepth 10000 in
theorem jC (fn:Int) (w:World):ay Tryz.prog 327 [.int .u8 fn] w (.tuple #[.int .i64 (bJ fn).1,.int .i64 (bJ fn).2]):=by
 refine aq Tryz.func327 rfl Tryz.ntmps327 rfl ?_
 repeat' (first|refine sT ?_|refine sM fun _=> ?_|(refine sC ?_ ?_<;>intro hb<;>try omega)|fail)
 all_goals ((refine rT2 ?_);simp_all [bJ])
def eM (fn i:Int):Bool:=
 if i<0∨(bJ fn).2≤i then false
 else if fn=9∨fn=10∨fn=11∨fn=12∨fn=14∨fn=15∨fn=16∨fn=17 then true
 else if fn=13∨fn=18∨fn=19∨fn=45∨fn=43 then decide (i=0)
 else if fn=44 then decide (i=1)
 else decide (46≤fn) && decide (fn≤50)
set_option maxRecDepth 10000 in
theorem sF (fn i:Int) (w:World):ay Tryz.prog 352 [.int .u8 fn,.int .i64 i] w (.bool (eM fn i)):=by
 refine aq Tryz.func352 rfl Tryz.ntmps352 rfl ?_
 repeat' (first|(apply aa;exact rfl;exact rfl;(intro w hm;exact jC fn w))|refine sT ?_|refine sM fun _=> ?_|(refine sC ?_ ?_<;>intro hb<;>try omega)|fail)
 all_goals ((refine rT1 ?_);((try simp only [← Int.not_lt] at*);simp_all [eM, -Int.not_lt, -Int.not_le,← Int.not_lt]))
end Go.SL
namespace Go.SL
open Go Go.Proofs
attribute [local irreducible] W WL WQ WG VOp thn blk ba aP FnIn
theorem mJ (b:ByteArray):ma b=(ap b).map (Value.int .u8):=by simp [ma,ap]
theorem rZ {α β:Type} (f:α→α) (E:α→β) (xs:List α) (i:Nat) (h:i<xs.length):(((xs.take i).map f++xs.drop i).map E).set i (E (f xs[i]))=((xs.take (i+1)).map f++xs.drop (i+1)).map E:=by
 rw [← List.map_set,Pp _ _ (by simp;omega)]
 have e1:xs.drop i=xs[i]::xs.drop (i+1):=Nn h
 have e2:xs.take (i+1)=xs.take i++ [xs[i]]:=Nk h
 have e3:i - ((xs.take i).map f).length=0:=by simp;omega
 rw [e3,e1,e2]
 simp only [List.set_cons_zero,Ok,NM,OD,NG,Nf,Ng]
set_option maxRecDepth 10000 in
theorem CP (f:FuncId) [Callable Tryz.prog f] (g:Int→Int) (hf: ∀ c w,ay Tryz.prog f [.int .u8 c] w (.int .u8 (g c))) (a:ByteArray) (ha:a.size≤1000000) (w:World):
  aP Tryz.prog 209 [.string a,.func (.func f) #[] #[]] w fun v H=> ∃ gb cap,v= .slice (some ⟨gb,0,none⟩) a.size cap∧H= [.byt gb 5 a.size cap (((ap a).map g).map (Value.int .u8))]:=by
 refine aq Tryz.func209 rfl Tryz.ntmps209 rfl ?_
 repeat' (first|(apply kE;exact rfl;exact rfl;intro gb cap)|refine sT ?_|refine sM fun _=> ?_|(refine sC ?_ ?_<;>intro hb<;>try omega)|fail)
 refine fq (fun i:Nat=> [(5,.slice (some ⟨gb,0,none⟩) a.size cap),(10,.slice (some ⟨gb,0,none⟩) a.size cap),(11,.int .i64 (a.size:Int)),(12,.int .i64 (i:Int)),(1,.func (.func f) #[] #[])])
  (fun i=> [.byt gb 5 a.size cap ((((ap a).take i).map g++(ap a).drop i).map (Value.int .u8))]) (fun i=>i≤a.size) (fun i=>a.size - i) 0 (by omega) ?_ ?_ ?_
 ·
  exact sB
 ·
  rw [mJ];simp only [OA,OD,Ng,OC];exact mS
 ·
  intro i hi
  have hl:=av a
  by_cases hlt:i<a.size
  ·
   have hil:i<(ap a).length:=by omega
   have hget:((((ap a).take i).map g++(ap a).drop i).map (Value.int .u8))[0+i*1]? =some (.int .u8 (ap a)[i]):=by
    rw [Om,show 0+i*1=i by omega,Ol (by simp;omega)]
    simp [O1 (Nat.le_of_lt hil),OE]
   repeat' (first|(apply ak;exact rfl;apply aj;exact rfl;exact rfl;exact hlt)|(apply ak;exact rfl;apply ji;exact rfl;exact .hd;exact hget)|(apply bI;exact rfl;exact rfl;infer_instance;exact rfl;(intro w hm;exact hf _ w))|(apply kF;exact rfl;exact rfl;exact .hd;exact rfl;(simp;omega))|(apply ak;exact rfl;apply da;exact rfl;exact rfl;(constructor<;>omega))|refine sT ?_|refine sM fun _=> ?_|(refine sC ?_ ?_<;>intro hb<;>try omega)|fail)
   refine ⟨i+1,by omega,by omega,?_,?_⟩
   ·
    exact sB
   ·
    rw [show 0+i*1=i by omega,rZ g (Value.int .u8) (ap a) i hil]
    exact mS
  ·
   have e:i=a.size:=by omega
   subst e
   repeat' (first|refine sT ?_|refine sM fun _=> ?_|(refine sC ?_ ?_<;>intro hb<;>try omega)|fail)
   refine cG (.inl rfl) Tryz.results209 rfl (.refl _) ⟨gb,cap,rfl,?_⟩
   rw [NQ (by omega),NC (by omega),Nl]
def js (c:Int):Int:=if c<32∨126<c then 0 else 32
set_option maxRecDepth 10000 in
theorem J8 (c:Int) (w:World):ay Tryz.prog 210 [.int .u8 c] w (.int .u8 (js c)):=by
 refine aq Tryz.func210 rfl Tryz.ntmps210 rfl ?_
 repeat' (first|refine sT ?_|refine sM fun _=> ?_|(refine sC ?_ ?_<;>intro hb<;>try omega)|fail)
 all_goals ((refine rT1 ?_);((try simp only [← Int.not_lt] at*);simp_all [js, -Int.not_lt, -Int.not_le]))
set_option maxRecDepth 10000 in
theorem Ff (c:Int) (w:World):ay Tryz.prog 211 [.int .i32 c] w (.bool (decide (c=0))):=by
 refine aq Tryz.func211 rfl Tryz.ntmps211 rfl ?_
 repeat' (first|refine sT ?_|refine sM fun _=> ?_|(refine sC ?_ ?_<;>intro hb<;>try omega)|fail)
 all_goals ((refine rT1 ?_);rfl)
def iY (q:Int→Bool) (l:List Int):Int:=match l.findIdx? q with
 |some i=>(i:Int)
 |none=> -1
theorem zV {q:Int→Bool} {l:List Int} {i:Nat} (h:i<l.length) (hq:q l[i]=true) (hno: ∀ j (h:j<l.length),j<i→q l[j]=false):iY q l=(i:Int):=by
 have:l.findIdx? q=some i:=by
  rw [OW]
  exact ⟨h,hq,fun j hj=>by simpa using hno j (by omega) hj⟩
 simp [iY,this]
theorem xJ {q:Int→Bool} {l:List Int} (hno: ∀ j (h:j<l.length),q l[j]=false):iY q l= -1:=by
 have:l.findIdx? q=none:=by
  rw [OJ]
  intro x hx
  obtain ⟨j,hj,rfl⟩:=O7 hx
  exact hno j hj
 simp [iY,this]
set_option maxRecDepth 10000 in
theorem xF (f:FuncId) [Callable Tryz.prog f] (q:Int→Bool) (hf: ∀ c w,ay Tryz.prog f [.int .i32 c] w (.bool (q c))) (a:ByteArray) (ha:a.size≤1000000) (hasc: ∀ i (h:i<a.size),(a[i]'h).toNat<128) (w:World):
  ay Tryz.prog 256 [.string a,.func (.func f) #[] #[],.bool true] w (.int .i64 (iY q (ap a))):=by
 refine aq Tryz.func256 rfl Tryz.ntmps256 rfl ?_
 have hl:=av a
 repeat' (first|(apply wK;exact rfl;exact rfl;intro gi)|refine sT ?_|refine sM fun _=> ?_|(refine sC ?_ ?_<;>intro hb<;>try omega)|fail)
 refine fq (fun i:Nat=> [(0,.string a),(1,.func (.func f) #[] #[]),(2,.bool true),(10,.pointer (some ⟨gi,0,none⟩))])
  (fun i=> [.obj gi (.stringIter a i)]) (fun i=>i≤a.size∧ ∀ j (h:j<(ap a).length),j<i→q (ap a)[j]=false) (fun i=>a.size - i) 0 ⟨by omega,fun j _ h=>by omega⟩ ?_ ?_ ?_
 ·
  exact sB
 ·
  exact mS
 ·
  rintro i ⟨hi,hno⟩
  repeat' (first|(apply ym;exact rfl;exact rfl;exact .hd;exact hasc i;all_goals intro hb)|(apply bI;exact rfl;exact rfl;infer_instance;exact rfl;(intro w hm;exact hf _ w))|refine sT ?_|refine sM fun _=> ?_|(refine sC ?_ ?_<;>intro hb<;>try omega)|fail)
  all_goals (try simp only [beq_true] at*)
  ·
   rename_i hlt
   have hq:=hb
   refine cG (.inl rfl) Tryz.results256 rfl (MSub.nil _) ?_
   have h1:=oY a i hlt
   rw [zV (i:=i) (by omega) (by rw [h1];exact hq) hno]
  ·
   rename_i hlt
   have hq:=hb
   refine ⟨i+1,⟨by omega,fun j hj hji=> ?_⟩,by omega,?_,?_⟩
   ·
    by_cases e:j=i
    ·
     subst e
     rw [oY a j hlt];exact hq
    ·
     exact hno j hj (by omega)
   ·
    exact sB
   ·
    exact mS
  ·
   have hge:=hb
   refine cG (.inl rfl) Tryz.results256 rfl (MSub.nil _) ?_
   rw [xJ fun j hj=>hno j hj (by omega)]
set_option maxRecDepth 10000 in
theorem xX (f:FuncId) [Callable Tryz.prog f] (q:Int→Bool) (hf: ∀ c w,ay Tryz.prog f [.int .i32 c] w (.bool (q c))) (a:ByteArray) (ha:a.size≤1000000) (hasc: ∀ i (h:i<a.size),(a[i]'h).toNat<128) (w:World):
  ay Tryz.prog 208 [.string a,.func (.func f) #[] #[]] w (.int .i64 (iY q (ap a))):=by
 refine aq Tryz.func208 rfl Tryz.ntmps208 rfl ?_
 repeat' (first|(apply aa;exact rfl;exact rfl;(intro w hm;exact xF f q hf a ha hasc w))|refine sT ?_|refine sM fun _=> ?_|(refine sC ?_ ?_<;>intro hb<;>try omega)|fail)
 all_goals ((refine rT1 ?_);rfl)
def jr (a:ByteArray):ByteArray:=⟨(((ap a).map js).map fun n=>UInt8.ofNat n.toNat).toArray⟩
theorem lY (a:ByteArray):(jr a).size=a.size:=by
 have:(jr a).size=((ap a).map js).length:=by simp [jr,ByteArray.size]
 rw [this];simp [av]
theorem qC (a:ByteArray):ap (jr a)=(ap a).map js:=by
 simp only [ap,jr,P8]
 congr 1
 funext c
 simp only [Function.comp,js]
 split<;>simp
theorem zU (q:Int→Bool) (l:List Int):decide (iY q l<0)=l.all fun c=> !q c:=by
 unfold iY
 cases h:l.findIdx? q with
 |none=>
  rw [OJ] at h
  rw [NL]
  simpa using h
 |some i=>
  rw [OW] at h
  obtain ⟨h1,h2,_⟩:=h
  rw [NL]
  simp only [decide_eq_true_eq,Ou]
  constructor
  ·
   intro h;omega
  ·
   intro h
   have:=h _ (NW h1)
   rw [h2] at this
   cases this
theorem zq (a:ByteArray):decide (iY (fun c=>decide (c=0)) (ap (jr a))<0)=gC a:=by
 rw [zU,qC]
 simp only [ap,List.all_map,gC]
 congr 1
 funext c
 have e:(decide (js (c.toNat:Int)=0))= !(decide (32≤c.toNat) && decide (c.toNat≤126)):=by
  rw [NL]
  by_cases h:(c.toNat:Int)<32∨126<(c.toNat:Int)
  ·
   simp only [js,if_pos h];simp;omega
  ·
   simp only [js,if_neg h];simp;omega
 simp only [Function.comp,e,Qa]
theorem xC (a:ByteArray): ∀ i (h:i<(jr a).size),((jr a)[i]'h).toNat<128:=by
 intro i h
 have h1:=oY (jr a) i h
 have h2:((jr a)[i].toNat:Int)=js ((ap a)[i]'(by rw [av,← lY];exact h)):=by
  rw [← h1]
  simp [qC]
 have h3: ∀ x,js x=0∨js x=32:=fun x=>by unfold js;split<;>simp
 rcases h3 ((ap a)[i]'(by rw [av,← lY];exact h)) with h4|h4<;>omega
set_option maxRecDepth 10000 in
theorem oR (a:ByteArray) (ha:a.size≤1000000) (w:World):ay Tryz.prog 162 [.string a] w (.bool (gC a)):=by
 refine aq Tryz.func162 rfl Tryz.ntmps162 rfl ?_
 repeat' (first|((with_reducible apply aC (R:=fun v H=> ∃ gb cap,v= .slice (some ⟨gb,0,none⟩) a.size cap∧H= [.byt gb 5 a.size cap (((ap a).map js).map (Value.int .u8))]));exact rfl;exact rfl;(intro w hm;exact CP 210 js J8 a ha w);(rintro v H' ⟨gb,cap,rfl,rfl⟩))|(apply ak;exact rfl;apply pO;exact rfl;exact .hd;simp [av])|(apply aa;exact rfl;exact rfl;(intro w hm;exact xX 211 (fun c=>decide (c=0)) Ff (jr a) (by rw [lY];exact ha) (xC a) w))|refine sT ?_|refine sM fun _=> ?_|(refine sC ?_ ?_<;>intro hb<;>try omega)|fail)
 all_goals ((refine rT1 ?_);rw [← zq])
set_option maxRecDepth 10000 in
theorem tP (a:ByteArray) (w:World):ay Tryz.prog 134 [.string a] w (.int .i64 (eB a)):=by
 refine aq Tryz.func134 rfl Tryz.ntmps134 rfl ?_
 repeat' (first|(apply aa;exact rfl;exact rfl;(intro w hm;exact oR a (by omega) w))|refine sT ?_|refine sM fun _=> ?_|(refine sC ?_ ?_<;>intro hb<;>try omega)|fail)
 ·
  (refine rT1 ?_)
  have:decide (256<a.size)=true:=by simp;omega
  simp [eB,this]
 all_goals
  (refine rT1 ?_)
  have h256:decide (256<a.size)=false:=by simp;omega
  simp only [eB,h256,hb,cond_true,cond_false]
set_option maxRecDepth 10000 in
theorem Bl (v:Vl) (w:World):ay Tryz.prog 257 [.agg (di v).toArray] w (.int .i64 (nB v)):=by
 refine aq Tryz.func257 rfl Tryz.ntmps257 rfl ?_
 repeat' (first|(apply aa;exact rfl;exact rfl;(intro w hm;exact tP v.text w))|(apply ak;exact rfl;exact Bx (b:=⟨0,0,au⟩) rfl rfl)|refine sT ?_|refine sM fun _=> ?_|(refine sC ?_ ?_<;>intro hb<;>try omega)|fail)
 all_goals ((refine rT1 ?_);((try simp only [← Int.not_lt] at*);simp_all [nB,rP,eqV,au, -Int.not_lt, -Int.not_le,← Int.not_lt]);try (by_cases h:v.num=0<;>simp_all))
end Go.SL
namespace Go.SL
open Go Go.Proofs
attribute [local irreducible] W WL WQ WG WA VOp thn blk ba aP FnIn
theorem HA: ∀ j,j<50→cV.getD j au≠au∧bf (cV.getD j au)=((j:Int)+1,0):=by decide+kernel
theorem jN {fn:Int} (h:cW fn=true):eE fn=((bJ fn).1,(bJ fn).2,0):=by
 unfold eE bJ
 (repeat' split)<;>simp_all
theorem nj {fn:Int} (h:cW fn=false):eE fn=(0,0,10):=by
 simp only [cW,Oj,decide_eq_false_iff_not] at h
 have hk:cW fn=false:=by simp only [cW,Oj,decide_eq_false_iff_not];exact h
 unfold eE
 (repeat' split)<;>first|(exfalso;omega)|(simp_all;done)|rfl
theorem rM {fn:Int} (h:cW fn=true) (i:Int):jh fn i=(eM fn i,if i<0∨(bJ fn).2≤i then 3 else 0):=by
 unfold jh eM
 rw [jN h]
 simp only [ne_eq,not_true_eq_false,if_false]
 by_cases h1:i<0∨(bJ fn).2≤i
 ·
  simp only [if_pos h1]
 ·
  simp only [if_neg h1]
  by_cases h2:fn=9∨fn=10∨fn=11∨fn=12∨fn=14∨fn=15∨fn=16∨fn=17
  ·
   simp only [if_pos h2]
  ·
   simp only [if_neg h2]
   by_cases h3:fn=44
   ·
    subst h3
    simp
   ·
    simp only [if_neg h3]
    by_cases h4:fn=18∨fn=19∨fn=45∨fn=43∨fn=13
    ·
     rw [if_pos h4,if_pos (by omega)]
    ·
     rw [if_neg h4,if_neg (by omega)]
     rfl
end Go.SL
namespace Go.SL
open Go Go.Proofs
attribute [local irreducible] W WL WQ WG VOp thn blk ba aP FnIn
set_option maxHeartbeats 1000000 in
theorem wj (n:Nd) (w:World):ay Tryz.prog 305 [.agg (cv n).toArray] w (.int .i64 (cQ n)):=by
 refine aq Tryz.func305 rfl Tryz.ntmps305 rfl ?_
 repeat' (first|(apply aa;exact rfl;exact rfl;(intro w hm;exact Bl n.v w))|(apply aa;exact rfl;exact rfl;(intro w hm;exact gA n.rect w))|(apply aa;exact rfl;exact rfl;(intro w hm;exact uB n.fn w))|(apply wP (T:=293) (fun D=> [.int .u8 n.kind,.int .u8 0,.int .i64 0,.string au,.int .i64 0,.int .i64 0,.int .i64 0,.int .i64 0,.int .i64 0,.int .u8 (bif D 5 then n.fn else 0),.int .i64 (bif D 7 then n.n else 0)]) (xs' := [.int .u8 n.kind,.int .u8 0,.int .i64 0,.string au,.int .i64 0,.int .i64 0,.int .i64 0,.int .i64 0,.int .i64 0,.int .u8 n.fn,.int .i64 n.n]);kernel_rfl;kernel_rfl;(first|exact .hd|exact .tl .hd);exact rfl;(intro D hD;simp only [hD 5 (by decide),hD 7 (by decide),cond_true]))|(apply ak;exact rfl;(first|(apply rT (b:=⟨n.kind,n.v,aO,0,0,0⟩);exact rfl;exact rfl)|(apply rT (b:=⟨n.kind,bK,n.rect,0,0,0⟩);exact rfl;exact rfl)|(apply rT (b:=⟨n.kind,bK,aO,0,0,0⟩);exact rfl;exact rfl)|(apply rT (b:=⟨n.kind,bK,aO,n.op,0,0⟩);exact rfl;exact rfl)|(apply rT (b:=⟨n.kind,bK,aO,0,n.fn,n.n⟩);exact rfl;exact rfl)))|refine sT ?_|refine sG ?_|refine sM fun _=> ?_|(refine sC ?_ ?_<;>intro hb<;>try omega)|fail)
 all_goals ((refine rT1 ?_);((try simp only [← Int.not_lt] at*);simp_all [cQ,jT,dq,DP,Hy, -Int.not_lt, -Int.not_le,← Int.not_lt]))
end Go.SL
namespace Go.SL
open Go Go.Proofs
attribute [local irreducible] W WL WQ WG WA VOp thn blk ba aP FnIn
set_option maxRecDepth 10000 in
theorem lK (c r:Int) (w:World):ay Tryz.prog 151 [.agg #[.int .i64 c,.int .i64 r]] w (.bool (valid c r)):=by
 refine aq Tryz.func151 rfl Tryz.ntmps151 rfl ?_
 repeat' (first|refine sT ?_|refine sM fun _=> ?_|(refine sC ?_ ?_<;>intro hb<;>try omega)|fail)
 all_goals ((refine rT1 ?_);((try simp only [← Int.not_lt] at*);simp_all [valid, -Int.not_lt, -Int.not_le,← Int.not_lt]))
set_option maxRecDepth 10000 in
theorem Ca (r:Rct) (w:World):ay Tryz.prog 366 [.agg (bH r).toArray] w (.agg #[.int .i64 r.c1,.int .i64 r.r1]):=by
 refine aq Tryz.func366 rfl Tryz.ntmps366 rfl ?_
 repeat' (first|refine sT ?_|refine sM fun _=> ?_|(refine sC ?_ ?_<;>intro hb<;>try omega)|fail)
 exact w6 (.inl rfl) Tryz.results366 rfl pK rfl (MSub.nil _) rfl
set_option maxRecDepth 10000 in
theorem G3 (r:Rct) (w:World):ay Tryz.prog 367 [.agg (bH r).toArray] w (.agg #[.int .i64 r.c2,.int .i64 r.r2]):=by
 refine aq Tryz.func367 rfl Tryz.ntmps367 rfl ?_
 repeat' (first|refine sT ?_|refine sM fun _=> ?_|(refine sC ?_ ?_<;>intro hb<;>try omega)|fail)
 exact w6 (.inl rfl) Tryz.results367 rfl pK rfl (MSub.nil _) rfl
set_option maxRecDepth 10000 in
theorem BX (r:Rct) (w:World):ay Tryz.prog 350 [.agg (bH r).toArray] w (.int .i64 (eP r)):=by
 refine aq Tryz.func350 rfl Tryz.ntmps350 rfl ?_
 repeat' (first|(apply aa;exact rfl;exact rfl;(intro w hm;exact Ca r w))|(apply aa;exact rfl;exact rfl;(intro w hm;exact G3 r w))|(apply aa;exact rfl;exact rfl;(intro w hm;exact lK r.c1 r.r1 w))|(apply aa;exact rfl;exact rfl;(intro w hm;exact lK r.c2 r.r2 w))|refine sT ?_|refine sM fun _=> ?_|(refine sC ?_ ?_<;>intro hb<;>try omega)|fail)
 all_goals ((refine rT1 ?_);((try simp only [← Int.not_lt] at*);simp_all [eP,aI, -Int.not_lt, -Int.not_le,← Int.not_lt]))
set_option maxRecDepth 10000 in
theorem LJ (r:Rct) (w:World):ay Tryz.prog 351 [.agg (bH r).toArray] w (.bool (Hy r)):=by
 refine aq Tryz.func351 rfl Tryz.ntmps351 rfl ?_
 repeat' (first|refine sT ?_|refine sM fun _=> ?_|(refine sC ?_ ?_<;>intro hb<;>try omega)|fail)
 all_goals ((refine rT1 ?_);((try simp only [← Int.not_lt] at*);simp_all [Hy, -Int.not_lt, -Int.not_le,← Int.not_lt]))
set_option maxRecDepth 10000 in
theorem zi (n:Nd) (w:World):ay Tryz.prog 297 [.agg (cv n).toArray] w (.int .i64 (below n)):=by
 refine aq Tryz.func297 rfl Tryz.ntmps297 rfl ?_
 repeat' (first|refine sT ?_|refine sM fun _=> ?_|(refine sC ?_ ?_<;>intro hb<;>try omega)|fail)
 all_goals ((refine rT1 ?_);simp_all [below])
set_option maxRecDepth 10000 in
theorem qt (b:ByteArray) (hs:b.size≤256) (w:World):ay Tryz.prog 144 [.string b] w (.bool (gC b)):=by
 refine aq Tryz.func144 rfl Tryz.ntmps144 rfl ?_
 have hsz:b.data.toList.length=b.size:=by simp
 repeat' (first|refine sT ?_|refine sT2 ?_|refine sM fun _=> ?_|(refine sC ?_ ?_<;>intro hb<;>try omega)|fail)
 refine fq (fun i:Nat=> [(0,.string b),(3,.int .i64 (i:Int))]) (fun _=> []) (fun i=>i≤b.size∧gC b=(b.data.toList.drop i).all fun c=>decide (32≤c.toNat) && decide (c.toNat≤126)) (fun i=>b.size - i) 0 ⟨by omega,rfl⟩ ?_ ?_ ?_
 ·
  exact sB
 ·
  exact mS
 ·
  rintro i ⟨hi,hrec⟩
  by_cases hlt:i<b.size
  ·
   rw [Nn (by omega),Pm] at hrec
   have hbi:b.data.toList[i]'(by omega)=b[i]'hlt:=by simp [ByteArray.getElem_eq_getElem_data]
   rw [hbi] at hrec
   repeat' (first|(apply ak;exact rfl;apply qk;exact rfl;exact rfl;exact hlt)|(apply ak;exact rfl;apply gj;exact rfl;exact rfl;(simp only [maxLen];omega))|refine sT ?_|refine sT2 ?_|refine sM fun _=> ?_|(refine sC ?_ ?_<;>intro hb<;>try omega)|fail)
   ·
    (refine rT1 ?_)
    rw [hrec,decide_eq_false (by omega)]
    rfl
   ·
    (refine rT1 ?_)
    rw [hrec,decide_eq_false (p:=b[i].toNat≤126) (by omega),NV]
    rfl
   ·
    refine ⟨i+1,⟨by omega,?_⟩,by omega,?_,?_⟩
    ·
     rw [hrec,decide_eq_true (by omega),decide_eq_true (by omega)]
     rfl
    ·
     exact sB
    ·
     exact mS
  ·
   have e:i=b.size:=by omega
   subst e
   repeat' (first|refine sT ?_|refine sT2 ?_|refine sM fun _=> ?_|(refine sC ?_ ?_<;>intro hb<;>try omega)|fail)
   (refine rT1 ?_)
   rw [hrec,NC (by omega)]
   rfl
set_option maxRecDepth 10000 in
theorem zb (b:ByteArray) (w:World):ay Tryz.prog 361 [.string b] w (.int .i64 (eB b)):=by
 refine aq Tryz.func361 rfl Tryz.ntmps361 rfl ?_
 repeat' (first|(apply aa;exact rfl;exact rfl;(intro w hm;exact qt b (by omega) w))|refine sT ?_|refine sM fun _=> ?_|(refine sC ?_ ?_<;>intro hb<;>try omega)|fail)
 all_goals ((refine rT1 ?_);(first|rw [eB,decide_eq_true (by omega:256<b.size)]|rw [eB,decide_eq_false (by omega: ¬ 256<b.size)]);simp_all)
set_option maxRecDepth 10000 in
theorem vL (v:Vl) (hn: -9223372036854775808≤v.num) (w:World):ay Tryz.prog 345 [.agg (di v).toArray] w (.int .i64 (nB v)):=by
 refine aq Tryz.func345 rfl Tryz.ntmps345 rfl ?_
 have h1:(v.num≠ -9223372036854775808)↔ -9223372036854775807≤v.num:=by omega
 have h2:v.num / 2=0↔(v.num=0∨v.num=1):=by omega
 repeat' (first|(apply aa;exact rfl;exact rfl;(intro w hm;exact zb v.text w))|refine sT ?_|refine sM fun _=> ?_|(refine sC ?_ ?_<;>intro hb<;>try omega)|fail)
 all_goals ((refine rT1 ?_);simp only [nB,rP,h1,h2,au];(try simp only [← Int.not_lt] at*);simp_all [-Int.not_lt, -Int.not_le,← Int.not_lt])
theorem Bm {v:Vl} (h:nB v=0) (hk:v.kind=4):1≤v.num∧v.num≤6:=by
 simp only [nB,rP,hk] at h
 cases h1:(decide (v.text=au) && decide (1≤v.num) && decide (v.num≤6))
 ·
  simp [h1] at h
 ·
  simp only [Nm,decide_eq_true_eq] at h1
  exact ⟨h1.1.2,h1.2⟩
set_option maxRecDepth 10000 in
theorem C0 (v:Vl) (hn: -9223372036854775808≤v.num) (w:World):ay Tryz.prog 349 [.agg (di v).toArray] w (.bool (DP v)):=by
 refine aq Tryz.func349 rfl Tryz.ntmps349 rfl ?_
 have hE:=Bm (v:=v)
 repeat' (first|(apply aa;exact rfl;exact rfl;(intro w hm;exact vL v hn w))|refine sT ?_|refine sM fun _=> ?_|(refine sC ?_ ?_<;>intro hb<;>try omega)|fail)
 all_goals ((refine rT1 ?_);unfold DP;(try have hE' :=hE (by assumption) (by assumption));(repeat' split)<;>simp_all<;>first|omega|(by_cases h6:v.num=6<;>simp [h6]<;>omega))
theorem Ir (a b:Nd):eqN a b=eqN b a:=by
 rw [DV,DV]
 by_cases h:a=b
 ·
  subst h;rfl
 ·
  rw [decide_eq_false h,decide_eq_false fun e=>h e.symm]
theorem ic {w0:World} {s:az} {H:List Blk} {ty t' :TypeId} {x y:Operand} {a b:Nd} (hx:ev s x=some (.agg (cv b).toArray)) (hy:ev s y=some (.agg (cv a).toArray)):VOp Tryz.prog w0 s H (.binOp .eql 293 x y t') ty (.bool (eqN a b)):=by
 rw [Ir]
 exact Lm hx hy
def dL (n:Nd):Bool:=jT n && eqN n (dq n)
set_option maxHeartbeats 1000000 in
theorem iU (n:Nd) (hn: -9223372036854775808≤n.v.num) (w:World):ay Tryz.prog 325 [.agg (cv n).toArray] w (.bool (dL n)):=by
 refine aq Tryz.func325 rfl Tryz.ntmps325 rfl ?_
 repeat' (first|(apply aa;exact rfl;exact rfl;(intro w hm;exact C0 n.v hn w))|(apply eF;exact rfl;exact rfl;(intro w hm;exact BX n.rect w))|(apply eF;exact rfl;exact rfl;(intro w hm;exact LJ n.rect w))|(apply wP (T:=293) (fun D=> [.int .u8 n.kind,.int .u8 0,.int .i64 0,.string au,.int .i64 0,.int .i64 0,.int .i64 0,.int .i64 0,.int .i64 0,.int .u8 (bif D 5 then n.fn else 0),.int .i64 (bif D 7 then n.n else 0)]) (xs' := [.int .u8 n.kind,.int .u8 0,.int .i64 0,.string au,.int .i64 0,.int .i64 0,.int .i64 0,.int .i64 0,.int .i64 0,.int .u8 n.fn,.int .i64 n.n]);decide+kernel;decide+kernel;(first|exact .hd|exact .tl .hd);exact rfl;(intro D hD;simp only [hD 5 (by decide),hD 7 (by decide),cond_true]))|(apply ak;exact rfl;(first|(apply ic (b:=⟨n.kind,n.v,aO,0,0,0⟩);exact rfl;exact rfl)|(apply ic (b:=⟨n.kind,bK,n.rect,0,0,0⟩);exact rfl;exact rfl)|(apply ic (b:=⟨n.kind,bK,aO,0,0,0⟩);exact rfl;exact rfl)|(apply ic (b:=⟨n.kind,bK,aO,n.op,0,0⟩);exact rfl;exact rfl)|(apply ic (b:=⟨n.kind,bK,aO,0,n.fn,n.n⟩);exact rfl;exact rfl)))|(apply aS;exact rfl;(first|(apply ic (b:=⟨n.kind,n.v,aO,0,0,0⟩);exact rfl;exact rfl)|(apply ic (b:=⟨n.kind,bK,n.rect,0,0,0⟩);exact rfl;exact rfl)|(apply ic (b:=⟨n.kind,bK,aO,0,0,0⟩);exact rfl;exact rfl)|(apply ic (b:=⟨n.kind,bK,aO,n.op,0,0⟩);exact rfl;exact rfl)|(apply ic (b:=⟨n.kind,bK,aO,0,n.fn,n.n⟩);exact rfl;exact rfl)))|refine sT ?_|refine sQ ?_|refine sD ?_|refine sG ?_|refine sM fun _=> ?_|(refine sC ?_ ?_<;>intro hb<;>try omega)|(refine sCQ ?_ ?_<;>intro hb<;>try omega)|fail)
 all_goals ((refine rT1 ?_);((try simp only [← Int.not_lt] at*);simp_all [dL,jT,dq,Hy, -Int.not_lt, -Int.not_le,← Int.not_lt]))
def CX (N:Nat) (w0:World) (f:FuncId) (caps:List Value) (Inv:List mg→List Blk→Prop):Prop:=
 ∀ (vs:List mg) (kids:List Nat) (d:Nat) (A:Option Nat) (cap:Nat) (H F:List Blk),Inv vs H→kids.length≤1000→vs.length<N→(∀ k∈kids,k<vs.length)→
  FnIn Tryz.prog f ([.int .i64 (vs.length:Int),sl A kids.length cap,.int .i64 (d:Int)]++caps) w0 (.own A 3 1 kids.length cap (kids.map fun (k:Nat)=> .int .i64 (k:Int))::(H++F))
   fun _ H' => ∃ H1,Inv (vs++ [(kids,d)]) H1∧MSub (H1++F) H'
theorem wh {n:Nd} (h:cQ n=0):0≤below n∧below n≤16:=by
 unfold cQ at h
 split at h
 ·
  cases h
 ·
  rename_i hk
  split at h
  ·
   rename_i h7
   unfold below
   split
   ·
    omega
   ·
    split
    ·
     omega
    ·
     omega
  ·
   rename_i h7
   have h7' :n.kind=7:=by omega
   have hb:below n=n.n:=by simp [below,h7']
   have hk1:jT n=true:=by
    cases hh:jT n
    ·
     exact absurd (Or.inl hh) hk
    ·
     rfl
   simp [jT,h7'] at hk1
   split at h
   ·
    rename_i ha;omega
   ·
    split at h
    ·
     omega
    ·
     rename_i hc
     have hm:(eE n.fn).2.1≤16:=by
      unfold eE
      (repeat' split)<;>simp
     omega
theorem iR (st:List Pt) (k:Nat) (h:k≤st.length):(bw st k).length=k:=by simp [bw];omega
theorem gQ {st:List Pt} {k:Nat} {p:Pt} (h:p∈bw st k):p∈st:=Pe h
theorem EE {w0 w:World} {H:List Blk} {A:Option Nat} {st:List Pt} {cap k:Nat} (hm:Mem w0 w H) (hi:In (.own A 356 3 st.length cap (st.flatMap p8)) H) (h:k≤st.length):
  Reads w (.slice (if cap=st.length - k then A.map fun g=>⟨g,0,none⟩ else (A.map fun g=>(⟨g,0,none⟩:Addr)).map (·.add ((st.length - k)*3))) (st.length - (st.length - k)) (cap - (st.length - k))) (bw st k).length ((bw st k).flatMap p8):=by
 have h1:=(Reads.of_own hm hi).cut (lo:=st.length - k) (hi:=st.length) (sz:=3) (by omega) (Ni _)
 have e1:st.length - (st.length - k)=(bw st k).length:=by rw [iR st k h];omega
 rw [je l7,e1] at h1
 have e2:((st.drop (st.length - k)).flatMap p8).take ((bw st k).length*3)=(bw st k).flatMap p8:=by
  rw [NQ (by rw [aK l7];exact Ni _)];rfl
 rw [e2] at h1
 rw [e1]
 exact h1
theorem pd (top:List Pt) (j:Nat) (h:j<top.length):ck (top.take (j+1))=max (ck (top.take j)) (top[j].depth+1):=by
 unfold ck
 rw [Nk h,P2]
 rfl
theorem jW (top:List Pt) (h: ∀ p∈top,p.depth≤32):ck top≤33:=by
 have: ∀ (l:List Pt) (d:Nat),d≤33→(∀ p∈l,p.depth≤32)→l.foldl (fun d p=>max d (p.depth+1)) d≤33:=by
  intro l
  induction l with
  |nil=>intro d hd _;simpa using hd
  |cons p r ih=>
   intro d hd hp
   have:=hp p Nj
   exact ih _ (by show max d (p.depth+1)≤33;omega) fun q hq=>hp q (Nv _ hq)
 exact this top 1 (by omega) h
structure WalkSt (L:List Nd) (Inv:List mg→List Blk→Prop) (i:Nat) (st:List Pt) (vs:List mg) (Hv:List Blk):Prop where
 le:i≤L.length
 len:vs.length=i
 inv:Inv vs Hv
 rest:iz L L 0 [] []=iz L (L.drop i) i st vs
 ok: ∀ p∈st,p.root<i∧p.depth≤32
 small:st.length≤i
set_option maxHeartbeats 2000000 in
theorem Em (L:List Nd) (hne:0<L.length) (hlen:L.length≤256) (tv:Value) (w0:World) (ht:Reads w0 tv L.length (L.flatMap cv)) (f:FuncId) [hf:Callable Tryz.prog f] (caps:List Value) (Inv:List mg→List Blk→Prop) (hV:CX L.length w0 f caps Inv)
  (H:List Blk) (hI:Inv [] H):FnIn Tryz.prog 277 [tv,.func (.func f) #[] caps.toArray] w0 H fun v H' =>v= .int .i64 (iz L L 0 [] []).1∧Inv (iz L L 0 [] []).2 H' :=by
 have ht' :=ht
 obtain ⟨At,ct,rfl,ht1,ht2,ht3⟩:=ht
 obtain ⟨gt,ot,rfl,hrt⟩:=ht3 hne
 refine dZ Tryz.func277 rfl Tryz.ntmps277 rfl ?_
 repeat' (first|refine sT ?_|refine sM fun _=> ?_|(refine sC ?_ ?_<;>intro hb<;>try omega)|fail)
 refine aD 356 3 ?_
 refine Dl (fun (i:Nat) s H=> ∃ st vs A cap Hv,s= [(0,.slice (some ⟨gt,ot,none⟩) L.length ct),(1,.func (.func f) #[] caps.toArray),(5,sl A st.length cap),(14,.slice (some ⟨gt,ot,none⟩) L.length ct),(15,.int .i64 (L.length:Int)),(16,.int .i64 (i:Int))]∧
   H= .own A 356 3 st.length cap (st.flatMap p8)::Hv∧WalkSt L Inv i st vs Hv) (fun i=>L.length - i) 0 ?_ ?_
 ·
  refine ⟨_,_,?_,?_,⟨[],[],none,0,H,rfl,rfl,⟨Ns _,rfl,hI,rfl,by simp,Ni _⟩⟩⟩
  ·
   exact sB
  ·
   exact mS
 ·
  rintro i _ _ ⟨st,vs,A,cap,Hv,rfl,rfl,hst⟩
  obtain ⟨hle,hvl,hinv,hrest,hok,hsmall⟩:=hst
  by_cases hlt:i<L.length
  ·
   have hrn:=hrt.elem fN i hlt
   rw [Nn hlt,iz,lc] at hrest
   generalize hn:L[i]=n at hrest hrn
   by_cases hfe:cQ n=0
   ·
    obtain ⟨hb0,hb16⟩:=wh hfe
    obtain ⟨k,hk⟩:=PF hb0
    rw [if_neg (by simp [hfe]),hk,Ov] at hrest
    have hbel: ∀ w,ay Tryz.prog 306 [.agg (cv n).toArray] w (.int .i64 (k:Int)):=fun w=>hk ▸ IZ n w
    have hfie: ∀ w,ay Tryz.prog 305 [.agg (cv n).toArray] w (.int .i64 0):=fun w=>hfe ▸ wj n w
    refine Gg .hd fun hr1 hr2 hr3=> ?_
    repeat' (first|(apply ak;exact rfl;apply aj;exact rfl;exact rfl;exact hlt)|(apply ak;exact rfl;apply aA;exact rfl;exact hrn;exact rfl)|(apply ak;exact rfl;apply dr;exact rfl;exact rfl;(simp only [maxLen];omega))|(apply aa;exact rfl;exact rfl;(intro w hm;exact hfie w))|(apply aa;exact rfl;exact rfl;(intro w hm;exact hbel w))|(apply gh (id:=9);kernel_rfl;kernel_rfl)|(apply aS;exact rfl;apply jP;exact rfl;exact rfl;omega;omega)|(apply ak;exact rfl;apply jP;exact rfl;exact rfl;omega;omega)|(apply aS;exact rfl;apply iQ (hi:=st.length);exact rfl;exact ⟨_,rfl⟩;exact rfl;omega;omega)|(apply eF;exact rfl;exact rfl;(intro w hm;exact Kk L n (bw st k) _ _ w (ht'.of_w0 hm) (EE hm pK (by omega)) (fun p hp=>Nat.lt_trans (hok p (gQ hp)).1 hlt) (by rw [iR st k (by omega)];omega)))|refine sT ?_|refine sQ ?_|refine sM fun _=> ?_|(refine sC ?_ ?_<;>intro hb<;>try omega)|(refine sCQ ?_ ?_<;>intro hb<;>try omega)|fail)
    ·
     refine cG (.inl rfl) Tryz.results277 rfl (.drop .hd (.drop .hd (.refl _))) ?_
     rw [hrest,if_pos (Or.inl (by omega))]
     exact ⟨rfl,hinv⟩
    ·
     refine cG (.inl rfl) Tryz.results277 rfl (.drop .hd (.drop .hd (.refl _))) ?_
     rw [hrest,if_pos (Or.inr hb)]
     exact ⟨rfl,hinv⟩
    have hkl:k≤st.length:=by omega
    rw [if_neg (by intro h;rcases h with h|h;(· omega);(· rw [hb] at h;cases h))] at hrest
    repeat' (first|(apply ak;exact rfl;apply jP;exact rfl;exact rfl;omega;omega)|(apply F6 (hi:=st.length);exact rfl;exact rfl;exact ⟨_,rfl⟩;exact rfl;omega;omega;(intro B hB))|refine sT ?_|refine sM fun _=> ?_|(refine sC ?_ ?_<;>intro hb<;>try omega)|fail)
    rename_i gn gp
    refine aD 3 1 ?_
    have htl:=iR st k hkl
    refine Dl (fun (j:Nat) s H=> ∃ A2 cap2,s= [(0,.slice (some ⟨gt,ot,none⟩) L.length ct),(1,.func (.func f) #[] caps.toArray),(5,sl A st.length cap),(6,.int .i64 (i:Int)),(9,.int .i64 (k:Int)),(10,.pointer (some ⟨gp,0,none⟩)),(11,sl A2 j cap2),
      (14,.slice (some ⟨gt,ot,none⟩) L.length ct),(15,.int .i64 (L.length:Int)),(16,.int .i64 (i:Int)),(54,.slice B (st.length - (st.length - k)) (cap - (st.length - k))),(55,.int .i64 ((st.length - (st.length - k):Nat):Int)),(56,.int .i64 (j:Int))]∧
      H= .own A2 3 1 j cap2 (((bw st k).take j).map fun p=> .int .i64 (p.root:Int)):: .box gp 356 [.int .i64 (i:Int),.int .i64 (ck ((bw st k).take j):Int),.bool (decide (n.kind=3))]:: .own A 356 3 st.length cap (st.flatMap p8)::Hv∧j≤k) (fun j=>k - j) 0 ?_ ?_
    ·
     refine ⟨_,_,?_,?_,⟨none,0,rfl,rfl,by omega⟩⟩
     ·
      exact sB
     ·
      exact mS
    ·
     rintro j _ _ ⟨A2,cap2,rfl,rfl,hjk⟩
     by_cases hj:j<k
     ·
      refine eG (.tl (.tl .hd)) (by omega) fun gs hA=> ?_
      subst hA
      obtain rfl:B=some ⟨gs,0+(st.length - k)*3,none⟩:=by rw [hB,if_neg (by omega)];simp [cE]
      have hjt:j<(bw st k).length:=by omega
      have he:((st.flatMap p8).drop (0+(st.length - k)*3+j*3)).take 3=p8 (bw st k)[j]:=by
       rw [show 0+(st.length - k)*3+j*3=(st.length - k+j)*3 by rw [Pw];omega,ed l7 st _ (by omega)]
       simp [bw]
      have hd32:(bw st k)[j].depth≤32:=(hok _ (gQ (NW hjt))).2
      repeat' (first|(apply ak;exact rfl;apply aj;exact rfl;exact rfl;omega)|(apply ak;exact rfl;apply yD;exact rfl;exact pK;exact he;exact rfl)|(apply ak;exact rfl;apply gj;exact rfl;exact rfl;(simp only [maxLen];omega))|(apply ak;exact rfl;apply Bu;exact rfl;exact rfl)|(apply bA;(iterate 3 exact rfl);(repeat first|exact .hd|apply Sel.tl|apply In.tl);(intro w hm;exact hm.cells_own (by (repeat first|exact .hd|apply Sel.tl|apply In.tl)));exact rfl;(simp [Value.oneCell',sl]);omega;(simp only [maxLen];omega);(intro A' cap' hA'))|refine sT ?_|refine sM fun _=> ?_|(refine sC ?_ ?_<;>intro hb<;>try omega)|fail)
      have hk1:((bw st k).take (j+1)).map (fun p=>Value.int .i64 (p.root:Int))=((bw st k).take j).map (fun p=>Value.int .i64 (p.root:Int))++ [.int .i64 ((bw st k)[j].root:Int)]:=by
       rw [Nk hjt,Ok];rfl
      refine ⟨j+1,_,_,?_,?_,?_,⟨A',cap',rfl,rfl,hj⟩⟩
      ·
       omega
      ·
       exact sB
      ·
       rw [hk1,pd _ _ hjt]
       exact mS
     ·
      have e:j=k:=by omega
      subst e
      have htk:(bw st j).take j=bw st j:=NQ (by omega)
      rw [htk]
      have hd33:=jW (bw st j) fun p hp=>(hok p (gQ hp)).2
      repeat' (first|refine sT ?_|refine sM fun _=> ?_|(refine sC ?_ ?_<;>intro hb<;>try omega)|fail)
      ·
       refine cG (.inl rfl) Tryz.results277 rfl (.drop .hd (.drop .hd (.drop .hd (.refl _)))) ?_
       rw [hrest,if_pos (by omega)]
       exact ⟨rfl,hinv⟩
      rw [if_neg (by omega)] at hrest
      refine Gf (.tl (.tl .hd)) (st.length - j) (by omega) ?_
      refine iP 10 rfl (by kernel_rfl) ?_
      ((with_reducible apply aR (i:=0));exact rfl;exact rfl;decide+kernel;decide+kernel;decide+kernel;exact nP;(intro _ _;exact vP))
      ((with_reducible apply aR (i:=1));exact rfl;exact rfl;decide+kernel;decide+kernel;decide+kernel;exact nP;(intro _ _;exact vP))
      ((with_reducible apply aR (i:=2));exact rfl;exact rfl;decide+kernel;decide+kernel;decide+kernel;exact nP;(intro _ _;exact vP))
      ((with_reducible apply aR (i:=3));exact rfl;exact rfl;decide+kernel;decide+kernel;decide+kernel;exact nP;(intro _ _;exact vP))
      ((with_reducible apply aR (i:=4));exact rfl;exact rfl;decide+kernel;decide+kernel;decide+kernel;exact nP;(intro _ _;exact vP))
      ((with_reducible apply aR (i:=5));exact rfl;exact rfl;decide+kernel;decide+kernel;decide+kernel;exact nP;(intro _ _;exact vP))
      repeat' (first|(apply aJ (i:=6);exact rfl;decide+kernel)|(apply aJ (i:=7);exact rfl;decide+kernel)|(apply aJ (i:=8);exact rfl;decide+kernel)|(apply aJ (i:=9);exact rfl;decide+kernel)|(apply iO;decide+kernel)|(apply bA;(iterate 3 exact rfl);(repeat first|exact .hd|apply Sel.tl|apply In.tl);(intro w hm;exact hm.cells_own (by (repeat first|exact .hd|apply Sel.tl|apply In.tl)));exact rfl;(simp [Value.oneCell',sl]);omega;(simp only [maxLen];omega);(intro A' cap' hA'))|refine sT ?_|refine sM fun _=> ?_|(refine sC ?_ ?_<;>intro hb<;>try omega)|fail)
      have hcont:(st.flatMap p8).take ((st.length - j)*3)++ [.int .i64 (i:Int),.int .i64 (ck (bw st j):Int),.bool (decide (n.kind=3))]=(st.take (st.length - j)++ [(⟨i,ck (bw st j),decide (n.kind=3)⟩:Pt)]).flatMap p8:=by
       rw [jd l7,Nt];rfl
      have hvis:=hV vs ((bw st j).map Pt.root) (ck (bw st j)) A2 cap2 Hv [.own A' 356 3 (st.length - j+1) cap' ((st.take (st.length - j)++ [(⟨i,ck (bw st j),decide (n.kind=3)⟩:Pt)]).flatMap p8)] hinv (by rw [Oi];omega) (by omega) (by intro q hq;obtain ⟨p,hp,rfl⟩:=OQ.1 hq;rw [hvl];exact (hok p (gQ hp)).1)
      simp only [Oi,htl,hvl,P8] at hvis
      rw [hcont]
      (with_reducible apply j0)
      ·
       exact rfl
      ·
       exact rfl
      ·
       infer_instance
      ·
       exact rfl
      ·
       refine hvis.msub ?_
       refine MSub.pick (T:=_) pK (MSub.snoc pK ?_)
       exact mS
      rintro v H' ⟨H1,hI1,hM1⟩
      repeat' (first|(apply ak;exact rfl;apply gj;exact rfl;exact rfl;(simp only [maxLen];omega))|refine sT ?_|refine sM fun _=> ?_|(refine sC ?_ ?_<;>intro hb<;>try omega)|fail)
      refine ⟨i+1,_,_,?_,?_,?_,⟨st.take (st.length - j)++ [(⟨i,ck (bw st j),decide (n.kind=3)⟩:Pt)],vs++ [((bw st j).map Pt.root,ck (bw st j))],A',cap',H1,rfl,rfl,⟨?_,?_,?_,?_,?_,?_⟩⟩⟩
      ·
       omega
      ·
       have e1:(st.take (st.length - j)++ [(⟨i,ck (bw st j),decide (n.kind=3)⟩:Pt)]).length=st.length - j+1:=by simp
       rw [e1]
       exact sB
      ·
       have e1:(st.take (st.length - j)++ [(⟨i,ck (bw st j),decide (n.kind=3)⟩:Pt)]).length=st.length - j+1:=by simp
       rw [e1]
       exact hM1.rot
      ·
       omega
      ·
       simp [hvl]
      ·
       exact hI1
      ·
       exact hrest
      ·
       intro p hp
       rcases NJ.1 hp with hp|hp
       ·
        exact ⟨Nat.lt_succ_of_lt (hok p (Ot hp)).1,(hok p (Ot hp)).2⟩
       ·
        have e:p=⟨i,ck (bw st j),decide (n.kind=3)⟩:=by simpa using hp
        subst e
        exact ⟨Pn i,by show ck (bw st j)≤32;omega⟩
      ·
       simp;omega
   ·
    have hfie: ∀ w,ay Tryz.prog 305 [.agg (cv n).toArray] w (.int .i64 (cQ n)):=fun w=>wj n w
    rw [if_pos hfe] at hrest
    repeat' (first|(apply ak;exact rfl;apply aj;exact rfl;exact rfl;exact hlt)|(apply ak;exact rfl;apply aA;exact rfl;exact hrn;exact rfl)|(apply aa;exact rfl;exact rfl;(intro w hm;exact hfie w))|refine sT ?_|refine sM fun _=> ?_|(refine sC ?_ ?_<;>intro hb<;>try omega)|fail)
    refine cG (.inl rfl) Tryz.results277 rfl (.drop .hd (.drop .hd (.refl _))) ?_
    rw [hrest]
    exact ⟨rfl,hinv⟩
  ·
   have e:i=L.length:=by omega
   subst e
   rw [NF,iz] at hrest
   repeat' (first|refine sT ?_|refine sM fun _=> ?_|(refine sC ?_ ?_<;>intro hb<;>try omega)|fail)
   ·
    refine cG (.inl rfl) Tryz.results277 rfl (.drop .hd (.refl _)) ?_
    rw [hrest,if_neg (by omega)]
    exact ⟨rfl,hinv⟩
   ·
    refine cG (.inl rfl) Tryz.results277 rfl (.drop .hd (.refl _)) ?_
    rw [hrest,if_pos (by omega)]
    exact ⟨rfl,hinv⟩
def l9 (L:List Nd) (wide:Bool):Int × List mg:=
 if 256<L.length then (5,[]) else if L.length=0 then (4,[])
 else if (iz L L 0 [] []).1≠0 then iz L L 0 [] []
 else if wide=false∧jU L (L.length - 1)=3 then (4,(iz L L 0 [] []).2) else (0,(iz L L 0 [] []).2)
set_option maxHeartbeats 2000000 in
theorem IU (L:List Nd) (wide:Bool) (tv:Value) (w0:World) (ht:Reads w0 tv L.length (L.flatMap cv)) (f:FuncId) [hf:Callable Tryz.prog f] (caps:List Value) (Inv:List mg→List Blk→Prop) (hV:CX L.length w0 f caps Inv)
  (H:List Blk) (hI:Inv [] H):FnIn Tryz.prog 227 [tv,.bool wide,.func (.func f) #[] caps.toArray] w0 H fun v H' =>v= .int .i64 (l9 L wide).1∧Inv (l9 L wide).2 H' :=by
 have ht' :=ht
 obtain ⟨At,ct,rfl,ht1,ht2,ht3⟩:=ht
 refine dZ Tryz.func227 rfl Tryz.ntmps227 rfl ?_
 by_cases h256:256<L.length
 ·
  repeat' (first|refine sT ?_|refine sM fun _=> ?_|(refine sC ?_ ?_<;>intro hb<;>try omega)|fail)
  refine cG (.inl rfl) Tryz.results227 rfl (.refl _) ?_
  rw [l9,if_pos h256]
  exact ⟨rfl,hI⟩
 by_cases h0:L.length=0
 ·
  repeat' (first|refine sT ?_|refine sM fun _=> ?_|(refine sC ?_ ?_<;>intro hb<;>try omega)|fail)
  refine cG (.inl rfl) Tryz.results227 rfl (.refl _) ?_
  rw [l9,if_neg h256,if_pos h0]
  exact ⟨rfl,hI⟩
 obtain ⟨gt,ot,rfl,hrt⟩:=ht3 (by omega)
 have hw:=Em L (by omega) (by omega) _ w0 ht' f caps Inv hV H hI
 have hrl:=hrt.elem fN (L.length - 1) (by omega)
 have hk:jU L (L.length - 1)=(L[L.length - 1]'(by omega)).kind:=gX _
 simp only [l9,if_neg h256,if_neg h0,hk]
 generalize iz L L 0 [] []=r at hw
 generalize (L[L.length - 1]'(by omega))=nl at hrl
 repeat' (first|(apply aw;exact rfl;exact rfl;exact hw;(rintro v H' ⟨rfl,hI'⟩))|(apply ak;exact rfl;apply dG;exact rfl;exact rfl;omega;omega)|(apply ak;exact rfl;apply aj;exact rfl;exact rfl;omega)|(apply ak;exact rfl;apply dB (off:=0);exact rfl;exact hrl;exact rfl)|refine sT ?_|refine sM fun _=> ?_|(refine sC ?_ ?_<;>intro hb<;>try omega)|fail)
 all_goals refine cG (.inl rfl) Tryz.results227 rfl (.refl _) ?_
 all_goals simp_all
theorem rO (N:Nat) (w0:World) (H0:List Blk):CX N w0 228 [] fun _ H=>H=H0:=by
 rintro vs kids d A cap _ F rfl _ _ _
 refine dZ Tryz.func228 rfl Tryz.ntmps228 rfl ?_
 repeat' (first|refine sT ?_|refine sM fun _=> ?_|(refine sC ?_ ?_<;>intro hb<;>try omega)|fail)
 refine iB (.inr rfl) Tryz.results228 (.drop .hd (.refl _)) ⟨_,rfl,.refl _⟩
def jX (L:List Nd):Int:=(l9 L false).1
theorem Jd (L:List Nd) (tv:Value) (w:World) (ht:Reads w tv L.length (L.flatMap cv)):ay Tryz.prog 179 [tv] w (.int .i64 (jX L)):=by
 have ht' :=ht
 obtain ⟨At,ct,rfl,ht1,ht2,ht3⟩:=ht
 refine aq Tryz.func179 rfl Tryz.ntmps179 rfl ?_
 have hw:=IU L false _ w ht' 228 [] (fun _ H=>H= []) (rO _ w []) [] rfl
 repeat' (first|(apply aw;exact rfl;exact rfl;exact hw;(rintro v H' ⟨rfl,rfl⟩))|refine sT ?_|refine sM fun _=> ?_|(refine sC ?_ ?_<;>intro hb<;>try omega)|fail)
 (refine rT1 ?_)
 rfl
def DQ (vs:List mg):Nat:=(vs.getLast?.map (·.2)).getD 0
def l8 (L:List Nd):Int × Int:=if jX L≠0 then (0,jX L) else ((DQ (l9 L false).2:Nat),0)
end Go.SL
