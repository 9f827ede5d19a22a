/-
  Lemmas and walks, put together: W2 A1 W1 W3 W4.
-/
import Derived.Test.YthefeclkaaocnaaGreatDoorKc08
set_option linter.unusedSimpArgs false
set_option linter.unusedVariables false
set_option maxRecDepth 20000
namespace Go.SL
open Go Go.Proofs
attribute [local irreducible] W WL WQ WG VOp thn blk bi aQ FnIn
theorem mB (b:ByteArray):lX b=(ap b).map (Value.int .u8):=by simp [lX,ap]
theorem rp {α β:Type} (f:α→α) (E:α→β) (xs:List α) (i:Nat) (h:i<xs.length):(((xs.take i).map f++xs.drop i).map E).set i (E (f xs[i]))=((xs.take (i+1)).map f++xs.drop (i+1)).map E:=by
 rw [← List.map_set,O8 _ _ (by simp;omega)]
 have e1:xs.drop i=xs[i]::xs.drop (i+1):=M3 h
 have e2:xs.take (i+1)=xs.take i++ [xs[i]]:=M9 h
 have e3:i - ((xs.take i).map f).length=0:=by simp;omega
 rw [e3,e1,e2]
 simp only [List.set_cons_zero,Ou,NA,Oz,NC,MU,MW]
set_option maxRecDepth 10000 in
theorem Ca (f:FuncId) [Callable Tryz.prog f] (g:Int→Int) (hf: ∀ c w,ax Tryz.prog f [.int .u8 c] w (.int .u8 (g c))) (a:ByteArray) (ha:a.size≤1000000) (w:World):
  aQ Tryz.prog 231 [.string a,.func (.func f) #[] #[]] w fun v H=> ∃ gb cap,v= .slice (some ⟨gb,0,none⟩) a.size cap∧H= [.byt gb 5 a.size cap (((ap a).map g).map (Value.int .u8))]:=by
 refine aq Tryz.func231 rfl Tryz.ntmps231 rfl ?_
 repeat' (first|(apply ku;exact rfl;exact rfl;intro gb cap)|refine sT ?_|refine sM fun _=> ?_|(refine sC ?_ ?_<;>intro hb<;>try omega)|fail)
 refine fT (fun i:Nat=> [(5,.slice (some ⟨gb,0,none⟩) a.size cap),(10,.slice (some ⟨gb,0,none⟩) a.size cap),(11,.int .i64 (a.size:Int)),(12,.int .i64 (i:Int)),(1,.func (.func f) #[] #[])])
  (fun i=> [.byt gb 5 a.size cap ((((ap a).take i).map g++(ap a).drop i).map (Value.int .u8))]) (fun i=>i≤a.size) (fun i=>a.size - i) 0 (by omega) ?_ ?_ ?_
 ·
  exact sB
 ·
  rw [mB];simp only [OB,Oz,MW,Oi];exact mS
 ·
  intro i hi
  have hl:=au a
  by_cases hlt:i<a.size
  ·
   have hil:i<(ap a).length:=by omega
   have hget:((((ap a).take i).map g++(ap a).drop i).map (Value.int .u8))[0+i*1]? =some (.int .u8 (ap a)[i]):=by
    rw [NY,show 0+i*1=i by omega,NS (by simp;omega)]
    simp [OK (Nat.le_of_lt hil),Ok]
   repeat' (first|(apply aj;exact rfl;apply ak;exact rfl;exact rfl;exact hlt)|(apply aj;exact rfl;apply ja;exact rfl;exact .hd;exact hget)|(apply bA;exact rfl;exact rfl;infer_instance;exact rfl;(intro w hm;exact hf _ w))|(apply kv;exact rfl;exact rfl;exact .hd;exact rfl;(simp;omega))|(apply aj;exact rfl;apply ep;exact rfl;exact rfl;(constructor<;>omega))|refine sT ?_|refine sM fun _=> ?_|(refine sC ?_ ?_<;>intro hb<;>try omega)|fail)
   refine ⟨i+1,by omega,by omega,?_,?_⟩
   ·
    exact sB
   ·
    rw [show 0+i*1=i by omega,rp g (Value.int .u8) (ap a) i hil]
    exact mS
  ·
   have e:i=a.size:=by omega
   subst e
   repeat' (first|refine sT ?_|refine sM fun _=> ?_|(refine sC ?_ ?_<;>intro hb<;>try omega)|fail)
   refine cP (.inl rfl) Tryz.results231 rfl (.refl _) ⟨gb,cap,rfl,?_⟩
   rw [NE (by omega),Nn (by omega),M4]
def jh (c:Int):Int:=if c<32∨126<c then 0 else 32
set_option maxRecDepth 10000 in
theorem JL (c:Int) (w:World):ax Tryz.prog 232 [.int .u8 c] w (.int .u8 (jh c)):=by
 refine aq Tryz.func232 rfl Tryz.ntmps232 rfl ?_
 repeat' (first|refine sT ?_|refine sM fun _=> ?_|(refine sC ?_ ?_<;>intro hb<;>try omega)|fail)
 all_goals ((refine rT1 ?_);((try simp only [← Int.not_lt] at*);simp_all [jh, -Int.not_lt, -Int.not_le]))
set_option maxRecDepth 10000 in
theorem EA (c:Int) (w:World):ax Tryz.prog 233 [.int .i32 c] w (.bool (decide (c=0))):=by
 refine aq Tryz.func233 rfl Tryz.ntmps233 rfl ?_
 repeat' (first|refine sT ?_|refine sM fun _=> ?_|(refine sC ?_ ?_<;>intro hb<;>try omega)|fail)
 all_goals ((refine rT1 ?_);rfl)
def iS (q:Int→Bool) (l:List Int):Int:=match l.findIdx? q with
 |some i=>(i:Int)
 |none=> -1
theorem zn {q:Int→Bool} {l:List Int} {i:Nat} (h:i<l.length) (hq:q l[i]=true) (hno: ∀ j (h:j<l.length),j<i→q l[j]=false):iS q l=(i:Int):=by
 have:l.findIdx? q=some i:=by
  rw [OE]
  exact ⟨h,hq,fun j hj=>by simpa using hno j (by omega) hj⟩
 simp [iS,this]
theorem wZ {q:Int→Bool} {l:List Int} (hno: ∀ j (h:j<l.length),q l[j]=false):iS q l= -1:=by
 have:l.findIdx? q=none:=by
  rw [Ov]
  intro x hx
  obtain ⟨j,hj,rfl⟩:=OW hx
  exact hno j hj
 simp [iS,this]
set_option maxRecDepth 10000 in
theorem wV (f:FuncId) [Callable Tryz.prog f] (q:Int→Bool) (hf: ∀ c w,ax Tryz.prog f [.int .i32 c] w (.bool (q c))) (a:ByteArray) (ha:a.size≤1000000) (hasc: ∀ i (h:i<a.size),(a[i]'h).toNat<128) (w:World):
  ax Tryz.prog 274 [.string a,.func (.func f) #[] #[],.bool true] w (.int .i64 (iS q (ap a))):=by
 refine aq Tryz.func274 rfl Tryz.ntmps274 rfl ?_
 have hl:=au a
 repeat' (first|(apply vW;exact rfl;exact rfl;intro gi)|refine sT ?_|refine sM fun _=> ?_|(refine sC ?_ ?_<;>intro hb<;>try omega)|fail)
 refine fT (fun i:Nat=> [(0,.string a),(1,.func (.func f) #[] #[]),(2,.bool true),(10,.pointer (some ⟨gi,0,none⟩))])
  (fun i=> [.obj gi (.stringIter a i)]) (fun i=>i≤a.size∧ ∀ j (h:j<(ap a).length),j<i→q (ap a)[j]=false) (fun i=>a.size - i) 0 ⟨by omega,fun j _ h=>by omega⟩ ?_ ?_ ?_
 ·
  exact sB
 ·
  exact mS
 ·
  rintro i ⟨hi,hno⟩
  repeat' (first|(apply xC;exact rfl;exact rfl;exact .hd;exact hasc i;all_goals intro hb)|(apply bA;exact rfl;exact rfl;infer_instance;exact rfl;(intro w hm;exact hf _ w))|refine sT ?_|refine sM fun _=> ?_|(refine sC ?_ ?_<;>intro hb<;>try omega)|fail)
  all_goals (try simp only [beq_true] at*)
  ·
   rename_i hlt
   have hq:=hb
   refine cP (.inl rfl) Tryz.results274 rfl (MSub.nil _) ?_
   have h1:=oq a i hlt
   rw [zn (i:=i) (by omega) (by rw [h1];exact hq) hno]
  ·
   rename_i hlt
   have hq:=hb
   refine ⟨i+1,⟨by omega,fun j hj hji=> ?_⟩,by omega,?_,?_⟩
   ·
    by_cases e:j=i
    ·
     subst e
     rw [oq a j hlt];exact hq
    ·
     exact hno j hj (by omega)
   ·
    exact sB
   ·
    exact mS
  ·
   have hge:=hb
   refine cP (.inl rfl) Tryz.results274 rfl (MSub.nil _) ?_
   rw [wZ fun j hj=>hno j hj (by omega)]
set_option maxRecDepth 10000 in
theorem xk (f:FuncId) [Callable Tryz.prog f] (q:Int→Bool) (hf: ∀ c w,ax Tryz.prog f [.int .i32 c] w (.bool (q c))) (a:ByteArray) (ha:a.size≤1000000) (hasc: ∀ i (h:i<a.size),(a[i]'h).toNat<128) (w:World):
  ax Tryz.prog 230 [.string a,.func (.func f) #[] #[]] w (.int .i64 (iS q (ap a))):=by
 refine aq Tryz.func230 rfl Tryz.ntmps230 rfl ?_
 repeat' (first|(apply aa;exact rfl;exact rfl;(intro w hm;exact wV f q hf a ha hasc w))|refine sT ?_|refine sM fun _=> ?_|(refine sC ?_ ?_<;>intro hb<;>try omega)|fail)
 all_goals ((refine rT1 ?_);rfl)
def jg (a:ByteArray):ByteArray:=⟨(((ap a).map jh).map fun n=>UInt8.ofNat n.toNat).toArray⟩
theorem lN (a:ByteArray):(jg a).size=a.size:=by
 have:(jg a).size=((ap a).map jh).length:=by simp [jg,ByteArray.size]
 rw [this];simp [au]
theorem pU (a:ByteArray):ap (jg a)=(ap a).map jh:=by
 simp only [ap,jg,PT]
 congr 1
 funext c
 simp only [Function.comp,jh]
 split<;>simp
theorem zm (q:Int→Bool) (l:List Int):decide (iS q l<0)=l.all fun c=> !q c:=by
 unfold iS
 cases h:l.findIdx? q with
 |none=>
  rw [Ov] at h
  rw [NG]
  simpa using h
 |some i=>
  rw [OE] at h
  obtain ⟨h1,h2,_⟩:=h
  rw [NG]
  simp only [decide_eq_true_eq,N7]
  constructor
  ·
   intro h;omega
  ·
   intro h
   have:=h _ (NK h1)
   rw [h2] at this
   cases this
theorem yP (a:ByteArray):decide (iS (fun c=>decide (c=0)) (ap (jg a))<0)=lC a:=by
 rw [zm,pU]
 simp only [ap,List.all_map,lC]
 congr 1
 funext c
 have e:(decide (jh (c.toNat:Int)=0))= !(decide (32≤c.toNat) && decide (c.toNat≤126)):=by
  rw [NG]
  by_cases h:(c.toNat:Int)<32∨126<(c.toNat:Int)
  ·
   simp only [jh,if_pos h];simp;omega
  ·
   simp only [jh,if_neg h];simp;omega
 simp only [Function.comp,e,Bool.not_not]
theorem wR (a:ByteArray): ∀ i (h:i<(jg a).size),((jg a)[i]'h).toNat<128:=by
 intro i h
 have h1:=oq (jg a) i h
 have h2:((jg a)[i].toNat:Int)=jh ((ap a)[i]'(by rw [au,← lN];exact h)):=by
  rw [← h1]
  simp [pU]
 have h3: ∀ x,jh x=0∨jh x=32:=fun x=>by unfold jh;split<;>simp
 rcases h3 ((ap a)[i]'(by rw [au,← lN];exact h)) with h4|h4<;>omega
set_option maxRecDepth 10000 in
theorem nY (a:ByteArray) (ha:a.size≤1000000) (w:World):ax Tryz.prog 191 [.string a] w (.bool (lC a)):=by
 refine aq Tryz.func191 rfl Tryz.ntmps191 rfl ?_
 repeat' (first|((with_reducible apply aC (R:=fun v H=> ∃ gb cap,v= .slice (some ⟨gb,0,none⟩) a.size cap∧H= [.byt gb 5 a.size cap (((ap a).map jh).map (Value.int .u8))]));exact rfl;exact rfl;(intro w hm;exact Ca 232 jh JL a ha w);(rintro v H' ⟨gb,cap,rfl,rfl⟩))|(apply aj;exact rfl;apply oY;exact rfl;exact .hd;simp [au])|(apply aa;exact rfl;exact rfl;(intro w hm;exact xk 233 (fun c=>decide (c=0)) EA (jg a) (by rw [lN];exact ha) (wR a) w))|refine sT ?_|refine sM fun _=> ?_|(refine sC ?_ ?_<;>intro hb<;>try omega)|fail)
 all_goals ((refine rT1 ?_);rw [← yP])
set_option maxRecDepth 10000 in
theorem sx (a:ByteArray) (w:World):ax Tryz.prog 150 [.string a] w (.int .i64 (f9 a)):=by
 refine aq Tryz.func150 rfl Tryz.ntmps150 rfl ?_
 repeat' (first|(apply aa;exact rfl;exact rfl;(intro w hm;exact nY a (by omega) w))|refine sT ?_|refine sM fun _=> ?_|(refine sC ?_ ?_<;>intro hb<;>try omega)|fail)
 ·
  (refine rT1 ?_)
  have:decide (256<a.size)=true:=by simp;omega
  simp [f9,this]
 all_goals
  (refine rT1 ?_)
  have h256:decide (256<a.size)=false:=by simp;omega
  simp only [f9,h256,hb,cond_true,cond_false]
set_option maxRecDepth 10000 in
theorem Ak (v:Vl) (w:World):ax Tryz.prog 275 [.agg (cX v).toArray] w (.int .i64 (mW v)):=by
 refine aq Tryz.func275 rfl Tryz.ntmps275 rfl ?_
 repeat' (first|(apply aa;exact rfl;exact rfl;(intro w hm;exact sx v.text w))|(apply aj;exact rfl;exact AA (b:=⟨0,0,av⟩) rfl rfl)|refine sT ?_|refine sM fun _=> ?_|(refine sC ?_ ?_<;>intro hb<;>try omega)|fail)
 all_goals ((refine rT1 ?_);((try simp only [← Int.not_lt] at*);simp_all [mW,qW,eqV,av, -Int.not_lt, -Int.not_le,← Int.not_lt]);try (by_cases h:v.num=0<;>simp_all))
end Go.SL
namespace Go.SL
open Go Go.Proofs
attribute [local irreducible] W WL WQ WG WA VOp thn blk bL bi aQ FnIn
theorem HO {c:Int} (h1:48≤c) (h2:c≤57):aD c=true:=by simp [aD,h1,h2]
theorem JZ {c:Int} (h:c<48):aD c=false:=by simp [aD];omega
theorem J0 {c:Int} (h:57<c):aD c=false:=by simp [aD];omega
set_option maxRecDepth 10000 in
theorem vD (a:ByteArray) (ha:a.size≤1000000) (w:World):ax Tryz.prog 241 [.string a] w (.int .i64 (aB aD (ap a):Int)):=by
 refine aq Tryz.func241 rfl Tryz.ntmps241 rfl ?_
 have hl:=au a
 repeat' (first|refine sT ?_|refine sT2 ?_|refine sM fun _=> ?_|(refine sC ?_ ?_<;>intro hb<;>try omega)|exact cT|fail)
 refine fT (fun i:Nat=> [(0,.string a),(5,.int .i64 (a.size:Int)),(6,.int .i64 (i:Int))]) (fun _=> []) (fun i=>i≤a.size∧aB aD (ap a)=i+aB aD ((ap a).drop i)) (fun i=>a.size - i) 0 ⟨by omega,by simp⟩ sB mS ?_
 rintro i ⟨hi,hr⟩
 by_cases hlt:i<a.size
 ·
  have hs1:=aY hlt
  rw [hs1] at hr
  simp only [aB] at hr
  repeat' (first|refine sT ?_|refine sT2 ?_|refine sN ?_|refine sM fun _=> ?_|(refine sC ?_ ?_<;>intro hb<;>try omega)|exact cT|fail)
  ·
   (refine rT1 ?_)
   rw [hr,JZ hb];simp
  ·
   (refine rT1 ?_)
   rw [hr,J0 hb];simp
  ·
   rename_i h1
   rw [HO h1 hb] at hr
   exact ⟨i+1,⟨hlt,by rw [hr];simp;omega⟩,by omega,by exact sB,by exact mS⟩
 ·
  have e:i=a.size:=by omega
  subst e
  repeat' (first|refine sT ?_|refine sT2 ?_|refine sM fun _=> ?_|(refine sC ?_ ?_<;>intro hb<;>try omega)|exact cT|fail)
  (refine rT1 ?_)
  rw [hr,Nn (by omega)];simp [aB]
def iL (hi lo:Int) (neg:Bool):Int × Bool:=if hi≠0∨cj<lo then (0,false) else (if neg then -lo else lo,true)
theorem nz {v:Int} (h1:0≤v) (h2:v≤cj):IntKind.i64.wrap v=v:=I64.wrap ⟨by omega,by simpa [cj] using h2⟩
set_option maxRecDepth 10000 in
theorem DT (hi lo:Int) (neg:Bool) (h0:0≤lo) (w:World):ax Tryz.prog 242 [.int .u64 hi,.int .u64 lo,.bool neg] w (.tuple #[.int .i64 (iL hi lo neg).1,.bool (iL hi lo neg).2]):=by
 refine aq Tryz.func242 rfl Tryz.ntmps242 rfl ?_
 by_cases hh:hi=0
 ·
  by_cases hl:lo≤cj
  ·
   have hw:=nz h0 hl
   have hm:cj=9223372036854775807:=rfl
   have e:iL hi lo neg=(if neg then -lo else lo,true):=by rw [iL,if_neg (by omega)]
   rw [e]
   subst hh
   cases neg
   ·
    repeat' (first|(apply aj;exact rfl;apply bI;exact rfl;exact hw)|refine sT ?_|refine sM fun _=> ?_|(refine sC ?_ ?_<;>intro hb<;>try omega)|exact cT|fail)
    all_goals first|(exfalso;omega)|((refine rT2 ?_);rfl)
   ·
    repeat' (first|(apply aj;exact rfl;apply bI;exact rfl;exact hw)|(apply aj;exact rfl;apply Ko;exact rfl;exact ⟨by omega,by omega⟩)|refine sT ?_|refine sM fun _=> ?_|(refine sC ?_ ?_<;>intro hb<;>try omega)|exact cT|fail)
    all_goals first|(exfalso;omega)|((refine rT2 ?_);rfl)
  ·
   have hm:cj=9223372036854775807:=rfl
   have e:iL hi lo neg=(0,false):=by rw [iL,if_pos (by omega)]
   rw [e]
   repeat' (first|refine sT ?_|refine sM fun _=> ?_|(refine sC ?_ ?_<;>intro hb<;>try omega)|exact cT|fail)
   all_goals first|(exfalso;omega)|((refine rT2 ?_);rfl)
 ·
  have e:iL hi lo neg=(0,false):=by rw [iL,if_pos (.inl hh)]
  rw [e]
  repeat' (first|refine sT ?_|refine sM fun _=> ?_|(refine sC ?_ ?_<;>intro hb<;>try omega)|exact cT|fail)
  all_goals first|(exfalso;omega)|((refine rT2 ?_);rfl)
theorem rE (u:Int) (neg:Bool) (h0:0≤u) (h1:u≤cj) (w:World):ax Tryz.prog 242 [.int .u64 0,.int .u64 u,.bool neg] w (.tuple #[.int .i64 (if neg then -u else u),.bool true]):=by
 have h:=DT 0 u neg h0 w
 rwa [iL,if_neg (by omega)] at h
theorem ni: ∀ (l:List Int) (v c:Int),bh (l++ [c]) v=10*bh l v+(c - 48)
 | [],_,_=>rfl
 |d::r,v,c=>by simp only [MU,bh];exact ni r _ c
theorem j8: ∀ (l:List Int) {v:Int},(∀ c∈l,48≤c)→0≤v→v≤bh l v
 | [],_,_,_=>Od _
 |c::r,v,h,h0=>by
  have h1:=h c MY
  have:=j8 r (v:=10*v+(c - 48)) (fun d hd=>h d (M7 _ hd)) (by omega)
  simp only [bh];omega
theorem od (l m:List Int) (v:Int):bh (l++m) v=bh m (bh l v):=by
 induction l generalizing v with
 |nil=>rfl
 |cons c l ih=>simp only [MU,bh,ih]
def fI (l0:List Int):Int × Int:=
 let neg:=decide (l0.head? =some 45)
 let l:=if neg then l0.tail else l0
 let n:=aB aD l
 let rest:=l.drop n
 let frac:=decide (1<rest.length) && (decide (rest.head? =some 46) && decide (aB aD rest.tail+1=rest.length))
 let p5:=(if frac then rest.tail else [])++ [48,48,48,48,48]
 if n=0∨(frac=false∧rest≠ []) then (0,4)
 else
  let v:=bh (l.take n++p5.take 4) 0+(if 53≤p5.getD 4 0 then 1 else 0)
  if cj<v then (0,3) else (if neg then -v else v,0)
theorem oz (a:ByteArray) (c:Int):((ap a).head? =some c)↔(0<a.size∧bat a 0=c):=by
 by_cases h:0<a.size
 ·
  have:=aY h
  rw [Oi] at this
  rw [this];simp [h]
 ·
  have:ap a= []:=by rw [← OD,au];omega
  rw [this];simp;omega
set_option maxRecDepth 10000 in
theorem p9 (a:ByteArray) (ha:a.size≤1000000) (w:World):ax Tryz.prog 201 [.string a] w (.tuple #[.int .i64 (fI (ap a)).1,.int .i64 (fI (ap a)).2]):=by
 refine aq Tryz.func201 rfl Tryz.ntmps201 rfl ?_
 have hl:=au a
 generalize hneg:decide ((ap a).head? =some 45)=neg
 generalize hls:(if neg then (ap a).tail else ap a)=ls
 have hb0:=oz a 45
 repeat' (first|(refine qU (id:=1) (ι:=Bool) (fun b=> [(0,.string a),(4,.bool b)]) (fun _=> []) (fun b=>neg=b) ?_ ?_)|refine sT ?_|refine sT2 ?_|refine sM fun _=> ?_|(refine sC ?_ ?_<;>intro hb<;>try omega)|exact cT|fail)
 ·
  (apply cv;rotate_left 1;exact sB;exact mS)
  rw [← hneg,decide_eq_decide,hb0]
  simp;omega
 ·
  (apply cv;rotate_left 1;exact sB;exact mS)
  rw [← hneg,decide_eq_false_iff_not,hb0]
  omega
 rintro _ rfl
 repeat' (first|(refine wj (id:=2) (ι:=ByteArray) (fun b=> [(0,.string b),(4,.bool neg)]) (fun _=> []) (fun b=>ap b=ls∧b.size≤a.size) ?_ ?_)|refine sT ?_|refine sT2 ?_|refine sM fun _=> ?_|(refine sC ?_ ?_<;>intro hb<;>try omega)|exact cT|fail)
 ·
  have h1:0<a.size:=(hb0.1 (of_decide_eq_true (hneg.trans hb))).1
  repeat' (first|refine sT ?_|refine sT2 ?_|refine sM fun _=> ?_|(refine sC ?_ ?_<;>intro hb<;>try omega)|exact cT|fail)
  (apply cv;rotate_left 1;exact sB;exact mS)
  rw [← hls,hb,mo,bQ _ (MZ _)]
  simp
 ·
  (apply cv;rotate_left 1;exact sB;exact mS)
  rw [← hls,hb]
  simp
 rintro b ⟨hbl,hbs⟩
 have hlb:=au b
 rw [hbl] at hlb
 have hdl:=bN aD ls
 generalize hn:aB aD ls=n at hdl
 generalize hrest:ls.drop n=rest
 generalize hfr:(decide (1<rest.length) && (decide (rest.head? =some 46) && decide (aB aD rest.tail+1=rest.length)))=fr
 have hcd:=vD b (by omega)
 rw [hbl,hn] at hcd
 have hb1:=oz (sub b n b.size) 46
 have hs1:=bQ b (lo:=n) (MZ b.size)
 have hr1:ap (sub b n b.size)=rest:=by rw [mo,hbl,hrest]
 generalize hz:sub b n b.size=z at hb1 hs1 hr1
 have hrl:rest.length=z.size:=by rw [← hr1,au]
 have e1:ap (sub z 1 z.size)=rest.tail:=by rw [mo,hr1,List.drop_one]
 rw [hr1] at hb1
 have hcd2:=fun h=>vD (sub z 1 z.size) h
 repeat' (first|(refine qU (id:=7) (ι:=Bool) (fun x=> [(4,.bool neg),(5,.int .i64 (n:Int)),(6,.string (sub b 0 n)),(7,.string z),(8,.string av),(50,.bool x)]) (fun _=> []) (fun x=>fr=x) ?_ ?_)|(apply aa;exact rfl;exact rfl;(intro w hm;exact hcd w))|(apply aa;exact rfl;exact rfl;(intro w hm;exact hcd2 (by rw [bQ _ (MZ _)];omega) w))|(rw [hz])|refine sT ?_|refine sQ ?_|refine sT2 ?_|refine sQ2 ?_|refine sN ?_|refine sNQ ?_|refine sD ?_|refine sM fun _=> ?_|(refine sC ?_ ?_<;>intro hb<;>try omega)|(refine sCQ ?_ ?_<;>intro hb<;>try omega)|exact cT|fail)
 ·
  (apply cv;rotate_left 1;exact sB;exact mS)
  rename_i h1
  rw [e1,← hfr,decide_eq_true (by omega:1<rest.length),decide_eq_true (hb1.2 ⟨by omega,hb⟩)]
  simp only [Ns,decide_eq_decide]
  omega
 ·
  (apply cv;rotate_left 1;exact sB;exact mS)
  rw [← hfr,decide_eq_false (fun h=>hb (hb1.1 h).2)]
  simp
 ·
  (apply cv;rotate_left 1;exact sB;exact mS)
  rw [← hfr,decide_eq_false (by omega)]
  rfl
 rintro _ rfl
 have hf1:fr=true→1≤z.size:=fun h=>by
  rw [← hfr] at h
  simp at h
  omega
 have hf2:fr=false→((z=av)↔rest= []):=fun _=>by rw [← GY,hr1]
 have hbl2:b.size≤1000000:=by omega
 refine mV (ι:=ByteArray × ByteArray) (fun x=> [(4,.bool neg),(5,.int .i64 (n:Int)),(6,.string (sub b 0 n)),(7,.string x.1),(8,.string x.2)]) (fun _=> []) (fun x=>ap x.2=(if fr then rest.tail else [])∧((x.1=av)↔(fr=true∨rest= []))∧x.2.size≤a.size) ?_ ?_
 ·
  cases fr
  ·
   repeat' (first|refine sT ?_|refine sT2 ?_|refine sM fun _=> ?_|(refine sC ?_ ?_<;>intro hb<;>try omega)|exact cT|fail)
   refine cv ((z,av)) ?_ sB mS
   exact ⟨rfl,by rw [hf2 rfl];simp,Nl _⟩
  ·
   have h1:=hf1 rfl
   repeat' (first|refine sT ?_|refine sT2 ?_|refine sM fun _=> ?_|(refine sC ?_ ?_<;>intro hb<;>try omega)|exact cT|fail)
   refine cv ((av,sub z 1 z.size)) ?_ sB mS
   exact ⟨by rw [e1];rfl,by simp [av],by rw [bQ _ (MZ _)];omega⟩
 rintro ⟨z',pl⟩ ⟨h1,h2,h3⟩
 dsimp only at*
 generalize hp5:(if fr then rest.tail else [])++ [48,48,48,48,48]=p5
 have hpl:ap (pl++⟨#[48,48,48,48,48]⟩)=p5:=by rw [fO,h1,← hp5];rfl
 have hpz:(pl++⟨#[48,48,48,48,48]⟩:ByteArray).size=pl.size+5:=by rw [O1];rfl
 generalize hqd:(pl++⟨#[48,48,48,48,48]⟩:ByteArray)=q at hpl hpz
 have hres:fI (ap a)=if n=0∨(fr=false∧rest≠ []) then (0,4) else if cj<bh (ls.take n++p5.take 4) 0+(if 53≤p5.getD 4 0 then 1 else 0) then (0,3) else (if neg then -(bh (ls.take n++p5.take 4) 0+(if 53≤p5.getD 4 0 then 1 else 0)) else bh (ls.take n++p5.take 4) 0+(if 53≤p5.getD 4 0 then 1 else 0),0):=by
  unfold fI
  rw [hneg]
  dsimp only
  rw [hls,hn,hrest,hfr,hp5]
 rw [hres]
 by_cases herr:n=0∨(fr=false∧rest≠ [])
 ·
  rw [if_pos herr]
  repeat' (first|refine sT ?_|refine sT2 ?_|refine sM fun _=> ?_|(refine sC ?_ ?_<;>intro hb<;>try omega)|exact cT|fail)
  ·
   (refine rT2 ?_)
   rfl
  ·
   (refine rT2 ?_)
   rfl
  ·
   exfalso
   have hz' :z' =av:=Decidable.not_not.1 hb
   have:=h2.1 hz'
   rcases herr with h|⟨h,h'⟩
   ·
    omega
   ·
    rcases this with h4|h4
    ·
     rw [h] at h4;cases h4
    ·
     exact h' h4
 ·
  rw [if_neg herr]
  generalize hL:ls.take n++p5.take 4=L
  have hp5l:p5.length=pl.size+5:=by rw [← hpl,au,hpz]
  have hy:ap (sub b 0 n++sub q 0 4)=L:=by rw [fO,qC,qC,hbl,hpl,hL]
  have hyz:(sub b 0 n++sub q 0 4:ByteArray).size=n+4:=by rw [O1,bQ _ (by omega),bQ _ (by omega)];omega
  generalize hyd:(sub b 0 n++sub q 0 4:ByteArray)=y at hy hyz
  have hyl:L.length=y.size:=by rw [← hy,au]
  have hdig: ∀ c∈L,48≤c∧c≤57:=by
   have hall: ∀ (l:List Int) (c:Int),c∈l.take (aB aD l)→48≤c∧c≤57:=fun l c hc=>by
    obtain ⟨j,hj,rfl⟩:=OW hc
    simp only [Nj] at hj
    have h:=jc (p:=aD) l j (l[j]'(by omega)) (by omega) (MV _)
    simp only [PM]
    simpa [aD] using h
   intro c hc
   rw [← hL] at hc
   rcases Nu.1 hc with hc|hc
   ·
    rw [← hn] at hc;exact hall ls c hc
   ·
    have hc:=NX hc
    rw [← hp5] at hc
    rcases Nu.1 hc with hc|hc
    ·
     cases hc1:fr
     ·
      rw [hc1] at hc;cases hc
     ·
      rw [hc1] at hc
      simp only [if_true] at hc
      have h7:aB aD rest.tail=rest.tail.length:=by
       rw [hc1] at hfr
       simp only [M0,decide_eq_true_eq] at hfr
       rw [PE];omega
      have:=hall rest.tail c (by rw [h7,N0];exact hc)
      exact this
    ·
     simp at hc;omega
  have hq4:bat q 4=p5.getD 4 0:=by rw [bat,hpl]
  have hm0:cj=9223372036854775807:=rfl
  repeat' (first|(apply aj (d:=60);exact rfl;apply iV;exact rfl;exact rfl;exact hqd;(show pl.size+5≤_;omega))|(apply aj (d:=64);exact rfl;apply iV;exact rfl;exact rfl;exact hyd;(rw [bQ _ (by omega),bQ _ (by omega)];omega))|(apply ku;exact rfl;exact rfl;intro gb cap)|refine sT ?_|refine sT2 ?_|refine sM fun _=> ?_|(refine sC ?_ ?_<;>intro hb<;>try omega)|exact cT|fail)
  ·
   exfalso
   refine herr (.inr ?_)
   have h4: ¬ (fr=true∨rest= []):=fun h=>hb (h2.2 h)
   cases hc:fr
   ·
    exact ⟨rfl,fun h=>h4 (.inr h)⟩
   ·
    exact absurd (.inl hc) h4
  have hup: ∀ i,i≤L.length→cj<bh (L.take i) 0→cj<bh L 0:=fun i hi h=>by
   have e:L=L.take i++L.drop i:=(NT i L).symm
   rw [e,od]
   have h0:0≤bh (L.take i) 0:=j8 _ (fun c hc=>(hdig c (NX hc)).1) (Od _)
   have:=j8 (L.drop i) (v:=bh (L.take i) 0) (fun c hc=>(hdig c (OQ hc)).1) h0
   omega
  refine ay [4,8,65,66] rfl (fun x:Nat × Int × Bool=> [(9,.int .u64 x.2.1),(10,.bool x.2.2),(67,.int .i64 (x.1:Int))]) (fun _=> [.byt gb 5 y.size cap (lX y)]) (fun x=>x.1≤L.length∧0≤x.2.1∧x.2.1<18446744073709551616∧(x.2.2=false→x.2.1=bh (L.take x.1) 0∧x.2.1≤cj)∧(x.2.2=true→cj<bh (L.take x.1) 0)) (fun x=>L.length - x.1) (0,0,false) ⟨Nl _,Od _,by decide,fun _=>⟨rfl,by decide⟩,fun h=>by cases h⟩ sB mS ?_
  rintro ⟨i,v,gr⟩ ⟨hi,hv0,hv1,hg0,hg1⟩
  dsimp only at hi hv0 hv1 hg0 hg1 ⊢
  by_cases hlt:i<L.length
  ·
   have hiy:i<y.size:=by omega
   have hge:L[i]? =some L[i]:=MV hlt
   have hci:=hdig L[i] (NK hlt)
   have hsn:bh (L.take (i+1)) 0=10*bh (L.take i) 0+(L[i] - 48):=by rw [M9 hlt,ni]
   generalize L[i]=c at hge hci hsn
   have hget:(lX y)[0+i*1]? =some (.int .u8 c):=by rw [mB,hy,NY,show 0+i*1=i by omega,hge];rfl
   have hwc:IntKind.u8.wrap (c - 48)=c - 48:=dV (by omega) (by omega)
   have hwc2:IntKind.u64.wrap (c - 48)=c - 48:=by simp [IntKind.wrap,IntKind.bits,IntKind.signed];omega
   obtain ⟨v',hadd,hv2,hv3,hv4⟩: ∃ v',IntKind.u64.wrap (IntKind.u64.wrap (10*v)+(c - 48))=v' ∧0≤v' ∧v' <18446744073709551616∧(v≤922337203685477580→v' =10*v+(c - 48)):=by
    refine ⟨_,rfl,?_⟩
    simp only [IntKind.wrap,IntKind.bits,IntKind.signed]
    simp
    omega
   have hn0:0≤bh (L.take i) 0:=j8 _ (fun c hc=>(hdig c (NX hc)).1) (Od _)
   cases gr
   ·
    obtain ⟨hg2,hg3⟩:=hg0 rfl
    repeat' (first|(apply aj;exact rfl;apply ak;exact rfl;exact rfl;exact hiy)|(apply aj;exact rfl;apply ja;exact rfl;exact .hd;exact hget)|(apply aj (d:=74);exact rfl;apply Av;exact rfl;exact rfl)|(apply aj (d:=76);exact rfl;apply df;exact rfl;exact rfl;exact hwc)|(apply aj (d:=77);exact rfl;apply bI;exact rfl;exact hwc2)|(apply aj (d:=78);exact rfl;apply dA;exact rfl;exact rfl;exact hadd)|refine sT ?_|refine sT2 ?_|refine sN ?_|refine sM fun _=> ?_|(refine sC ?_ ?_<;>intro hb<;>try omega)|exact cT|fail)
    ·
     refine ⟨(i+1,v',true),?_,(by first|omega|(dsimp only;omega)),sB,sB,mS⟩
     exact ⟨hlt,hv2,hv3,(fun h=>by cases h),fun _=>by dsimp only;omega⟩
    ·
     have h5:=hv4 (by omega)
     refine ⟨(i+1,v',decide (cj<v')),⟨hlt,hv2,hv3,fun h=> ?_,fun h=> ?_⟩,(by dsimp only;omega),sB,sB,mS⟩
     ·
      have h6:=of_decide_eq_false h
      exact ⟨by dsimp only;omega,by dsimp only;omega⟩
     ·
      have h6:=of_decide_eq_true h
      dsimp only;omega
   ·
    have hg2:=hg1 rfl
    repeat' (first|(apply aj;exact rfl;apply ak;exact rfl;exact rfl;exact hiy)|(apply aj;exact rfl;apply ja;exact rfl;exact .hd;exact hget)|(apply aj (d:=74);exact rfl;apply Av;exact rfl;exact rfl)|(apply aj (d:=76);exact rfl;apply df;exact rfl;exact rfl;exact hwc)|(apply aj (d:=77);exact rfl;apply bI;exact rfl;exact hwc2)|(apply aj (d:=78);exact rfl;apply dA;exact rfl;exact rfl;exact hadd)|refine sT ?_|refine sT2 ?_|refine sN ?_|refine sM fun _=> ?_|(refine sC ?_ ?_<;>intro hb<;>try omega)|exact cT|fail)
    all_goals
     refine ⟨(i+1,v',true),?_,(by first|omega|(dsimp only;omega)),sB,sB,mS⟩
     exact ⟨hlt,hv2,hv3,(fun h=>by cases h),fun _=>by dsimp only;omega⟩
  ·
   have e:i=L.length:=by omega
   subst e
   rw [NE (MZ _)] at hg0 hg1
   generalize bh L 0=N at hg0 hg1 hup ⊢
   have hadd:v≤cj→IntKind.u64.wrap (v+1)=v+1:=fun h=>by simp [IntKind.wrap,IntKind.bits,IntKind.signed];omega
   by_cases h5:53≤p5.getD 4 0
   ·
    rw [if_pos h5]
    cases gr
    ·
     obtain ⟨hg2,hg3⟩:=hg0 rfl
     subst hg2
     by_cases h6:cj<v+1
     ·
      rw [if_pos h6]
      repeat' (first|(apply aj (d:=89);exact rfl;apply dA;exact rfl;exact rfl;exact hadd hg3)|refine sT ?_|refine sT2 ?_|refine sM fun _=> ?_|(refine sC ?_ ?_<;>intro hb<;>try omega)|exact cT|fail)
      all_goals first|(exfalso;omega)|((refine rT2 ?_);rfl)
     ·
      rw [if_neg h6]
      repeat' (first|(apply aj (d:=89);exact rfl;apply dA;exact rfl;exact rfl;exact hadd hg3)|(apply aa;exact rfl;exact rfl;(intro w' hm;exact (rE (v+1) neg (by omega) (by omega) w')))|refine sT ?_|refine sT2 ?_|refine sM fun _=> ?_|(refine sC ?_ ?_<;>intro hb<;>try omega)|exact cT|fail)
      all_goals first|(exfalso;omega)|((refine rT2 ?_);rfl)
    ·
     rw [if_pos (by have:=hg1 rfl;omega)]
     obtain ⟨u,hu⟩: ∃ u,IntKind.u64.wrap (v+1)=u:=⟨_,rfl⟩
     repeat' (first|(apply aj (d:=89);exact rfl;apply dA;exact rfl;exact rfl;exact hu)|refine sT ?_|refine sT2 ?_|refine sM fun _=> ?_|(refine sC ?_ ?_<;>intro hb<;>try omega)|exact cT|fail)
     all_goals first|(exfalso;omega)|((refine rT2 ?_);rfl)
   ·
    rw [if_neg h5,Int.add_zero]
    cases gr
    ·
     obtain ⟨hg2,hg3⟩:=hg0 rfl
     subst hg2
     rw [if_neg (by omega)]
     repeat' (first|(apply aa;exact rfl;exact rfl;(intro w' hm;exact (rE v neg (by omega) hg3 w')))|refine sT ?_|refine sT2 ?_|refine sM fun _=> ?_|(refine sC ?_ ?_<;>intro hb<;>try omega)|exact cT|fail)
     all_goals first|(exfalso;omega)|((refine rT2 ?_);rfl)
    ·
     rw [if_pos (hg1 rfl)]
     repeat' (first|refine sT ?_|refine sT2 ?_|refine sM fun _=> ?_|(refine sC ?_ ?_<;>intro hb<;>try omega)|exact cT|fail)
     all_goals first|(exfalso;omega)|((refine rT2 ?_);rfl)
end Go.SL
namespace Go.SL
open Go Go.Proofs
attribute [local irreducible] W WL WQ WG VOp thn blk bi aQ FnIn
set_option maxRecDepth 10000 in
theorem jU (c r:Int) (w:World):ax Tryz.prog 64 [.agg #[.int .i64 c,.int .i64 r]] w (.bool (valid c r)):=by
 refine aq Tryz.func64 rfl Tryz.ntmps64 rfl ?_
 repeat' (first|refine sT ?_|refine sM fun _=> ?_|(refine sC ?_ ?_<;>intro hb<;>try omega)|fail)
 all_goals ((refine rT1 ?_);((try simp only [← Int.not_lt] at*);simp_all [valid, -Int.not_lt, -Int.not_le,← Int.not_lt]))
set_option maxRecDepth 10000 in
theorem B6 (r:Rct) (w:World):ax Tryz.prog 142 [.agg (bK r).toArray] w (.tuple #[.agg #[.int .i64 r.c1,.int .i64 r.r1],.agg #[.int .i64 r.c2,.int .i64 r.r2]]):=by
 refine aq Tryz.func142 rfl Tryz.ntmps142 rfl ?_
 repeat' (first|refine sT ?_|refine sM fun _=> ?_|(refine sC ?_ ?_<;>intro hb<;>try omega)|fail)
 rename_i g1 g2 g3
 refine qw (fun D=> [.box g2 51 [.int .i64 (bif D 10 then r.c1 else 0),.int .i64 (bif D 10 then r.r1 else 0)],.box g3 51 [.int .i64 (bif D 11 then r.c2 else 0),.int .i64 (bif D 11 then r.r2 else 0)],.box g1 33 (bK r)]) (by kernel_rfl) (by kernel_rfl) (.pick (.tl .hd) (.pick .hd (.refl _))) ?_
 repeat' (first|refine sT ?_|refine sG ?_|refine sM fun _=> ?_|(refine sC ?_ ?_<;>intro hb<;>try omega)|fail)
 refine Aj _ _ rfl rfl (fun D=> .tl .hd) rfl rfl rfl (fun _=>MZ _) (fun D ht=> .pick (.tl .hd) (.pick .hd (.refl _))) ?_
 refine v6 fun D hD=> ?_
 have h10:=hD 10 (by decide)
 have h11:=hD 11 (by decide)
 simp only [h10,h11,cond_true]
 repeat' (first|refine sT ?_|refine sM fun _=> ?_|(refine sC ?_ ?_<;>intro hb<;>try omega)|fail)
 refine Mm (.inl rfl) Tryz.results142 rfl .hd rfl rfl (.tl .hd) rfl (MSub.nil _) ?_
 rfl
set_option maxRecDepth 10000 in
theorem fY (r:Rct) (w:World):ax Tryz.prog 94 [.agg (bK r).toArray] w (.int .i64 (dC r)):=by
 refine aq Tryz.func94 rfl Tryz.ntmps94 rfl ?_
 repeat' (first|(apply aa;exact rfl;exact rfl;(intro w hm;exact B6 r w))|(apply aa;exact rfl;exact rfl;(intro w hm;exact jU r.c1 r.r1 w))|(apply aa;exact rfl;exact rfl;(intro w hm;exact jU r.c2 r.r2 w))|refine sT ?_|refine sM fun _=> ?_|(refine sC ?_ ?_<;>intro hb<;>try omega)|fail)
 all_goals ((refine rT1 ?_);((try simp only [← Int.not_lt] at*);simp_all [dC,aG, -Int.not_lt, -Int.not_le,← Int.not_lt]))
set_option maxRecDepth 10000 in
theorem GU (fn:Int) (w:World):ax Tryz.prog 347 [.int .u8 fn] w (.bool (cM fn)):=by
 refine aq Tryz.func347 rfl Tryz.ntmps347 rfl ?_
 repeat' (first|refine sT ?_|refine sM fun _=> ?_|(refine sC ?_ ?_<;>intro hb<;>try omega)|fail)
 all_goals ((refine rT1 ?_);((try simp only [← Int.not_lt] at*);simp_all [cM, -Int.not_lt, -Int.not_le,← Int.not_lt]))
set_option maxRecDepth 10000 in
theorem pP (fn:Int) (w:World):ax Tryz.prog 329 [.int .u8 fn] w (.bool (gJ fn)):=by
 refine aq Tryz.func329 rfl Tryz.ntmps329 rfl ?_
 repeat' (first|refine sT ?_|refine sM fun _=> ?_|(refine sC ?_ ?_<;>intro hb<;>try omega)|fail)
 all_goals ((refine rT1 ?_);((try simp only [← Int.not_lt] at*);simp_all [gJ, -Int.not_lt, -Int.not_le,← Int.not_lt]))
set_option maxRecDepth 10000 in
theorem Ip (n:Nd) (w:World):ax Tryz.prog 308 [.agg (bW n).toArray] w (.int .i64 (below n)):=by
 refine aq Tryz.func308 rfl Tryz.ntmps308 rfl ?_
 repeat' (first|refine sT ?_|refine sM fun _=> ?_|(refine sC ?_ ?_<;>intro hb<;>try omega)|fail)
 all_goals ((refine rT1 ?_);simp_all [below])
set_option maxRecDepth 10000 in
theorem tH (fn:Int) (w:World):ax Tryz.prog 327 [.int .u8 fn] w (.tuple #[.int .i64 (dY fn).1,.int .i64 (dY fn).2.1,.int .i64 (dY fn).2.2]):=by
 refine aq Tryz.func327 rfl Tryz.ntmps327 rfl ?_
 repeat' (first|(apply aa;exact rfl;exact rfl;(intro w hm;exact GU fn w))|refine sT ?_|refine sM fun _=> ?_|(refine sC ?_ ?_<;>intro hb<;>try omega)|fail)
 all_goals ((refine rT3 ?_);simp_all [dY])
set_option maxRecDepth 10000 in
theorem Cv (fn i:Int) (w:World):ax Tryz.prog 328 [.int .u8 fn,.int .i64 i] w (.tuple #[.bool (i9 fn i).1,.int .i64 (i9 fn i).2]):=by
 refine aq Tryz.func328 rfl Tryz.ntmps328 rfl ?_
 repeat' (first|(apply aa;exact rfl;exact rfl;(intro w hm;exact tH fn w))|(apply aa;exact rfl;exact rfl;(intro w hm;exact pP fn w))|refine sT ?_|refine sM fun _=> ?_|(refine sC ?_ ?_<;>intro hb<;>try omega)|fail)
 all_goals ((refine rT2 ?_);((try simp only [← Int.not_lt] at*);simp_all [i9, -Int.not_lt, -Int.not_le,← Int.not_lt]))
set_option maxHeartbeats 1000000 in
theorem vq (n:Nd) (w:World):ax Tryz.prog 307 [.agg (bW n).toArray] w (.int .i64 (cI n)):=by
 refine aq Tryz.func307 rfl Tryz.ntmps307 rfl ?_
 repeat' (first|(apply aa;exact rfl;exact rfl;(intro w hm;exact Ak n.v w))|(apply aa;exact rfl;exact rfl;(intro w hm;exact fY n.rect w))|(apply aa;exact rfl;exact rfl;(intro w hm;exact tH n.fn w))|(apply wh (T:=174) (fun D=> [.int .u8 n.kind,.int .u8 0,.int .i64 0,.string av,.int .i64 0,.int .i64 0,.int .i64 0,.int .i64 0,.int .i64 0,.int .u8 (bif D 5 then n.fn else 0),.int .i64 (bif D 7 then n.n else 0)]) (xs' := [.int .u8 n.kind,.int .u8 0,.int .i64 0,.string av,.int .i64 0,.int .i64 0,.int .i64 0,.int .i64 0,.int .i64 0,.int .u8 n.fn,.int .i64 n.n]);kernel_rfl;kernel_rfl;(first|exact .hd|exact .tl .hd);exact rfl;(intro D hD;simp only [hD 5 (by decide),hD 7 (by decide),cond_true]))|(apply aj;exact rfl;(first|(apply q9 (b:=⟨n.kind,n.v,aL,0,0,0⟩);exact rfl;exact rfl)|(apply q9 (b:=⟨n.kind,bD,n.rect,0,0,0⟩);exact rfl;exact rfl)|(apply q9 (b:=⟨n.kind,bD,aL,0,0,0⟩);exact rfl;exact rfl)|(apply q9 (b:=⟨n.kind,bD,aL,n.op,0,0⟩);exact rfl;exact rfl)|(apply q9 (b:=⟨n.kind,bD,aL,0,n.fn,n.n⟩);exact rfl;exact rfl)))|refine sT ?_|refine sG ?_|refine sM fun _=> ?_|(refine sC ?_ ?_<;>intro hb<;>try omega)|fail)
 all_goals ((refine rT1 ?_);((try simp only [← Int.not_lt] at*);simp_all [cI,jJ,da,Db,Gx, -Int.not_lt, -Int.not_le,← Int.not_lt]))
end Go.SL
namespace Go.SL
open Go Go.Proofs
attribute [local irreducible] W WL WQ WG WA VOp thn blk bi aQ FnIn
theorem gO {L:List Nd} {i:Nat} (h:i<L.length):jK L i=L[i].kind:=by simp [jK,h]
set_option maxHeartbeats 1000000 in
theorem JV (L:List Nd) (n:Nd) (ps:List Pt) (tv lv:Value) (w:World) (ht:Reads w tv L.length (L.flatMap bW)) (hp:Reads w lv ps.length (ps.flatMap pq)) (hroot: ∀ p∈ps,p.root<L.length) (hlen:ps.length≤1000000):
  ax Tryz.prog 309 [tv,.agg (bW n).toArray,lv] w (.bool (eF L n 0 ps)):=by
 obtain ⟨At,ct,rfl,ht1,ht2,ht3⟩:=ht
 obtain ⟨Al,cl,rfl,hl1,hl2,hl3⟩:=hp
 refine aq Tryz.func309 rfl Tryz.ntmps309 rfl ?_
 repeat' (first|refine sT ?_|refine sM fun _=> ?_|(refine sC ?_ ?_<;>intro hb<;>try omega)|fail)
 rename_i gn
 refine fT (fun i:Nat=> [(0,.slice At L.length ct),(4,.pointer (some ⟨gn,0,none⟩)),(11,.slice Al ps.length cl),(12,.int .i64 (ps.length:Int)),(13,.int .i64 (i:Int))])
  (fun i=> [.box gn 174 (bW n)]) (fun i=>i≤ps.length∧eF L n 0 ps=eF L n (i:Int) (ps.drop i)) (fun i=>ps.length - i) 0 ⟨by omega,rfl⟩ ?_ ?_ ?_
 ·
  exact sB
 ·
  exact mS
 ·
  rintro i ⟨hi,hrec⟩
  by_cases hlt:i<ps.length
  ·
   obtain ⟨g,o,rfl,hro⟩:=hl3 (by omega)
   have hrp:=hro.elem lU i hlt
   have hr0:=hroot ps[i] (NK hlt)
   obtain ⟨gt,ot,rfl,hrt⟩:=ht3 (by omega)
   have hrn:=hrt.elem fC ps[i].root hr0
   rw [M3 hlt,eF,sH,gO hr0] at hrec
   repeat' (first|(apply aj;exact rfl;apply ak;exact rfl;exact rfl;first|exact hlt|exact hr0)|(apply aj;exact rfl;apply aA;exact rfl;exact hrp;exact rfl)|(apply aj;exact rfl;apply di;exact rfl;exact hrn;exact rfl)|(apply aj;exact rfl;apply ep;exact rfl;exact rfl;(constructor<;>omega))|(apply aa;exact rfl;exact rfl;(intro w hm;exact Cv n.fn (i:Int) w))|(apply aa;exact rfl;exact rfl;(intro w hm;exact pP n.fn w))|refine sT ?_|refine sM fun _=> ?_|(refine sC ?_ ?_<;>intro hb<;>try omega)|fail)
   all_goals first
    |((refine rT1 ?_);rw [hrec];simp_all [y5];done)
    |(refine ⟨i+1,⟨by omega,?_⟩,by omega,?_,?_⟩;(focus (rw [hrec,Int.natCast_add];simp [y5, *]));(focus exact sB);(focus exact mS))
  ·
   have e:i=ps.length:=by omega
   subst e
   rw [ND,eF] at hrec
   repeat' (first|refine sT ?_|refine sM fun _=> ?_|(refine sC ?_ ?_<;>intro hb<;>try omega)|fail)
   (refine rT1 ?_)
   rw [hrec]
end Go.SL
