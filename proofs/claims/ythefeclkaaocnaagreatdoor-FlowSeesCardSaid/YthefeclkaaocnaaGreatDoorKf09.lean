/-
  Lemmas and walks, put together: W2 A1 W1 W3 W4.
-/
import Derived.Test.YthefeclkaaocnaaGreatDoorKf08
set_option linter.unusedSimpArgs false
set_option linter.unusedVariables false
set_option maxRecDepth 20000
namespace Go.SL
open Go Go.Proofs
attribute [local irreducible] W WL WQ WG VOp thn blk ba FnAt FnIn
theorem qt (b:ByteArray):pT b=(ap b).map (Value.int .u8):=by simp [pT,ap]
theorem xe {α β:Type} (f:α→α) (E:α→β) (xs:List α) (i:Nat) (h:i<xs.length):(((xs.take i).map f++xs.drop i).map E).set i (E (f xs[i]))=((xs.take (i+1)).map f++xs.drop (i+1)).map E:=by
 rw [← List.map_set,VL _ _ (by simp;omega)]
 have e1:xs.drop i=xs[i]::xs.drop (i+1):=TN h
 have e2:xs.take (i+1)=xs.take i++ [xs[i]]:=TP h
 have e3:i - ((xs.take i).map f).length=0:=by simp;omega
 rw [e3,e1,e2]
 simp only [Ww,UG,Ud,UQ,TY,TK,TL]
set_option maxRecDepth 10000 in
theorem IC (f:FuncId) [Callable Tryz.prog f] (g:Int→Int) (hf: ∀ c w,aD Tryz.prog f [.int .u8 c] w (.int .u8 (g c))) (a:ByteArray) (ha:a.size≤1000000) (w:World):
  FnAt Tryz.prog 231 [.string a,.func (.func f) #[] #[]] w fun v H=> ∃ gb cap,v= .slice (some ⟨gb,0,none⟩) a.size cap∧H= [.byt gb 5 a.size cap (((ap a).map g).map (Value.int .u8))]:=by
 refine ax Tryz.func231 rfl Tryz.ntmps231 rfl ?_
 repeat' (first|(apply mW;exact rfl;exact rfl;intro gb cap)|refine sT ?_|refine sM fun _=> ?_|(refine sC ?_ ?_<;>intro hb<;>try omega)|fail)
 refine jf (fun i:Nat=> [(5,.slice (some ⟨gb,0,none⟩) a.size cap),(10,.slice (some ⟨gb,0,none⟩) a.size cap),(11,.int .i64 (a.size:Int)),(12,.int .i64 (i:Int)),(1,.func (.func f) #[] #[])])
  (fun i=> [.byt gb 5 a.size cap ((((ap a).take i).map g++(ap a).drop i).map (Value.int .u8))]) (fun i=>i≤a.size) (fun i=>a.size - i) 0 (by omega) ?_ ?_ ?_
 ·
  exact sB
 ·
  rw [qt];simp only [U7,UQ,TL,UZ];exact mS
 ·
  intro i hi
  have hl:=aw a
  by_cases hlt:i<a.size
  ·
   have hil:i<(ap a).length:=by omega
   have hget:((((ap a).take i).map g++(ap a).drop i).map (Value.int .u8))[0+i*1]? =some (.int .u8 (ap a)[i]):=by
    rw [Uq,show 0+i*1=i by omega,Uj (by simp;omega)]
    simp [Vn (Nat.le_of_lt hil),UR]
   repeat' (first|(apply ak;exact rfl;apply aj;exact rfl;exact rfl;exact hlt)|(apply ak;exact rfl;apply kL;exact rfl;exact .hd;exact hget)|(apply l9;exact rfl;exact rfl;infer_instance;exact rfl;(intro w hm;exact hf _ w))|(apply mX;exact rfl;exact rfl;exact .hd;exact rfl;(simp;omega))|(apply ak;exact rfl;apply mh;exact rfl;exact rfl;(constructor<;>omega))|refine sT ?_|refine sM fun _=> ?_|(refine sC ?_ ?_<;>intro hb<;>try omega)|fail)
   refine ⟨i+1,by omega,by omega,?_,?_⟩
   ·
    exact sB
   ·
    rw [show 0+i*1=i by omega,xe g (Value.int .u8) (ap a) i hil]
    exact mS
  ·
   have e:i=a.size:=by omega
   subst e
   repeat' (first|refine sT ?_|refine sM fun _=> ?_|(refine sC ?_ ?_<;>intro hb<;>try omega)|fail)
   refine cA (.inl rfl) Tryz.results231 rfl (.refl _) ⟨gb,cap,rfl,?_⟩
   rw [UE (by omega),Uk (by omega),TR]
def kX (c:Int):Int:=if c<32∨126<c then 0 else 32
set_option maxRecDepth 10000 in
theorem PM (c:Int) (w:World):aD Tryz.prog 232 [.int .u8 c] w (.int .u8 (kX c)):=by
 refine ax Tryz.func232 rfl Tryz.ntmps232 rfl ?_
 repeat' (first|refine sT ?_|refine sM fun _=> ?_|(refine sC ?_ ?_<;>intro hb<;>try omega)|fail)
 all_goals ((refine rT1 ?_);((try simp only [← Int.not_lt] at*);simp_all [kX, -Int.not_lt, -Int.not_le]))
set_option maxRecDepth 10000 in
theorem K5 (c:Int) (w:World):aD Tryz.prog 233 [.int .i32 c] w (.bool (decide (c=0))):=by
 refine ax Tryz.func233 rfl Tryz.ntmps233 rfl ?_
 repeat' (first|refine sT ?_|refine sM fun _=> ?_|(refine sC ?_ ?_<;>intro hb<;>try omega)|fail)
 all_goals ((refine rT1 ?_);rfl)
def ky (q:Int→Bool) (l:List Int):Int:=match l.findIdx? q with
 |some i=>(i:Int)
 |none=> -1
theorem Ft {q:Int→Bool} {l:List Int} {i:Nat} (h:i<l.length) (hq:q l[i]=true) (hno: ∀ j (h:j<l.length),j<i→q l[j]=false):ky q l=(i:Int):=by
 have:l.findIdx? q=some i:=by
  rw [Wd]
  exact ⟨h,hq,fun j hj=>by simpa using hno j (by omega) hj⟩
 simp [ky,this]
theorem CD {q:Int→Bool} {l:List Int} (hno: ∀ j (h:j<l.length),q l[j]=false):ky q l= -1:=by
 have:l.findIdx? q=none:=by
  rw [VQ]
  intro x hx
  obtain ⟨j,hj,rfl⟩:=UY hx
  exact hno j hj
 simp [ky,this]
set_option maxRecDepth 10000 in
theorem Cs (f:FuncId) [Callable Tryz.prog f] (q:Int→Bool) (hf: ∀ c w,aD Tryz.prog f [.int .i32 c] w (.bool (q c))) (a:ByteArray) (ha:a.size≤1000000) (hasc: ∀ i (h:i<a.size),(a[i]'h).toNat<128) (w:World):
  aD Tryz.prog 274 [.string a,.func (.func f) #[] #[],.bool true] w (.int .i64 (ky q (ap a))):=by
 refine ax Tryz.func274 rfl Tryz.ntmps274 rfl ?_
 have hl:=aw a
 repeat' (first|(apply Bu;exact rfl;exact rfl;intro gi)|refine sT ?_|refine sM fun _=> ?_|(refine sC ?_ ?_<;>intro hb<;>try omega)|fail)
 refine jf (fun i:Nat=> [(0,.string a),(1,.func (.func f) #[] #[]),(2,.bool true),(10,.pointer (some ⟨gi,0,none⟩))])
  (fun i=> [.obj gi (.stringIter a i)]) (fun i=>i≤a.size∧ ∀ j (h:j<(ap a).length),j<i→q (ap a)[j]=false) (fun i=>a.size - i) 0 ⟨by omega,fun j _ h=>by omega⟩ ?_ ?_ ?_
 ·
  exact sB
 ·
  exact mS
 ·
  rintro i ⟨hi,hno⟩
  repeat' (first|(apply Dh;exact rfl;exact rfl;exact .hd;exact hasc i;all_goals intro hb)|(apply l9;exact rfl;exact rfl;infer_instance;exact rfl;(intro w hm;exact hf _ w))|refine sT ?_|refine sM fun _=> ?_|(refine sC ?_ ?_<;>intro hb<;>try omega)|fail)
  all_goals (try simp only [beq_true] at*)
  ·
   rename_i hlt
   have hq:=hb
   refine cA (.inl rfl) Tryz.results274 rfl (MSub.nil _) ?_
   have h1:=tj a i hlt
   rw [Ft (i:=i) (by omega) (by rw [h1];exact hq) hno]
  ·
   rename_i hlt
   have hq:=hb
   refine ⟨i+1,⟨by omega,fun j hj hji=> ?_⟩,by omega,?_,?_⟩
   ·
    by_cases e:j=i
    ·
     subst e
     rw [tj a j hlt];exact hq
    ·
     exact hno j hj (by omega)
   ·
    exact sB
   ·
    exact mS
  ·
   have hge:=hb
   refine cA (.inl rfl) Tryz.results274 rfl (MSub.nil _) ?_
   rw [CD fun j hj=>hno j hj (by omega)]
set_option maxRecDepth 10000 in
theorem C0 (f:FuncId) [Callable Tryz.prog f] (q:Int→Bool) (hf: ∀ c w,aD Tryz.prog f [.int .i32 c] w (.bool (q c))) (a:ByteArray) (ha:a.size≤1000000) (hasc: ∀ i (h:i<a.size),(a[i]'h).toNat<128) (w:World):
  aD Tryz.prog 230 [.string a,.func (.func f) #[] #[]] w (.int .i64 (ky q (ap a))):=by
 refine ax Tryz.func230 rfl Tryz.ntmps230 rfl ?_
 repeat' (first|(apply aa;exact rfl;exact rfl;(intro w hm;exact Cs f q hf a ha hasc w))|refine sT ?_|refine sM fun _=> ?_|(refine sC ?_ ?_<;>intro hb<;>try omega)|fail)
 all_goals ((refine rT1 ?_);rfl)
def kW (a:ByteArray):ByteArray:=⟨(((ap a).map kX).map fun n=>UInt8.ofNat n.toNat).toArray⟩
theorem px (a:ByteArray):(kW a).size=a.size:=by
 have:(kW a).size=((ap a).map kX).length:=by simp [kW,ByteArray.size]
 rw [this];simp [aw]
theorem vv (a:ByteArray):ap (kW a)=(ap a).map kX:=by
 simp only [ap,kW,VM]
 congr 1
 funext c
 simp only [Function.comp,kX]
 split<;>simp
theorem Fs (q:Int→Bool) (l:List Int):decide (ky q l<0)=l.all fun c=> !q c:=by
 unfold ky
 cases h:l.findIdx? q with
 |none=>
  rw [VQ] at h
  rw [Uy]
  simpa using h
 |some i=>
  rw [Wd] at h
  obtain ⟨h1,h2,_⟩:=h
  rw [Uy]
  simp only [decide_eq_true_eq,UT]
  constructor
  ·
   intro h;omega
  ·
   intro h
   have:=h _ (UA h1)
   rw [h2] at this
   cases this
theorem EC (a:ByteArray):decide (ky (fun c=>decide (c=0)) (ap (kW a))<0)=oZ a:=by
 rw [Fs,vv]
 simp only [ap,List.all_map,oZ]
 congr 1
 funext c
 have e:(decide (kX (c.toNat:Int)=0))= !(decide (32≤c.toNat) && decide (c.toNat≤126)):=by
  rw [Uy]
  by_cases h:(c.toNat:Int)<32∨126<(c.toNat:Int)
  ·
   simp only [kX,if_pos h];simp;omega
  ·
   simp only [kX,if_neg h];simp;omega
 simp only [Function.comp,e,Bool.not_not]
theorem Co (a:ByteArray): ∀ i (h:i<(kW a).size),((kW a)[i]'h).toNat<128:=by
 intro i h
 have h1:=tj (kW a) i h
 have h2:((kW a)[i].toNat:Int)=kX ((ap a)[i]'(by rw [aw,← px];exact h)):=by
  rw [← h1]
  simp [vv]
 have h3: ∀ x,kX x=0∨kX x=32:=fun x=>by unfold kX;split<;>simp
 rcases h3 ((ap a)[i]'(by rw [aw,← px];exact h)) with h4|h4<;>omega
set_option maxRecDepth 10000 in
theorem sV (a:ByteArray) (ha:a.size≤1000000) (w:World):aD Tryz.prog 191 [.string a] w (.bool (oZ a)):=by
 refine ax Tryz.func191 rfl Tryz.ntmps191 rfl ?_
 repeat' (first|((with_reducible apply aF (R:=fun v H=> ∃ gb cap,v= .slice (some ⟨gb,0,none⟩) a.size cap∧H= [.byt gb 5 a.size cap (((ap a).map kX).map (Value.int .u8))]));exact rfl;exact rfl;(intro w hm;exact IC 232 kX PM a ha w);(rintro v H' ⟨gb,cap,rfl,rfl⟩))|(apply ak;exact rfl;apply tS;exact rfl;exact .hd;simp [aw])|(apply aa;exact rfl;exact rfl;(intro w hm;exact C0 233 (fun c=>decide (c=0)) K5 (kW a) (by rw [px];exact ha) (Co a) w))|refine sT ?_|refine sM fun _=> ?_|(refine sC ?_ ?_<;>intro hb<;>try omega)|fail)
 all_goals ((refine rT1 ?_);rw [← EC])
set_option maxRecDepth 10000 in
theorem E5 (a:ByteArray) (w:World):aD Tryz.prog 150 [.string a] w (.int .i64 (jT a)):=by
 refine ax Tryz.func150 rfl Tryz.ntmps150 rfl ?_
 repeat' (first|(apply aa;exact rfl;exact rfl;(intro w hm;exact sV a (by omega) w))|refine sT ?_|refine sM fun _=> ?_|(refine sC ?_ ?_<;>intro hb<;>try omega)|fail)
 ·
  (refine rT1 ?_)
  have:decide (256<a.size)=true:=by simp;omega
  simp [jT,this]
 all_goals
  (refine rT1 ?_)
  have h256:decide (256<a.size)=false:=by simp;omega
  simp only [jT,h256,hb,cond_true,cond_false]
set_option maxRecDepth 10000 in
theorem Ge (v:Vl) (w:World):aD Tryz.prog 275 [.agg (dV v).toArray] w (.int .i64 (ra v)):=by
 refine ax Tryz.func275 rfl Tryz.ntmps275 rfl ?_
 repeat' (first|(apply aa;exact rfl;exact rfl;(intro w hm;exact E5 v.text w))|(apply ak;exact rfl;exact Gt (b:=⟨0,0,az⟩) rfl rfl)|refine sT ?_|refine sM fun _=> ?_|(refine sC ?_ ?_<;>intro hb<;>try omega)|fail)
 all_goals ((refine rT1 ?_);((try simp only [← Int.not_lt] at*);simp_all [ra,wY,eqV,az, -Int.not_lt, -Int.not_le,← Int.not_lt]);try (by_cases h:v.num=0<;>simp_all))
end Go.SL
namespace Go.SL
open Go Go.Proofs
attribute [local irreducible] W WL WQ WG WA VOp thn blk bF ba FnAt FnIn
theorem Og {c:Int} (h1:48≤c) (h2:c≤57):aJ c=true:=by simp [aJ,h1,h2]
theorem P9 {c:Int} (h:c<48):aJ c=false:=by simp [aJ];omega
theorem Qa {c:Int} (h:57<c):aJ c=false:=by simp [aJ];omega
set_option maxRecDepth 10000 in
theorem Bc (a:ByteArray) (ha:a.size≤1000000) (w:World):aD Tryz.prog 241 [.string a] w (.int .i64 (aG aJ (ap a):Int)):=by
 refine ax Tryz.func241 rfl Tryz.ntmps241 rfl ?_
 have hl:=aw a
 repeat' (first|refine sT ?_|refine sT2 ?_|refine sM fun _=> ?_|(refine sC ?_ ?_<;>intro hb<;>try omega)|exact cT|fail)
 refine jf (fun i:Nat=> [(0,.string a),(5,.int .i64 (a.size:Int)),(6,.int .i64 (i:Int))]) (fun _=> []) (fun i=>i≤a.size∧aG aJ (ap a)=i+aG aJ ((ap a).drop i)) (fun i=>a.size - i) 0 ⟨by omega,by simp⟩ sB mS ?_
 rintro i ⟨hi,hr⟩
 by_cases hlt:i<a.size
 ·
  have hs1:=bz hlt
  rw [hs1] at hr
  simp only [aG] at hr
  repeat' (first|refine sT ?_|refine sT2 ?_|refine sN ?_|refine sM fun _=> ?_|(refine sC ?_ ?_<;>intro hb<;>try omega)|exact cT|fail)
  ·
   (refine rT1 ?_)
   rw [hr,P9 hb];simp
  ·
   (refine rT1 ?_)
   rw [hr,Qa hb];simp
  ·
   rename_i h1
   rw [Og h1 hb] at hr
   exact ⟨i+1,⟨hlt,by rw [hr];simp;omega⟩,by omega,by exact sB,by exact mS⟩
 ·
  have e:i=a.size:=by omega
  subst e
  repeat' (first|refine sT ?_|refine sT2 ?_|refine sM fun _=> ?_|(refine sC ?_ ?_<;>intro hb<;>try omega)|exact cT|fail)
  (refine rT1 ?_)
  rw [hr,Uk (by omega)];simp [aG]
def j9 (hi lo:Int) (neg:Bool):Int × Bool:=if hi≠0∨cZ<lo then (0,false) else (if neg then -lo else lo,true)
theorem rP {v:Int} (h1:0≤v) (h2:v≤cZ):IntKind.i64.wrap v=v:=I64.wrap ⟨by omega,by simpa [cZ] using h2⟩
set_option maxRecDepth 10000 in
theorem Kw (hi lo:Int) (neg:Bool) (h0:0≤lo) (w:World):aD Tryz.prog 242 [.int .u64 hi,.int .u64 lo,.bool neg] w (.tuple #[.int .i64 (j9 hi lo neg).1,.bool (j9 hi lo neg).2]):=by
 refine ax Tryz.func242 rfl Tryz.ntmps242 rfl ?_
 by_cases hh:hi=0
 ·
  by_cases hl:lo≤cZ
  ·
   have hw:=rP h0 hl
   have hm:cZ=9223372036854775807:=rfl
   have e:j9 hi lo neg=(if neg then -lo else lo,true):=by rw [j9,if_neg (by omega)]
   rw [e]
   subst hh
   cases neg
   ·
    repeat' (first|(apply ak;exact rfl;apply bB;exact rfl;exact hw)|refine sT ?_|refine sM fun _=> ?_|(refine sC ?_ ?_<;>intro hb<;>try omega)|exact cT|fail)
    all_goals first|(exfalso;omega)|((refine rT2 ?_);rfl)
   ·
    repeat' (first|(apply ak;exact rfl;apply bB;exact rfl;exact hw)|(apply ak;exact rfl;apply Qz;exact rfl;exact ⟨by omega,by omega⟩)|refine sT ?_|refine sM fun _=> ?_|(refine sC ?_ ?_<;>intro hb<;>try omega)|exact cT|fail)
    all_goals first|(exfalso;omega)|((refine rT2 ?_);rfl)
  ·
   have hm:cZ=9223372036854775807:=rfl
   have e:j9 hi lo neg=(0,false):=by rw [j9,if_pos (by omega)]
   rw [e]
   repeat' (first|refine sT ?_|refine sM fun _=> ?_|(refine sC ?_ ?_<;>intro hb<;>try omega)|exact cT|fail)
   all_goals first|(exfalso;omega)|((refine rT2 ?_);rfl)
 ·
  have e:j9 hi lo neg=(0,false):=by rw [j9,if_pos (.inl hh)]
  rw [e]
  repeat' (first|refine sT ?_|refine sM fun _=> ?_|(refine sC ?_ ?_<;>intro hb<;>try omega)|exact cT|fail)
  all_goals first|(exfalso;omega)|((refine rT2 ?_);rfl)
theorem xy (u:Int) (neg:Bool) (h0:0≤u) (h1:u≤cZ) (w:World):aD Tryz.prog 242 [.int .u64 0,.int .u64 u,.bool neg] w (.tuple #[.int .i64 (if neg then -u else u),.bool true]):=by
 have h:=Kw 0 u neg h0 w
 rwa [j9,if_neg (by omega)] at h
theorem rD: ∀ (l:List Int) (v c:Int),bQ (l++ [c]) v=10*bQ l v+(c - 48)
 | [],_,_=>rfl
 |d::r,v,c=>by simp only [TK,bQ];exact rD r _ c
theorem mG: ∀ (l:List Int) {v:Int},(∀ c∈l,48≤c)→0≤v→v≤bQ l v
 | [],_,_,_=>Vw _
 |c::r,v,h,h0=>by
  have h1:=h c TI
  have:=mG r (v:=10*v+(c - 48)) (fun d hd=>h d (TM _ hd)) (by omega)
  simp only [bQ];omega
theorem s5 (l m:List Int) (v:Int):bQ (l++m) v=bQ m (bQ l v):=by
 induction l generalizing v with
 |nil=>rfl
 |cons c l ih=>simp only [TK,bQ,ih]
def iB (l0:List Int):Int × Int:=
 let neg:=decide (l0.head? =some 45)
 let l:=if neg then l0.tail else l0
 let n:=aG aJ l
 let rest:=l.drop n
 let frac:=decide (1<rest.length) && (decide (rest.head? =some 46) && decide (aG aJ rest.tail+1=rest.length))
 let p5:=(if frac then rest.tail else [])++ [48,48,48,48,48]
 if n=0∨(frac=false∧rest≠ []) then (0,4)
 else
  let v:=bQ (l.take n++p5.take 4) 0+(if 53≤p5.getD 4 0 then 1 else 0)
  if cZ<v then (0,3) else (if neg then -v else v,0)
theorem tr (a:ByteArray) (c:Int):((ap a).head? =some c)↔(0<a.size∧bat a 0=c):=by
 by_cases h:0<a.size
 ·
  have:=bz h
  rw [UZ] at this
  rw [this];simp [h]
 ·
  have:ap a= []:=by rw [← UW,aw];omega
  rw [this];simp;omega
set_option maxRecDepth 10000 in
theorem vL (a:ByteArray) (ha:a.size≤1000000) (w:World):aD Tryz.prog 201 [.string a] w (.tuple #[.int .i64 (iB (ap a)).1,.int .i64 (iB (ap a)).2]):=by
 refine ax Tryz.func201 rfl Tryz.ntmps201 rfl ?_
 have hl:=aw a
 generalize hneg:decide ((ap a).head? =some 45)=neg
 generalize hls:(if neg then (ap a).tail else ap a)=ls
 have hb0:=tr a 45
 repeat' (first|(refine qZ (id:=1) (ι:=Bool) (fun b=> [(0,.string a),(4,.bool b)]) (fun _=> []) (fun b=>neg=b) ?_ ?_)|refine sT ?_|refine sT2 ?_|refine sM fun _=> ?_|(refine sC ?_ ?_<;>intro hb<;>try omega)|exact cT|fail)
 ·
  (apply cO;rotate_left 1;exact sB;exact mS)
  rw [← hneg,decide_eq_decide,hb0]
  simp;omega
 ·
  (apply cO;rotate_left 1;exact sB;exact mS)
  rw [← hneg,decide_eq_false_iff_not,hb0]
  omega
 rintro _ rfl
 repeat' (first|(refine BB (id:=2) (ι:=ByteArray) (fun b=> [(0,.string b),(4,.bool neg)]) (fun _=> []) (fun b=>ap b=ls∧b.size≤a.size) ?_ ?_)|refine sT ?_|refine sT2 ?_|refine sM fun _=> ?_|(refine sC ?_ ?_<;>intro hb<;>try omega)|exact cT|fail)
 ·
  have h1:0<a.size:=(hb0.1 (of_decide_eq_true (hneg.trans hb))).1
  repeat' (first|refine sT ?_|refine sT2 ?_|refine sM fun _=> ?_|(refine sC ?_ ?_<;>intro hb<;>try omega)|exact cT|fail)
  (apply cO;rotate_left 1;exact sB;exact mS)
  rw [← hls,hb,qm,cI _ (TQ _)]
  simp
 ·
  (apply cO;rotate_left 1;exact sB;exact mS)
  rw [← hls,hb]
  simp
 rintro b ⟨hbl,hbs⟩
 have hlb:=aw b
 rw [hbl] at hlb
 have hdl:=cB aJ ls
 generalize hn:aG aJ ls=n at hdl
 generalize hrest:ls.drop n=rest
 generalize hfr:(decide (1<rest.length) && (decide (rest.head? =some 46) && decide (aG aJ rest.tail+1=rest.length)))=fr
 have hcd:=Bc b (by omega)
 rw [hbl,hn] at hcd
 have hb1:=tr (sub b n b.size) 46
 have hs1:=cI b (lo:=n) (TQ b.size)
 have hr1:ap (sub b n b.size)=rest:=by rw [qm,hbl,hrest]
 generalize hz:sub b n b.size=z at hb1 hs1 hr1
 have hrl:rest.length=z.size:=by rw [← hr1,aw]
 have e1:ap (sub z 1 z.size)=rest.tail:=by rw [qm,hr1,List.drop_one]
 rw [hr1] at hb1
 have hcd2:=fun h=>Bc (sub z 1 z.size) h
 repeat' (first|(refine qZ (id:=7) (ι:=Bool) (fun x=> [(4,.bool neg),(5,.int .i64 (n:Int)),(6,.string (sub b 0 n)),(7,.string z),(8,.string az),(50,.bool x)]) (fun _=> []) (fun x=>fr=x) ?_ ?_)|(apply aa;exact rfl;exact rfl;(intro w hm;exact hcd w))|(apply aa;exact rfl;exact rfl;(intro w hm;exact hcd2 (by rw [cI _ (TQ _)];omega) w))|(rw [hz])|refine sT ?_|refine sQ ?_|refine sT2 ?_|refine sQ2 ?_|refine sN ?_|refine sNQ ?_|refine sD ?_|refine sM fun _=> ?_|(refine sC ?_ ?_<;>intro hb<;>try omega)|(refine sCQ ?_ ?_<;>intro hb<;>try omega)|exact cT|fail)
 ·
  (apply cO;rotate_left 1;exact sB;exact mS)
  rename_i h1
  rw [e1,← hfr,decide_eq_true (by omega:1<rest.length),decide_eq_true (hb1.2 ⟨by omega,hb⟩)]
  simp only [VB,decide_eq_decide]
  omega
 ·
  (apply cO;rotate_left 1;exact sB;exact mS)
  rw [← hfr,decide_eq_false (fun h=>hb (hb1.1 h).2)]
  simp
 ·
  (apply cO;rotate_left 1;exact sB;exact mS)
  rw [← hfr,decide_eq_false (by omega)]
  rfl
 rintro _ rfl
 have hf1:fr=true→1≤z.size:=fun h=>by
  rw [← hfr] at h
  simp at h
  omega
 have hf2:fr=false→((z=az)↔rest= []):=fun _=>by rw [← NR,hr1]
 have hbl2:b.size≤1000000:=by omega
 refine q9 (ι:=ByteArray × ByteArray) (fun x=> [(4,.bool neg),(5,.int .i64 (n:Int)),(6,.string (sub b 0 n)),(7,.string x.1),(8,.string x.2)]) (fun _=> []) (fun x=>ap x.2=(if fr then rest.tail else [])∧((x.1=az)↔(fr=true∨rest= []))∧x.2.size≤a.size) ?_ ?_
 ·
  cases fr
  ·
   repeat' (first|refine sT ?_|refine sT2 ?_|refine sM fun _=> ?_|(refine sC ?_ ?_<;>intro hb<;>try omega)|exact cT|fail)
   refine cO ((z,az)) ?_ sB mS
   exact ⟨rfl,by rw [hf2 rfl];simp,TW _⟩
  ·
   have h1:=hf1 rfl
   repeat' (first|refine sT ?_|refine sT2 ?_|refine sM fun _=> ?_|(refine sC ?_ ?_<;>intro hb<;>try omega)|exact cT|fail)
   refine cO ((az,sub z 1 z.size)) ?_ sB mS
   exact ⟨by rw [e1];rfl,by simp [az],by rw [cI _ (TQ _)];omega⟩
 rintro ⟨z',pl⟩ ⟨h1,h2,h3⟩
 dsimp only at*
 generalize hp5:(if fr then rest.tail else [])++ [48,48,48,48,48]=p5
 have hpl:ap (pl++⟨#[48,48,48,48,48]⟩)=p5:=by rw [iG,h1,← hp5];rfl
 have hpz:(pl++⟨#[48,48,48,48,48]⟩:ByteArray).size=pl.size+5:=by rw [VN];rfl
 generalize hqd:(pl++⟨#[48,48,48,48,48]⟩:ByteArray)=q at hpl hpz
 have hres:iB (ap a)=if n=0∨(fr=false∧rest≠ []) then (0,4) else if cZ<bQ (ls.take n++p5.take 4) 0+(if 53≤p5.getD 4 0 then 1 else 0) then (0,3) else (if neg then -(bQ (ls.take n++p5.take 4) 0+(if 53≤p5.getD 4 0 then 1 else 0)) else bQ (ls.take n++p5.take 4) 0+(if 53≤p5.getD 4 0 then 1 else 0),0):=by
  unfold iB
  rw [hneg]
  dsimp only
  rw [hls,hn,hrest,hfr,hp5]
 rw [hres]
 by_cases herr:n=0∨(fr=false∧rest≠ [])
 ·
  rw [if_pos herr]
  repeat' (first|refine sT ?_|refine sT2 ?_|refine sM fun _=> ?_|(refine sC ?_ ?_<;>intro hb<;>try omega)|exact cT|fail)
  ·
   (refine rT2 ?_)
   rfl
  ·
   (refine rT2 ?_)
   rfl
  ·
   exfalso
   have hz' :z' =az:=Decidable.not_not.1 hb
   have:=h2.1 hz'
   rcases herr with h|⟨h,h'⟩
   ·
    omega
   ·
    rcases this with h4|h4
    ·
     rw [h] at h4;cases h4
    ·
     exact h' h4
 ·
  rw [if_neg herr]
  generalize hL:ls.take n++p5.take 4=L
  have hp5l:p5.length=pl.size+5:=by rw [← hpl,aw,hpz]
  have hy:ap (sub b 0 n++sub q 0 4)=L:=by rw [iG,wF,wF,hbl,hpl,hL]
  have hyz:(sub b 0 n++sub q 0 4:ByteArray).size=n+4:=by rw [VN,cI _ (by omega),cI _ (by omega)];omega
  generalize hyd:(sub b 0 n++sub q 0 4:ByteArray)=y at hy hyz
  have hyl:L.length=y.size:=by rw [← hy,aw]
  have hdig: ∀ c∈L,48≤c∧c≤57:=by
   have hall: ∀ (l:List Int) (c:Int),c∈l.take (aG aJ l)→48≤c∧c≤57:=fun l c hc=>by
    obtain ⟨j,hj,rfl⟩:=UY hc
    simp only [Ue] at hj
    have h:=kN (p:=aJ) l j (l[j]'(by omega)) (by omega) (TJ _)
    simp only [List.getElem_take]
    simpa [aJ] using h
   intro c hc
   rw [← hL] at hc
   rcases Ub.1 hc with hc|hc
   ·
    rw [← hn] at hc;exact hall ls c hc
   ·
    have hc:=U1 hc
    rw [← hp5] at hc
    rcases Ub.1 hc with hc|hc
    ·
     cases hc1:fr
     ·
      rw [hc1] at hc;cases hc
     ·
      rw [hc1] at hc
      simp only [if_true] at hc
      have h7:aG aJ rest.tail=rest.tail.length:=by
       rw [hc1] at hfr
       simp only [TU,decide_eq_true_eq] at hfr
       rw [Wo];omega
      have:=hall rest.tail c (by rw [h7,Ux];exact hc)
      exact this
    ·
     simp at hc;omega
  have hq4:bat q 4=p5.getD 4 0:=by rw [bat,hpl]
  have hm0:cZ=9223372036854775807:=rfl
  repeat' (first|(apply ak (d:=60);exact rfl;apply kB;exact rfl;exact rfl;exact hqd;(show pl.size+5≤_;omega))|(apply ak (d:=64);exact rfl;apply kB;exact rfl;exact rfl;exact hyd;(rw [cI _ (by omega),cI _ (by omega)];omega))|(apply mW;exact rfl;exact rfl;intro gb cap)|refine sT ?_|refine sT2 ?_|refine sM fun _=> ?_|(refine sC ?_ ?_<;>intro hb<;>try omega)|exact cT|fail)
  ·
   exfalso
   refine herr (.inr ?_)
   have h4: ¬ (fr=true∨rest= []):=fun h=>hb (h2.2 h)
   cases hc:fr
   ·
    exact ⟨rfl,fun h=>h4 (.inr h)⟩
   ·
    exact absurd (.inl hc) h4
  have hup: ∀ i,i≤L.length→cZ<bQ (L.take i) 0→cZ<bQ L 0:=fun i hi h=>by
   have e:L=L.take i++L.drop i:=(UF i L).symm
   rw [e,s5]
   have h0:0≤bQ (L.take i) 0:=mG _ (fun c hc=>(hdig c (U1 hc)).1) (Vw _)
   have:=mG (L.drop i) (v:=bQ (L.take i) 0) (fun c hc=>(hdig c (VF hc)).1) h0
   omega
  refine ay [4,8,65,66] rfl (fun x:Nat × Int × Bool=> [(9,.int .u64 x.2.1),(10,.bool x.2.2),(67,.int .i64 (x.1:Int))]) (fun _=> [.byt gb 5 y.size cap (pT y)]) (fun x=>x.1≤L.length∧0≤x.2.1∧x.2.1<18446744073709551616∧(x.2.2=false→x.2.1=bQ (L.take x.1) 0∧x.2.1≤cZ)∧(x.2.2=true→cZ<bQ (L.take x.1) 0)) (fun x=>L.length - x.1) (0,0,false) ⟨TW _,Vw _,by decide,fun _=>⟨rfl,by decide⟩,fun h=>by cases h⟩ sB mS ?_
  rintro ⟨i,v,gr⟩ ⟨hi,hv0,hv1,hg0,hg1⟩
  dsimp only at hi hv0 hv1 hg0 hg1 ⊢
  by_cases hlt:i<L.length
  ·
   have hiy:i<y.size:=by omega
   have hge:L[i]? =some L[i]:=TJ hlt
   have hci:=hdig L[i] (UA hlt)
   have hsn:bQ (L.take (i+1)) 0=10*bQ (L.take i) 0+(L[i] - 48):=by rw [TP hlt,rD]
   generalize L[i]=c at hge hci hsn
   have hget:(pT y)[0+i*1]? =some (.int .u8 c):=by rw [qt,hy,Uq,show 0+i*1=i by omega,hge];rfl
   have hwc:IntKind.u8.wrap (c - 48)=c - 48:=wrap_u8 (by omega) (by omega)
   have hwc2:IntKind.u64.wrap (c - 48)=c - 48:=by simp [IntKind.wrap,IntKind.bits,IntKind.signed];omega
   obtain ⟨v',hadd,hv2,hv3,hv4⟩: ∃ v',IntKind.u64.wrap (IntKind.u64.wrap (10*v)+(c - 48))=v' ∧0≤v' ∧v' <18446744073709551616∧(v≤922337203685477580→v' =10*v+(c - 48)):=by
    refine ⟨_,rfl,?_⟩
    simp only [IntKind.wrap,IntKind.bits,IntKind.signed]
    simp
    omega
   have hn0:0≤bQ (L.take i) 0:=mG _ (fun c hc=>(hdig c (U1 hc)).1) (Vw _)
   cases gr
   ·
    obtain ⟨hg2,hg3⟩:=hg0 rfl
    repeat' (first|(apply ak;exact rfl;apply aj;exact rfl;exact rfl;exact hiy)|(apply ak;exact rfl;apply kL;exact rfl;exact .hd;exact hget)|(apply ak (d:=74);exact rfl;apply Gj;exact rfl;exact rfl)|(apply ak (d:=76);exact rfl;apply d9;exact rfl;exact rfl;exact hwc)|(apply ak (d:=77);exact rfl;apply bB;exact rfl;exact hwc2)|(apply ak (d:=78);exact rfl;apply eY;exact rfl;exact rfl;exact hadd)|refine sT ?_|refine sT2 ?_|refine sN ?_|refine sM fun _=> ?_|(refine sC ?_ ?_<;>intro hb<;>try omega)|exact cT|fail)
    ·
     refine ⟨(i+1,v',true),?_,(by first|omega|(dsimp only;omega)),sB,sB,mS⟩
     exact ⟨hlt,hv2,hv3,(fun h=>by cases h),fun _=>by dsimp only;omega⟩
    ·
     have h5:=hv4 (by omega)
     refine ⟨(i+1,v',decide (cZ<v')),⟨hlt,hv2,hv3,fun h=> ?_,fun h=> ?_⟩,(by dsimp only;omega),sB,sB,mS⟩
     ·
      have h6:=of_decide_eq_false h
      exact ⟨by dsimp only;omega,by dsimp only;omega⟩
     ·
      have h6:=of_decide_eq_true h
      dsimp only;omega
   ·
    have hg2:=hg1 rfl
    repeat' (first|(apply ak;exact rfl;apply aj;exact rfl;exact rfl;exact hiy)|(apply ak;exact rfl;apply kL;exact rfl;exact .hd;exact hget)|(apply ak (d:=74);exact rfl;apply Gj;exact rfl;exact rfl)|(apply ak (d:=76);exact rfl;apply d9;exact rfl;exact rfl;exact hwc)|(apply ak (d:=77);exact rfl;apply bB;exact rfl;exact hwc2)|(apply ak (d:=78);exact rfl;apply eY;exact rfl;exact rfl;exact hadd)|refine sT ?_|refine sT2 ?_|refine sN ?_|refine sM fun _=> ?_|(refine sC ?_ ?_<;>intro hb<;>try omega)|exact cT|fail)
    all_goals
     refine ⟨(i+1,v',true),?_,(by first|omega|(dsimp only;omega)),sB,sB,mS⟩
     exact ⟨hlt,hv2,hv3,(fun h=>by cases h),fun _=>by dsimp only;omega⟩
  ·
   have e:i=L.length:=by omega
   subst e
   rw [UE (TQ _)] at hg0 hg1
   generalize bQ L 0=N at hg0 hg1 hup ⊢
   have hadd:v≤cZ→IntKind.u64.wrap (v+1)=v+1:=fun h=>by simp [IntKind.wrap,IntKind.bits,IntKind.signed];omega
   by_cases h5:53≤p5.getD 4 0
   ·
    rw [if_pos h5]
    cases gr
    ·
     obtain ⟨hg2,hg3⟩:=hg0 rfl
     subst hg2
     by_cases h6:cZ<v+1
     ·
      rw [if_pos h6]
      repeat' (first|(apply ak (d:=89);exact rfl;apply eY;exact rfl;exact rfl;exact hadd hg3)|refine sT ?_|refine sT2 ?_|refine sM fun _=> ?_|(refine sC ?_ ?_<;>intro hb<;>try omega)|exact cT|fail)
      all_goals first|(exfalso;omega)|((refine rT2 ?_);rfl)
     ·
      rw [if_neg h6]
      repeat' (first|(apply ak (d:=89);exact rfl;apply eY;exact rfl;exact rfl;exact hadd hg3)|(apply aa;exact rfl;exact rfl;(intro w' hm;exact (xy (v+1) neg (by omega) (by omega) w')))|refine sT ?_|refine sT2 ?_|refine sM fun _=> ?_|(refine sC ?_ ?_<;>intro hb<;>try omega)|exact cT|fail)
      all_goals first|(exfalso;omega)|((refine rT2 ?_);rfl)
    ·
     rw [if_pos (by have:=hg1 rfl;omega)]
     obtain ⟨u,hu⟩: ∃ u,IntKind.u64.wrap (v+1)=u:=⟨_,rfl⟩
     repeat' (first|(apply ak (d:=89);exact rfl;apply eY;exact rfl;exact rfl;exact hu)|refine sT ?_|refine sT2 ?_|refine sM fun _=> ?_|(refine sC ?_ ?_<;>intro hb<;>try omega)|exact cT|fail)
     all_goals first|(exfalso;omega)|((refine rT2 ?_);rfl)
   ·
    rw [if_neg h5,Int.add_zero]
    cases gr
    ·
     obtain ⟨hg2,hg3⟩:=hg0 rfl
     subst hg2
     rw [if_neg (by omega)]
     repeat' (first|(apply aa;exact rfl;exact rfl;(intro w' hm;exact (xy v neg (by omega) hg3 w')))|refine sT ?_|refine sT2 ?_|refine sM fun _=> ?_|(refine sC ?_ ?_<;>intro hb<;>try omega)|exact cT|fail)
     all_goals first|(exfalso;omega)|((refine rT2 ?_);rfl)
    ·
     rw [if_pos (hg1 rfl)]
     repeat' (first|refine sT ?_|refine sT2 ?_|refine sM fun _=> ?_|(refine sC ?_ ?_<;>intro hb<;>try omega)|exact cT|fail)
     all_goals first|(exfalso;omega)|((refine rT2 ?_);rfl)
end Go.SL
namespace Go.SL
open Go Go.Proofs
attribute [local irreducible] W WL WQ WG VOp thn blk ba FnAt FnIn
set_option maxRecDepth 10000 in
theorem iJ (c r:Int) (w:World):aD Tryz.prog 64 [.agg #[.int .i64 c,.int .i64 r]] w (.bool (valid c r)):=by
 refine ax Tryz.func64 rfl Tryz.ntmps64 rfl ?_
 repeat' (first|refine sT ?_|refine sM fun _=> ?_|(refine sC ?_ ?_<;>intro hb<;>try omega)|fail)
 all_goals ((refine rT1 ?_);((try simp only [← Int.not_lt] at*);simp_all [valid, -Int.not_lt, -Int.not_le,← Int.not_lt]))
set_option maxRecDepth 10000 in
theorem IB (r:Rct) (w:World):aD Tryz.prog 142 [.agg (aN r).toArray] w (.tuple #[.agg #[.int .i64 r.c1,.int .i64 r.r1],.agg #[.int .i64 r.c2,.int .i64 r.r2]]):=by
 refine ax Tryz.func142 rfl Tryz.ntmps142 rfl ?_
 repeat' (first|refine sT ?_|refine sM fun _=> ?_|(refine sC ?_ ?_<;>intro hb<;>try omega)|fail)
 rename_i g1 g2 g3
 refine wA (fun D=> [.box g2 51 [.int .i64 (bif D 10 then r.c1 else 0),.int .i64 (bif D 10 then r.r1 else 0)],.box g3 51 [.int .i64 (bif D 11 then r.c2 else 0),.int .i64 (bif D 11 then r.r2 else 0)],.box g1 33 (aN r)]) (by kernel_rfl) (by kernel_rfl) (.pick (.tl .hd) (.pick .hd (.refl _))) ?_
 repeat' (first|refine sT ?_|refine sG ?_|refine sM fun _=> ?_|(refine sC ?_ ?_<;>intro hb<;>try omega)|fail)
 refine Gc _ _ rfl rfl (fun D=> .tl .hd) rfl rfl rfl (fun _=>TQ _) (fun D ht=> .pick (.tl .hd) (.pick .hd (.refl _))) ?_
 refine Bz fun D hD=> ?_
 have h10:=hD 10 (by decide)
 have h11:=hD 11 (by decide)
 simp only [h10,h11,cond_true]
 repeat' (first|refine sT ?_|refine sM fun _=> ?_|(refine sC ?_ ?_<;>intro hb<;>try omega)|fail)
 refine SV (.inl rfl) Tryz.results142 rfl .hd rfl rfl (.tl .hd) rfl (MSub.nil _) ?_
 rfl
set_option maxRecDepth 10000 in
theorem ko (r:Rct) (w:World):aD Tryz.prog 94 [.agg (aN r).toArray] w (.int .i64 (dY r)):=by
 refine ax Tryz.func94 rfl Tryz.ntmps94 rfl ?_
 repeat' (first|(apply aa;exact rfl;exact rfl;(intro w hm;exact IB r w))|(apply aa;exact rfl;exact rfl;(intro w hm;exact iJ r.c1 r.r1 w))|(apply aa;exact rfl;exact rfl;(intro w hm;exact iJ r.c2 r.r2 w))|refine sT ?_|refine sM fun _=> ?_|(refine sC ?_ ?_<;>intro hb<;>try omega)|fail)
 all_goals ((refine rT1 ?_);((try simp only [← Int.not_lt] at*);simp_all [dY,aH, -Int.not_lt, -Int.not_le,← Int.not_lt]))
set_option maxRecDepth 10000 in
theorem NL (fn:Int) (w:World):aD Tryz.prog 347 [.int .u8 fn] w (.bool (cU fn)):=by
 refine ax Tryz.func347 rfl Tryz.ntmps347 rfl ?_
 repeat' (first|refine sT ?_|refine sM fun _=> ?_|(refine sC ?_ ?_<;>intro hb<;>try omega)|fail)
 all_goals ((refine rT1 ?_);((try simp only [← Int.not_lt] at*);simp_all [cU, -Int.not_lt, -Int.not_le,← Int.not_lt]))
set_option maxRecDepth 10000 in
theorem u6 (fn:Int) (w:World):aD Tryz.prog 329 [.int .u8 fn] w (.bool (jk fn)):=by
 refine ax Tryz.func329 rfl Tryz.ntmps329 rfl ?_
 repeat' (first|refine sT ?_|refine sM fun _=> ?_|(refine sC ?_ ?_<;>intro hb<;>try omega)|fail)
 all_goals ((refine rT1 ?_);((try simp only [← Int.not_lt] at*);simp_all [jk, -Int.not_lt, -Int.not_le,← Int.not_lt]))
set_option maxRecDepth 10000 in
theorem Ot (n:Nd) (w:World):aD Tryz.prog 308 [.agg (bR n).toArray] w (.int .i64 (below n)):=by
 refine ax Tryz.func308 rfl Tryz.ntmps308 rfl ?_
 repeat' (first|refine sT ?_|refine sM fun _=> ?_|(refine sC ?_ ?_<;>intro hb<;>try omega)|fail)
 all_goals ((refine rT1 ?_);simp_all [below])
set_option maxRecDepth 10000 in
theorem yT (fn:Int) (w:World):aD Tryz.prog 327 [.int .u8 fn] w (.tuple #[.int .i64 (fp fn).1,.int .i64 (fp fn).2.1,.int .i64 (fp fn).2.2]):=by
 refine ax Tryz.func327 rfl Tryz.ntmps327 rfl ?_
 repeat' (first|(apply aa;exact rfl;exact rfl;(intro w hm;exact NL fn w))|refine sT ?_|refine sM fun _=> ?_|(refine sC ?_ ?_<;>intro hb<;>try omega)|fail)
 all_goals ((refine rT3 ?_);simp_all [fp])
set_option maxRecDepth 10000 in
theorem I0 (fn i:Int) (w:World):aD Tryz.prog 328 [.int .u8 fn,.int .i64 i] w (.tuple #[.bool (kJ fn i).1,.int .i64 (kJ fn i).2]):=by
 refine ax Tryz.func328 rfl Tryz.ntmps328 rfl ?_
 repeat' (first|(apply aa;exact rfl;exact rfl;(intro w hm;exact yT fn w))|(apply aa;exact rfl;exact rfl;(intro w hm;exact u6 fn w))|refine sT ?_|refine sM fun _=> ?_|(refine sC ?_ ?_<;>intro hb<;>try omega)|fail)
 all_goals ((refine rT2 ?_);((try simp only [← Int.not_lt] at*);simp_all [kJ, -Int.not_lt, -Int.not_le,← Int.not_lt]))
set_option maxHeartbeats 1000000 in
theorem AW (n:Nd) (w:World):aD Tryz.prog 307 [.agg (bR n).toArray] w (.int .i64 (bE n)):=by
 refine ax Tryz.func307 rfl Tryz.ntmps307 rfl ?_
 repeat' (first|(apply aa;exact rfl;exact rfl;(intro w hm;exact Ge n.v w))|(apply aa;exact rfl;exact rfl;(intro w hm;exact ko n.rect w))|(apply aa;exact rfl;exact rfl;(intro w hm;exact yT n.fn w))|(apply rX (T:=174) (fun D=> [.int .u8 n.kind,.int .u8 0,.int .i64 0,.string az,.int .i64 0,.int .i64 0,.int .i64 0,.int .i64 0,.int .i64 0,.int .u8 (bif D 5 then n.fn else 0),.int .i64 (bif D 7 then n.n else 0)]) (xs' := [.int .u8 n.kind,.int .u8 0,.int .i64 0,.string az,.int .i64 0,.int .i64 0,.int .i64 0,.int .i64 0,.int .i64 0,.int .u8 n.fn,.int .i64 n.n]);kernel_rfl;kernel_rfl;(first|exact .hd|exact .tl .hd);exact rfl;(intro D hD;simp only [hD 5 (by decide),hD 7 (by decide),cond_true]))|(apply ak;exact rfl;(first|(apply w5 (b:=⟨n.kind,n.v,aS,0,0,0⟩);exact rfl;exact rfl)|(apply w5 (b:=⟨n.kind,bV,n.rect,0,0,0⟩);exact rfl;exact rfl)|(apply w5 (b:=⟨n.kind,bV,aS,0,0,0⟩);exact rfl;exact rfl)|(apply w5 (b:=⟨n.kind,bV,aS,n.op,0,0⟩);exact rfl;exact rfl)|(apply w5 (b:=⟨n.kind,bV,aS,0,n.fn,n.n⟩);exact rfl;exact rfl)))|refine sT ?_|refine sG ?_|refine sM fun _=> ?_|(refine sC ?_ ?_<;>intro hb<;>try omega)|fail)
 all_goals ((refine rT1 ?_);((try simp only [← Int.not_lt] at*);simp_all [bE,fD,db,JE,Nq, -Int.not_lt, -Int.not_le,← Int.not_lt]))
end Go.SL
namespace Go.SL
open Go Go.Proofs
attribute [local irreducible] W WL WQ WG WA VOp thn blk ba FnAt FnIn
theorem jp {L:List Nd} {i:Nat} (h:i<L.length):jq L i=L[i].kind:=by simp [jq,h]
set_option maxHeartbeats 1000000 in
theorem P3 (L:List Nd) (n:Nd) (ps:List Pt) (tv lv:Value) (w:World) (ht:Reads w tv L.length (L.flatMap bR)) (hp:Reads w lv ps.length (ps.flatMap uL)) (hroot: ∀ p∈ps,p.root<L.length) (hlen:ps.length≤1000000):
  aD Tryz.prog 309 [tv,.agg (bR n).toArray,lv] w (.bool (eC L n 0 ps)):=by
 obtain ⟨At,ct,rfl,ht1,ht2,ht3⟩:=ht
 obtain ⟨Al,cl,rfl,hl1,hl2,hl3⟩:=hp
 refine ax Tryz.func309 rfl Tryz.ntmps309 rfl ?_
 repeat' (first|refine sT ?_|refine sM fun _=> ?_|(refine sC ?_ ?_<;>intro hb<;>try omega)|fail)
 rename_i gn
 refine jf (fun i:Nat=> [(0,.slice At L.length ct),(4,.pointer (some ⟨gn,0,none⟩)),(11,.slice Al ps.length cl),(12,.int .i64 (ps.length:Int)),(13,.int .i64 (i:Int))])
  (fun i=> [.box gn 174 (bR n)]) (fun i=>i≤ps.length∧eC L n 0 ps=eC L n (i:Int) (ps.drop i)) (fun i=>ps.length - i) 0 ⟨by omega,rfl⟩ ?_ ?_ ?_
 ·
  exact sB
 ·
  exact mS
 ·
  rintro i ⟨hi,hrec⟩
  by_cases hlt:i<ps.length
  ·
   obtain ⟨g,o,rfl,hro⟩:=hl3 (by omega)
   have hrp:=hro.elem pQ i hlt
   have hr0:=hroot ps[i] (UA hlt)
   obtain ⟨gt,ot,rfl,hrt⟩:=ht3 (by omega)
   have hrn:=hrt.elem dF ps[i].root hr0
   rw [TN hlt,eC,uJ,jp hr0] at hrec
   repeat' (first|(apply ak;exact rfl;apply aj;exact rfl;exact rfl;first|exact hlt|exact hr0)|(apply ak;exact rfl;apply aP;exact rfl;exact hrp;exact rfl)|(apply ak;exact rfl;apply eH;exact rfl;exact hrn;exact rfl)|(apply ak;exact rfl;apply mh;exact rfl;exact rfl;(constructor<;>omega))|(apply aa;exact rfl;exact rfl;(intro w hm;exact I0 n.fn (i:Int) w))|(apply aa;exact rfl;exact rfl;(intro w hm;exact u6 n.fn w))|refine sT ?_|refine sM fun _=> ?_|(refine sC ?_ ?_<;>intro hb<;>try omega)|fail)
   all_goals first
    |((refine rT1 ?_);rw [hrec];simp_all [EO];done)
    |(refine ⟨i+1,⟨by omega,?_⟩,by omega,?_,?_⟩;(focus (rw [hrec,Int.natCast_add];simp [EO, *]));(focus exact sB);(focus exact mS))
  ·
   have e:i=ps.length:=by omega
   subst e
   rw [UB,eC] at hrec
   repeat' (first|refine sT ?_|refine sM fun _=> ?_|(refine sC ?_ ?_<;>intro hb<;>try omega)|fail)
   (refine rT1 ?_)
   rw [hrec]
end Go.SL
