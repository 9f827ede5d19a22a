/-
  Lemmas and walks, put together: W2 A1 W1 W3 W4.
-/
import Derived.Test.YtlnecnbfmnfigaaGreatDoorKu09
set_option linter.unusedSimpArgs false
set_option linter.unusedVariables false
set_option maxRecDepth 20000
namespace Go.SL
open Go Go.Proofs
attribute [local irreducible] W WL WQ WG VOp thn blk bA FnAt FnIn
theorem oR (b:ByteArray):og b=(ap b).map (Value.int .u8):=by simp [og,ap]
theorem uP {α β:Type} (f:α→α) (E:α→β) (xs:List α) (i:Nat) (h:i<xs.length):(((xs.take i).map f++xs.drop i).map E).set i (E (f xs[i]))=((xs.take (i+1)).map f++xs.drop (i+1)).map E:=by
 rw [← List.map_set,List.set_append_right _ _ (by simp;omega)]
 have e1:xs.drop i=xs[i]::xs.drop (i+1):=Pf h
 have e2:xs.take (i+1)=xs.take i++ [xs[i]]:=Po h
 have e3:i - ((xs.take i).map f).length=0:=by simp;omega
 rw [e3,e1,e2]
 simp only [List.set_cons_zero,P4,PB,P3,Pg,O3,O4]
set_option maxRecDepth 10000 in
theorem E8 (f:FuncId) [Callable Tryz.prog f] (g:Int→Int) (hf: ∀ c w,aF Tryz.prog f [.int .u8 c] w (.int .u8 (g c))) (a:ByteArray) (ha:a.size≤1000000) (w:World):
  FnAt Tryz.prog 233 [.string a,.func (.func f) #[] #[]] w fun v H=> ∃ gb cap,v= .slice (some ⟨gb,0,none⟩) a.size cap∧H= [.byt gb 5 a.size cap (((ap a).map g).map (Value.int .u8))]:=by
 refine aA Tryz.func233 rfl Tryz.ntmps233 rfl ?_
 repeat' (first|(apply mo;exact rfl;exact rfl;intro gb cap)|refine sT ?_|refine sM fun _=> ?_|(refine sC ?_ ?_<;>intro hb<;>try omega)|fail)
 refine eH (fun i:Nat=> [(5,.slice (some ⟨gb,0,none⟩) a.size cap),(10,.slice (some ⟨gb,0,none⟩) a.size cap),(11,.int .i64 (a.size:Int)),(12,.int .i64 (i:Int)),(1,.func (.func f) #[] #[])])
  (fun i=> [.byt gb 5 a.size cap ((((ap a).take i).map g++(ap a).drop i).map (Value.int .u8))]) (fun i=>i≤a.size) (fun i=>a.size - i) 0 (by omega) ?_ ?_ ?_
 ·
  exact sB
 ·
  rw [oR];simp only [Qj,P3,O4,Qt];exact mS
 ·
  intro i hi
  have hl:=au a
  by_cases hlt:i<a.size
  ·
   have hil:i<(ap a).length:=by omega
   have hget:((((ap a).take i).map g++(ap a).drop i).map (Value.int .u8))[0+i*1]? =some (.int .u8 (ap a)[i]):=by
    rw [Pw,show 0+i*1=i by omega,PQ (by simp;omega)]
    simp [QX (Nat.le_of_lt hil),Qi]
   repeat' (first|(apply aj;exact rfl;apply ag;exact rfl;exact rfl;exact hlt)|(apply aj;exact rfl;apply ko;exact rfl;exact .hd;exact hget)|(apply iP;exact rfl;exact rfl;infer_instance;exact rfl;(intro w hm;exact hf _ w))|(apply mq;exact rfl;exact rfl;exact .hd;exact rfl;(simp;omega))|(apply aj;exact rfl;apply kZ;exact rfl;exact rfl;(constructor<;>omega))|refine sT ?_|refine sM fun _=> ?_|(refine sC ?_ ?_<;>intro hb<;>try omega)|fail)
   refine ⟨i+1,by omega,by omega,?_,?_⟩
   ·
    exact sB
   ·
    rw [show 0+i*1=i by omega,uP g (Value.int .u8) (ap a) i hil]
    exact mS
  ·
   have e:i=a.size:=by omega
   subst e
   repeat' (first|refine sT ?_|refine sM fun _=> ?_|(refine sC ?_ ?_<;>intro hb<;>try omega)|fail)
   refine bK (.inl rfl) Tryz.results233 rfl (.refl _) ⟨gb,cap,rfl,?_⟩
   rw [PM (by omega),PA (by omega),Pa]
def kH (c:Int):Int:=if c<32∨126<c then 0 else 32
set_option maxRecDepth 10000 in
theorem LU (c:Int) (w:World):aF Tryz.prog 234 [.int .u8 c] w (.int .u8 (kH c)):=by
 refine aA Tryz.func234 rfl Tryz.ntmps234 rfl ?_
 repeat' (first|refine sT ?_|refine sM fun _=> ?_|(refine sC ?_ ?_<;>intro hb<;>try omega)|fail)
 all_goals ((refine rT1 ?_);((try simp only [← Int.not_lt] at*);simp_all [kH, -Int.not_lt, -Int.not_le]))
set_option maxRecDepth 10000 in
theorem HY (c:Int) (w:World):aF Tryz.prog 235 [.int .i32 c] w (.bool (decide (c=0))):=by
 refine aA Tryz.func235 rfl Tryz.ntmps235 rfl ?_
 repeat' (first|refine sT ?_|refine sM fun _=> ?_|(refine sC ?_ ?_<;>intro hb<;>try omega)|fail)
 all_goals ((refine rT1 ?_);rfl)
def jU (q:Int→Bool) (l:List Int):Int:=match l.findIdx? q with
 |some i=>(i:Int)
 |none=> -1
theorem CS {q:Int→Bool} {l:List Int} {i:Nat} (h:i<l.length) (hq:q l[i]=true) (hno: ∀ j (h:j<l.length),j<i→q l[j]=false):jU q l=(i:Int):=by
 have:l.findIdx? q=some i:=by
  rw [P8]
  exact ⟨h,hq,fun j hj=>by simpa using hno j (by omega) hj⟩
 simp [jU,this]
theorem zX {q:Int→Bool} {l:List Int} (hno: ∀ j (h:j<l.length),q l[j]=false):jU q l= -1:=by
 have:l.findIdx? q=none:=by
  rw [Qg]
  intro x hx
  obtain ⟨j,hj,rfl⟩:=P1 hx
  exact hno j hj
 simp [jU,this]
set_option maxRecDepth 10000 in
theorem zT (f:FuncId) [Callable Tryz.prog f] (q:Int→Bool) (hf: ∀ c w,aF Tryz.prog f [.int .i32 c] w (.bool (q c))) (a:ByteArray) (ha:a.size≤1000000) (hasc: ∀ i (h:i<a.size),(a[i]'h).toNat<128) (w:World):
  aF Tryz.prog 273 [.string a,.func (.func f) #[] #[],.bool true] w (.int .i64 (jU q (ap a))):=by
 refine aA Tryz.func273 rfl Tryz.ntmps273 rfl ?_
 have hl:=au a
 repeat' (first|(apply za;exact rfl;exact rfl;intro gi)|refine sT ?_|refine sM fun _=> ?_|(refine sC ?_ ?_<;>intro hb<;>try omega)|fail)
 refine eH (fun i:Nat=> [(0,.string a),(1,.func (.func f) #[] #[]),(2,.bool true),(10,.pointer (some ⟨gi,0,none⟩))])
  (fun i=> [.obj gi (.stringIter a i)]) (fun i=>i≤a.size∧ ∀ j (h:j<(ap a).length),j<i→q (ap a)[j]=false) (fun i=>a.size - i) 0 ⟨by omega,fun j _ h=>by omega⟩ ?_ ?_ ?_
 ·
  exact sB
 ·
  exact mS
 ·
  rintro i ⟨hi,hno⟩
  repeat' (first|(apply AQ;exact rfl;exact rfl;exact .hd;exact hasc i;all_goals intro hb)|(apply iP;exact rfl;exact rfl;infer_instance;exact rfl;(intro w hm;exact hf _ w))|refine sT ?_|refine sM fun _=> ?_|(refine sC ?_ ?_<;>intro hb<;>try omega)|fail)
  all_goals (try simp only [beq_true] at*)
  ·
   rename_i hlt
   have hq:=hb
   refine bK (.inl rfl) Tryz.results273 rfl (MSub.nil _) ?_
   have h1:=qL a i hlt
   rw [CS (i:=i) (by omega) (by rw [h1];exact hq) hno]
  ·
   rename_i hlt
   have hq:=hb
   refine ⟨i+1,⟨by omega,fun j hj hji=> ?_⟩,by omega,?_,?_⟩
   ·
    by_cases e:j=i
    ·
     subst e
     rw [qL a j hlt];exact hq
    ·
     exact hno j hj (by omega)
   ·
    exact sB
   ·
    exact mS
  ·
   have hge:=hb
   refine bK (.inl rfl) Tryz.results273 rfl (MSub.nil _) ?_
   rw [zX fun j hj=>hno j hj (by omega)]
set_option maxRecDepth 10000 in
theorem Ay (f:FuncId) [Callable Tryz.prog f] (q:Int→Bool) (hf: ∀ c w,aF Tryz.prog f [.int .i32 c] w (.bool (q c))) (a:ByteArray) (ha:a.size≤1000000) (hasc: ∀ i (h:i<a.size),(a[i]'h).toNat<128) (w:World):
  aF Tryz.prog 232 [.string a,.func (.func f) #[] #[]] w (.int .i64 (jU q (ap a))):=by
 refine aA Tryz.func232 rfl Tryz.ntmps232 rfl ?_
 repeat' (first|(apply aa;exact rfl;exact rfl;(intro w hm;exact zT f q hf a ha hasc w))|refine sT ?_|refine sM fun _=> ?_|(refine sC ?_ ?_<;>intro hb<;>try omega)|fail)
 all_goals ((refine rT1 ?_);rfl)
def kG (a:ByteArray):ByteArray:=⟨(((ap a).map kH).map fun n=>UInt8.ofNat n.toNat).toArray⟩
theorem nV (a:ByteArray):(kG a).size=a.size:=by
 have:(kG a).size=((ap a).map kH).length:=by simp [kG,ByteArray.size]
 rw [this];simp [au]
theorem s6 (a:ByteArray):ap (kG a)=(ap a).map kH:=by
 simp only [ap,kG,QQ]
 congr 1
 funext c
 simp only [Function.comp,kH]
 split<;>simp
theorem CR (q:Int→Bool) (l:List Int):decide (jU q l<0)=l.all fun c=> !q c:=by
 unfold jU
 cases h:l.findIdx? q with
 |none=>
  rw [Qg] at h
  rw [PN]
  simpa using h
 |some i=>
  rw [P8] at h
  obtain ⟨h1,h2,_⟩:=h
  rw [PN]
  simp only [decide_eq_true_eq,Qo]
  constructor
  ·
   intro h;omega
  ·
   intro h
   have:=h _ (PG h1)
   rw [h2] at this
   cases this
theorem Cd (a:ByteArray):decide (jU (fun c=>decide (c=0)) (ap (kG a))<0)=nO a:=by
 rw [CR,s6]
 simp only [ap,List.all_map,nO]
 congr 1
 funext c
 have e:(decide (kH (c.toNat:Int)=0))= !(decide (32≤c.toNat) && decide (c.toNat≤126)):=by
  rw [PN]
  by_cases h:(c.toNat:Int)<32∨126<(c.toNat:Int)
  ·
   simp only [kH,if_pos h];simp;omega
  ·
   simp only [kH,if_neg h];simp;omega
 simp only [Function.comp,e,Bool.not_not]
theorem zP (a:ByteArray): ∀ i (h:i<(kG a).size),((kG a)[i]'h).toNat<128:=by
 intro i h
 have h1:=qL (kG a) i h
 have h2:((kG a)[i].toNat:Int)=kH ((ap a)[i]'(by rw [au,← nV];exact h)):=by
  rw [← h1]
  simp [s6]
 have h3: ∀ x,kH x=0∨kH x=32:=fun x=>by unfold kH;split<;>simp
 rcases h3 ((ap a)[i]'(by rw [au,← nV];exact h)) with h4|h4<;>omega
set_option maxRecDepth 10000 in
theorem qD (a:ByteArray) (ha:a.size≤1000000) (w:World):aF Tryz.prog 187 [.string a] w (.bool (nO a)):=by
 refine aA Tryz.func187 rfl Tryz.ntmps187 rfl ?_
 repeat' (first|((with_reducible apply aS (R:=fun v H=> ∃ gb cap,v= .slice (some ⟨gb,0,none⟩) a.size cap∧H= [.byt gb 5 a.size cap (((ap a).map kH).map (Value.int .u8))]));exact rfl;exact rfl;(intro w hm;exact E8 234 kH LU a ha w);(rintro v H' ⟨gb,cap,rfl,rfl⟩))|(apply aj;exact rfl;apply rz;exact rfl;exact .hd;simp [au])|(apply aa;exact rfl;exact rfl;(intro w hm;exact Ay 235 (fun c=>decide (c=0)) HY (kG a) (by rw [nV];exact ha) (zP a) w))|refine sT ?_|refine sM fun _=> ?_|(refine sC ?_ ?_<;>intro hb<;>try omega)|fail)
 all_goals ((refine rT1 ?_);rw [← Cd])
set_option maxRecDepth 10000 in
theorem CK (a:ByteArray) (w:World):aF Tryz.prog 149 [.string a] w (.int .i64 (jF a)):=by
 refine aA Tryz.func149 rfl Tryz.ntmps149 rfl ?_
 repeat' (first|(apply aa;exact rfl;exact rfl;(intro w hm;exact qD a (by omega) w))|refine sT ?_|refine sM fun _=> ?_|(refine sC ?_ ?_<;>intro hb<;>try omega)|fail)
 ·
  (refine rT1 ?_)
  have:decide (256<a.size)=true:=by simp;omega
  simp [jF,this]
 all_goals
  (refine rT1 ?_)
  have h256:decide (256<a.size)=false:=by simp;omega
  simp only [jF,h256,hb,cond_true,cond_false]
set_option maxRecDepth 10000 in
theorem DB (v:Vl) (w:World):aF Tryz.prog 274 [.agg (dN v).toArray] w (.int .i64 (pH v)):=by
 refine aA Tryz.func274 rfl Tryz.ntmps274 rfl ?_
 repeat' (first|(apply aa;exact rfl;exact rfl;(intro w hm;exact CK v.text w))|(apply aj;exact rfl;exact DJ (b:=⟨0,0,ay⟩) rfl rfl)|refine sT ?_|refine sM fun _=> ?_|(refine sC ?_ ?_<;>intro hb<;>try omega)|fail)
 all_goals ((refine rT1 ?_);((try simp only [← Int.not_lt] at*);simp_all [pH,uE,eqV,ay, -Int.not_lt, -Int.not_le,← Int.not_lt]);try (by_cases h:v.num=0<;>simp_all))
end Go.SL
namespace Go.SL
open Go Go.Proofs
attribute [local irreducible] W WL WQ WG WA VOp thn blk bZ bA FnAt FnIn
theorem Kl {c:Int} (h1:48≤c) (h2:c≤57):aJ c=true:=by simp [aJ,h1,h2]
theorem Mg {c:Int} (h:c<48):aJ c=false:=by simp [aJ];omega
theorem Mh {c:Int} (h:57<c):aJ c=false:=by simp [aJ];omega
set_option maxRecDepth 10000 in
theorem yK (a:ByteArray) (ha:a.size≤1000000) (w:World):aF Tryz.prog 243 [.string a] w (.int .i64 (aI aJ (ap a):Int)):=by
 refine aA Tryz.func243 rfl Tryz.ntmps243 rfl ?_
 have hl:=au a
 repeat' (first|refine sT ?_|refine sT2 ?_|refine sM fun _=> ?_|(refine sC ?_ ?_<;>intro hb<;>try omega)|exact cT|fail)
 refine eH (fun i:Nat=> [(0,.string a),(5,.int .i64 (a.size:Int)),(6,.int .i64 (i:Int))]) (fun _=> []) (fun i=>i≤a.size∧aI aJ (ap a)=i+aI aJ ((ap a).drop i)) (fun i=>a.size - i) 0 ⟨by omega,by simp⟩ sB mS ?_
 rintro i ⟨hi,hr⟩
 by_cases hlt:i<a.size
 ·
  have hs1:=bn hlt
  rw [hs1] at hr
  simp only [aI] at hr
  repeat' (first|refine sT ?_|refine sT2 ?_|refine sN ?_|refine sM fun _=> ?_|(refine sC ?_ ?_<;>intro hb<;>try omega)|exact cT|fail)
  ·
   (refine rT1 ?_)
   rw [hr,Mg hb];simp
  ·
   (refine rT1 ?_)
   rw [hr,Mh hb];simp
  ·
   rename_i h1
   rw [Kl h1 hb] at hr
   exact ⟨i+1,⟨hlt,by rw [hr];simp;omega⟩,by omega,by exact sB,by exact mS⟩
 ·
  have e:i=a.size:=by omega
  subst e
  repeat' (first|refine sT ?_|refine sT2 ?_|refine sM fun _=> ?_|(refine sC ?_ ?_<;>intro hb<;>try omega)|exact cT|fail)
  (refine rT1 ?_)
  rw [hr,PA (by omega)];simp [aI]
def jP (hi lo:Int) (neg:Bool):Int × Bool:=if hi≠0∨cQ<lo then (0,false) else (if neg then -lo else lo,true)
theorem p9 {v:Int} (h1:0≤v) (h2:v≤cQ):IntKind.i64.wrap v=v:=I64.wrap ⟨by omega,by simpa [cQ] using h2⟩
set_option maxRecDepth 10000 in
theorem Hd (hi lo:Int) (neg:Bool) (h0:0≤lo) (w:World):aF Tryz.prog 244 [.int .u64 hi,.int .u64 lo,.bool neg] w (.tuple #[.int .i64 (jP hi lo neg).1,.bool (jP hi lo neg).2]):=by
 refine aA Tryz.func244 rfl Tryz.ntmps244 rfl ?_
 by_cases hh:hi=0
 ·
  by_cases hl:lo≤cQ
  ·
   have hw:=p9 h0 hl
   have hm:cQ=9223372036854775807:=rfl
   have e:jP hi lo neg=(if neg then -lo else lo,true):=by rw [jP,if_neg (by omega)]
   rw [e]
   subst hh
   cases neg
   ·
    repeat' (first|(apply aj;exact rfl;apply cU;exact rfl;exact hw)|refine sT ?_|refine sM fun _=> ?_|(refine sC ?_ ?_<;>intro hb<;>try omega)|exact cT|fail)
    all_goals first|(exfalso;omega)|((refine rT2 ?_);rfl)
   ·
    repeat' (first|(apply aj;exact rfl;apply cU;exact rfl;exact hw)|(apply aj;exact rfl;apply MJ;exact rfl;exact ⟨by omega,by omega⟩)|refine sT ?_|refine sM fun _=> ?_|(refine sC ?_ ?_<;>intro hb<;>try omega)|exact cT|fail)
    all_goals first|(exfalso;omega)|((refine rT2 ?_);rfl)
  ·
   have hm:cQ=9223372036854775807:=rfl
   have e:jP hi lo neg=(0,false):=by rw [jP,if_pos (by omega)]
   rw [e]
   repeat' (first|refine sT ?_|refine sM fun _=> ?_|(refine sC ?_ ?_<;>intro hb<;>try omega)|exact cT|fail)
   all_goals first|(exfalso;omega)|((refine rT2 ?_);rfl)
 ·
  have e:jP hi lo neg=(0,false):=by rw [jP,if_pos (.inl hh)]
  rw [e]
  repeat' (first|refine sT ?_|refine sM fun _=> ?_|(refine sC ?_ ?_<;>intro hb<;>try omega)|exact cT|fail)
  all_goals first|(exfalso;omega)|((refine rT2 ?_);rfl)
theorem uY (u:Int) (neg:Bool) (h0:0≤u) (h1:u≤cQ) (w:World):aF Tryz.prog 244 [.int .u64 0,.int .u64 u,.bool neg] w (.tuple #[.int .i64 (if neg then -u else u),.bool true]):=by
 have h:=Hd 0 u neg h0 w
 rwa [jP,if_neg (by omega)] at h
theorem pT: ∀ (l:List Int) (v c:Int),bJ (l++ [c]) v=10*bJ l v+(c - 48)
 | [],_,_=>rfl
 |d::r,v,c=>by simp only [O3,bJ];exact pT r _ c
theorem lX: ∀ (l:List Int) {v:Int},(∀ c∈l,48≤c)→0≤v→v≤bJ l v
 | [],_,_,_=>QZ _
 |c::r,v,h,h0=>by
  have h1:=h c O7
  have:=lX r (v:=10*v+(c - 48)) (fun d hd=>h d (O9 _ hd)) (by omega)
  simp only [bJ];omega
theorem qH (l m:List Int) (v:Int):bJ (l++m) v=bJ m (bJ l v):=by
 induction l generalizing v with
 |nil=>rfl
 |cons c l ih=>simp only [O3,bJ,ih]
def gR (l0:List Int):Int × Int:=
 let neg:=decide (l0.head? =some 45)
 let l:=if neg then l0.tail else l0
 let n:=aI aJ l
 let rest:=l.drop n
 let frac:=decide (1<rest.length) && (decide (rest.head? =some 46) && decide (aI aJ rest.tail+1=rest.length))
 let p5:=(if frac then rest.tail else [])++ [48,48,48,48,48]
 if n=0∨(frac=false∧rest≠ []) then (0,4)
 else
  let v:=bJ (l.take n++p5.take 4) 0+(if 53≤p5.getD 4 0 then 1 else 0)
  if cQ<v then (0,3) else (if neg then -v else v,0)
theorem qM (a:ByteArray) (c:Int):((ap a).head? =some c)↔(0<a.size∧bat a 0=c):=by
 by_cases h:0<a.size
 ·
  have:=bn h
  rw [Qt] at this
  rw [this];simp [h]
 ·
  have:ap a= []:=by rw [← QM,au];omega
  rw [this];simp;omega
set_option maxRecDepth 10000 in
theorem tB (a:ByteArray) (ha:a.size≤1000000) (w:World):aF Tryz.prog 197 [.string a] w (.tuple #[.int .i64 (gR (ap a)).1,.int .i64 (gR (ap a)).2]):=by
 refine aA Tryz.func197 rfl Tryz.ntmps197 rfl ?_
 have hl:=au a
 generalize hneg:decide ((ap a).head? =some 45)=neg
 generalize hls:(if neg then (ap a).tail else ap a)=ls
 have hb0:=qM a 45
 repeat' (first|(refine ru (id:=1) (ι:=Bool) (fun b=> [(0,.string a),(4,.bool b)]) (fun _=> []) (fun b=>neg=b) ?_ ?_)|refine sT ?_|refine sT2 ?_|refine sM fun _=> ?_|(refine sC ?_ ?_<;>intro hb<;>try omega)|exact cT|fail)
 ·
  (apply cL;rotate_left 1;exact sB;exact mS)
  rw [← hneg,decide_eq_decide,hb0]
  simp;omega
 ·
  (apply cL;rotate_left 1;exact sB;exact mS)
  rw [← hneg,decide_eq_false_iff_not,hb0]
  omega
 rintro _ rfl
 repeat' (first|(refine zk (id:=2) (ι:=ByteArray) (fun b=> [(0,.string b),(4,.bool neg)]) (fun _=> []) (fun b=>ap b=ls∧b.size≤a.size) ?_ ?_)|refine sT ?_|refine sT2 ?_|refine sM fun _=> ?_|(refine sC ?_ ?_<;>intro hb<;>try omega)|exact cT|fail)
 ·
  have h1:0<a.size:=(hb0.1 (of_decide_eq_true (hneg.trans hb))).1
  repeat' (first|refine sT ?_|refine sT2 ?_|refine sM fun _=> ?_|(refine sC ?_ ?_<;>intro hb<;>try omega)|exact cT|fail)
  (apply cL;rotate_left 1;exact sB;exact mS)
  rw [← hls,hb,oI,cD _ (Ph _)]
  simp
 ·
  (apply cL;rotate_left 1;exact sB;exact mS)
  rw [← hls,hb]
  simp
 rintro b ⟨hbl,hbs⟩
 have hlb:=au b
 rw [hbl] at hlb
 have hdl:=co aJ ls
 generalize hn:aI aJ ls=n at hdl
 generalize hrest:ls.drop n=rest
 generalize hfr:(decide (1<rest.length) && (decide (rest.head? =some 46) && decide (aI aJ rest.tail+1=rest.length)))=fr
 have hcd:=yK b (by omega)
 rw [hbl,hn] at hcd
 have hb1:=qM (sub b n b.size) 46
 have hs1:=cD b (lo:=n) (Ph b.size)
 have hr1:ap (sub b n b.size)=rest:=by rw [oI,hbl,hrest]
 generalize hz:sub b n b.size=z at hb1 hs1 hr1
 have hrl:rest.length=z.size:=by rw [← hr1,au]
 have e1:ap (sub z 1 z.size)=rest.tail:=by rw [oI,hr1,List.drop_one]
 rw [hr1] at hb1
 have hcd2:=fun h=>yK (sub z 1 z.size) h
 repeat' (first|(refine ru (id:=7) (ι:=Bool) (fun x=> [(4,.bool neg),(5,.int .i64 (n:Int)),(6,.string (sub b 0 n)),(7,.string z),(8,.string ay),(50,.bool x)]) (fun _=> []) (fun x=>fr=x) ?_ ?_)|(apply aa;exact rfl;exact rfl;(intro w hm;exact hcd w))|(apply aa;exact rfl;exact rfl;(intro w hm;exact hcd2 (by rw [cD _ (Ph _)];omega) w))|(rw [hz])|refine sT ?_|refine sQ ?_|refine sT2 ?_|refine sQ2 ?_|refine sN ?_|refine sNQ ?_|refine sD ?_|refine sM fun _=> ?_|(refine sC ?_ ?_<;>intro hb<;>try omega)|(refine sCQ ?_ ?_<;>intro hb<;>try omega)|exact cT|fail)
 ·
  (apply cL;rotate_left 1;exact sB;exact mS)
  rename_i h1
  rw [e1,← hfr,decide_eq_true (by omega:1<rest.length),decide_eq_true (hb1.2 ⟨by omega,hb⟩)]
  simp only [PZ,decide_eq_decide]
  omega
 ·
  (apply cL;rotate_left 1;exact sB;exact mS)
  rw [← hfr,decide_eq_false (fun h=>hb (hb1.1 h).2)]
  simp
 ·
  (apply cL;rotate_left 1;exact sB;exact mS)
  rw [← hfr,decide_eq_false (by omega)]
  rfl
 rintro _ rfl
 have hf1:fr=true→1≤z.size:=fun h=>by
  rw [← hfr] at h
  simp at h
  omega
 have hf2:fr=false→((z=ay)↔rest= []):=fun _=>by rw [← Kd,hr1]
 have hbl2:b.size≤1000000:=by omega
 refine rv (ι:=ByteArray × ByteArray) (fun x=> [(4,.bool neg),(5,.int .i64 (n:Int)),(6,.string (sub b 0 n)),(7,.string x.1),(8,.string x.2)]) (fun _=> []) (fun x=>ap x.2=(if fr then rest.tail else [])∧((x.1=ay)↔(fr=true∨rest= []))∧x.2.size≤a.size) ?_ ?_
 ·
  cases fr
  ·
   repeat' (first|refine sT ?_|refine sT2 ?_|refine sM fun _=> ?_|(refine sC ?_ ?_<;>intro hb<;>try omega)|exact cT|fail)
   refine cL ((z,ay)) ?_ sB mS
   exact ⟨rfl,by rw [hf2 rfl];simp,Pb _⟩
  ·
   have h1:=hf1 rfl
   repeat' (first|refine sT ?_|refine sT2 ?_|refine sM fun _=> ?_|(refine sC ?_ ?_<;>intro hb<;>try omega)|exact cT|fail)
   refine cL ((ay,sub z 1 z.size)) ?_ sB mS
   exact ⟨by rw [e1];rfl,by simp [ay],by rw [cD _ (Ph _)];omega⟩
 rintro ⟨z',pl⟩ ⟨h1,h2,h3⟩
 dsimp only at*
 generalize hp5:(if fr then rest.tail else [])++ [48,48,48,48,48]=p5
 have hpl:ap (pl++⟨#[48,48,48,48,48]⟩)=p5:=by rw [gW,h1,← hp5];rfl
 have hpz:(pl++⟨#[48,48,48,48,48]⟩:ByteArray).size=pl.size+5:=by rw [RB];rfl
 generalize hqd:(pl++⟨#[48,48,48,48,48]⟩:ByteArray)=q at hpl hpz
 have hres:gR (ap a)=if n=0∨(fr=false∧rest≠ []) then (0,4) else if cQ<bJ (ls.take n++p5.take 4) 0+(if 53≤p5.getD 4 0 then 1 else 0) then (0,3) else (if neg then -(bJ (ls.take n++p5.take 4) 0+(if 53≤p5.getD 4 0 then 1 else 0)) else bJ (ls.take n++p5.take 4) 0+(if 53≤p5.getD 4 0 then 1 else 0),0):=by
  unfold gR
  rw [hneg]
  dsimp only
  rw [hls,hn,hrest,hfr,hp5]
 rw [hres]
 by_cases herr:n=0∨(fr=false∧rest≠ [])
 ·
  rw [if_pos herr]
  repeat' (first|refine sT ?_|refine sT2 ?_|refine sM fun _=> ?_|(refine sC ?_ ?_<;>intro hb<;>try omega)|exact cT|fail)
  ·
   (refine rT2 ?_)
   rfl
  ·
   (refine rT2 ?_)
   rfl
  ·
   exfalso
   have hz' :z' =ay:=Decidable.not_not.1 hb
   have:=h2.1 hz'
   rcases herr with h|⟨h,h'⟩
   ·
    omega
   ·
    rcases this with h4|h4
    ·
     rw [h] at h4;cases h4
    ·
     exact h' h4
 ·
  rw [if_neg herr]
  generalize hL:ls.take n++p5.take 4=L
  have hp5l:p5.length=pl.size+5:=by rw [← hpl,au,hpz]
  have hy:ap (sub b 0 n++sub q 0 4)=L:=by rw [gW,ud,ud,hbl,hpl,hL]
  have hyz:(sub b 0 n++sub q 0 4:ByteArray).size=n+4:=by rw [RB,cD _ (by omega),cD _ (by omega)];omega
  generalize hyd:(sub b 0 n++sub q 0 4:ByteArray)=y at hy hyz
  have hyl:L.length=y.size:=by rw [← hy,au]
  have hdig: ∀ c∈L,48≤c∧c≤57:=by
   have hall: ∀ (l:List Int) (c:Int),c∈l.take (aI aJ l)→48≤c∧c≤57:=fun l c hc=>by
    obtain ⟨j,hj,rfl⟩:=P1 hc
    simp only [Pr] at hj
    have h:=kw (p:=aJ) l j (l[j]'(by omega)) (by omega) (O5 _)
    simp only [List.getElem_take]
    simpa [aJ] using h
   intro c hc
   rw [← hL] at hc
   rcases Pz.1 hc with hc|hc
   ·
    rw [← hn] at hc;exact hall ls c hc
   ·
    have hc:=P2 hc
    rw [← hp5] at hc
    rcases Pz.1 hc with hc|hc
    ·
     cases hc1:fr
     ·
      rw [hc1] at hc;cases hc
     ·
      rw [hc1] at hc
      simp only [if_true] at hc
      have h7:aI aJ rest.tail=rest.tail.length:=by
       rw [hc1] at hfr
       simp only [Pm,decide_eq_true_eq] at hfr
       rw [Su];omega
      have:=hall rest.tail c (by rw [h7,Qe];exact hc)
      exact this
    ·
     simp at hc;omega
  have hq4:bat q 4=p5.getD 4 0:=by rw [bat,hpl]
  have hm0:cQ=9223372036854775807:=rfl
  repeat' (first|(apply aj (d:=60);exact rfl;apply jW;exact rfl;exact rfl;exact hqd;(show pl.size+5≤_;omega))|(apply aj (d:=64);exact rfl;apply jW;exact rfl;exact rfl;exact hyd;(rw [cD _ (by omega),cD _ (by omega)];omega))|(apply mo;exact rfl;exact rfl;intro gb cap)|refine sT ?_|refine sT2 ?_|refine sM fun _=> ?_|(refine sC ?_ ?_<;>intro hb<;>try omega)|exact cT|fail)
  ·
   exfalso
   refine herr (.inr ?_)
   have h4: ¬ (fr=true∨rest= []):=fun h=>hb (h2.2 h)
   cases hc:fr
   ·
    exact ⟨rfl,fun h=>h4 (.inr h)⟩
   ·
    exact absurd (.inl hc) h4
  have hup: ∀ i,i≤L.length→cQ<bJ (L.take i) 0→cQ<bJ L 0:=fun i hi h=>by
   have e:L=L.take i++L.drop i:=(PP i L).symm
   rw [e,qH]
   have h0:0≤bJ (L.take i) 0:=lX _ (fun c hc=>(hdig c (P2 hc)).1) (QZ _)
   have:=lX (L.drop i) (v:=bJ (L.take i) 0) (fun c hc=>(hdig c (QA hc)).1) h0
   omega
  refine ax [4,8,65,66] rfl (fun x:Nat × Int × Bool=> [(9,.int .u64 x.2.1),(10,.bool x.2.2),(67,.int .i64 (x.1:Int))]) (fun _=> [.byt gb 5 y.size cap (og y)]) (fun x=>x.1≤L.length∧0≤x.2.1∧x.2.1<18446744073709551616∧(x.2.2=false→x.2.1=bJ (L.take x.1) 0∧x.2.1≤cQ)∧(x.2.2=true→cQ<bJ (L.take x.1) 0)) (fun x=>L.length - x.1) (0,0,false) ⟨Pb _,QZ _,by decide,fun _=>⟨rfl,by decide⟩,fun h=>by cases h⟩ sB mS ?_
  rintro ⟨i,v,gr⟩ ⟨hi,hv0,hv1,hg0,hg1⟩
  dsimp only at hi hv0 hv1 hg0 hg1 ⊢
  by_cases hlt:i<L.length
  ·
   have hiy:i<y.size:=by omega
   have hge:L[i]? =some L[i]:=O5 hlt
   have hci:=hdig L[i] (PG hlt)
   have hsn:bJ (L.take (i+1)) 0=10*bJ (L.take i) 0+(L[i] - 48):=by rw [Po hlt,pT]
   generalize L[i]=c at hge hci hsn
   have hget:(og y)[0+i*1]? =some (.int .u8 c):=by rw [oR,hy,Pw,show 0+i*1=i by omega,hge];rfl
   have hwc:IntKind.u8.wrap (c - 48)=c - 48:=fa (by omega) (by omega)
   have hwc2:IntKind.u64.wrap (c - 48)=c - 48:=by simp [IntKind.wrap,IntKind.bits,IntKind.signed];omega
   obtain ⟨v',hadd,hv2,hv3,hv4⟩: ∃ v',IntKind.u64.wrap (IntKind.u64.wrap (10*v)+(c - 48))=v' ∧0≤v' ∧v' <18446744073709551616∧(v≤922337203685477580→v' =10*v+(c - 48)):=by
    refine ⟨_,rfl,?_⟩
    simp only [IntKind.wrap,IntKind.bits,IntKind.signed]
    simp
    omega
   have hn0:0≤bJ (L.take i) 0:=lX _ (fun c hc=>(hdig c (P2 hc)).1) (QZ _)
   cases gr
   ·
    obtain ⟨hg2,hg3⟩:=hg0 rfl
    repeat' (first|(apply aj;exact rfl;apply ag;exact rfl;exact rfl;exact hiy)|(apply aj;exact rfl;apply ko;exact rfl;exact .hd;exact hget)|(apply aj (d:=74);exact rfl;apply DF;exact rfl;exact rfl)|(apply aj (d:=76);exact rfl;apply dU;exact rfl;exact rfl;exact hwc)|(apply aj (d:=77);exact rfl;apply cU;exact rfl;exact hwc2)|(apply aj (d:=78);exact rfl;apply eC;exact rfl;exact rfl;exact hadd)|refine sT ?_|refine sT2 ?_|refine sN ?_|refine sM fun _=> ?_|(refine sC ?_ ?_<;>intro hb<;>try omega)|exact cT|fail)
    ·
     refine ⟨(i+1,v',true),?_,(by first|omega|(dsimp only;omega)),sB,sB,mS⟩
     exact ⟨hlt,hv2,hv3,(fun h=>by cases h),fun _=>by dsimp only;omega⟩
    ·
     have h5:=hv4 (by omega)
     refine ⟨(i+1,v',decide (cQ<v')),⟨hlt,hv2,hv3,fun h=> ?_,fun h=> ?_⟩,(by dsimp only;omega),sB,sB,mS⟩
     ·
      have h6:=of_decide_eq_false h
      exact ⟨by dsimp only;omega,by dsimp only;omega⟩
     ·
      have h6:=of_decide_eq_true h
      dsimp only;omega
   ·
    have hg2:=hg1 rfl
    repeat' (first|(apply aj;exact rfl;apply ag;exact rfl;exact rfl;exact hiy)|(apply aj;exact rfl;apply ko;exact rfl;exact .hd;exact hget)|(apply aj (d:=74);exact rfl;apply DF;exact rfl;exact rfl)|(apply aj (d:=76);exact rfl;apply dU;exact rfl;exact rfl;exact hwc)|(apply aj (d:=77);exact rfl;apply cU;exact rfl;exact hwc2)|(apply aj (d:=78);exact rfl;apply eC;exact rfl;exact rfl;exact hadd)|refine sT ?_|refine sT2 ?_|refine sN ?_|refine sM fun _=> ?_|(refine sC ?_ ?_<;>intro hb<;>try omega)|exact cT|fail)
    all_goals
     refine ⟨(i+1,v',true),?_,(by first|omega|(dsimp only;omega)),sB,sB,mS⟩
     exact ⟨hlt,hv2,hv3,(fun h=>by cases h),fun _=>by dsimp only;omega⟩
  ·
   have e:i=L.length:=by omega
   subst e
   rw [PM (Ph _)] at hg0 hg1
   generalize bJ L 0=N at hg0 hg1 hup ⊢
   have hadd:v≤cQ→IntKind.u64.wrap (v+1)=v+1:=fun h=>by simp [IntKind.wrap,IntKind.bits,IntKind.signed];omega
   by_cases h5:53≤p5.getD 4 0
   ·
    rw [if_pos h5]
    cases gr
    ·
     obtain ⟨hg2,hg3⟩:=hg0 rfl
     subst hg2
     by_cases h6:cQ<v+1
     ·
      rw [if_pos h6]
      repeat' (first|(apply aj (d:=89);exact rfl;apply eC;exact rfl;exact rfl;exact hadd hg3)|refine sT ?_|refine sT2 ?_|refine sM fun _=> ?_|(refine sC ?_ ?_<;>intro hb<;>try omega)|exact cT|fail)
      all_goals first|(exfalso;omega)|((refine rT2 ?_);rfl)
     ·
      rw [if_neg h6]
      repeat' (first|(apply aj (d:=89);exact rfl;apply eC;exact rfl;exact rfl;exact hadd hg3)|(apply aa;exact rfl;exact rfl;(intro w' hm;exact (uY (v+1) neg (by omega) (by omega) w')))|refine sT ?_|refine sT2 ?_|refine sM fun _=> ?_|(refine sC ?_ ?_<;>intro hb<;>try omega)|exact cT|fail)
      all_goals first|(exfalso;omega)|((refine rT2 ?_);rfl)
    ·
     rw [if_pos (by have:=hg1 rfl;omega)]
     obtain ⟨u,hu⟩: ∃ u,IntKind.u64.wrap (v+1)=u:=⟨_,rfl⟩
     repeat' (first|(apply aj (d:=89);exact rfl;apply eC;exact rfl;exact rfl;exact hu)|refine sT ?_|refine sT2 ?_|refine sM fun _=> ?_|(refine sC ?_ ?_<;>intro hb<;>try omega)|exact cT|fail)
     all_goals first|(exfalso;omega)|((refine rT2 ?_);rfl)
   ·
    rw [if_neg h5,Int.add_zero]
    cases gr
    ·
     obtain ⟨hg2,hg3⟩:=hg0 rfl
     subst hg2
     rw [if_neg (by omega)]
     repeat' (first|(apply aa;exact rfl;exact rfl;(intro w' hm;exact (uY v neg (by omega) hg3 w')))|refine sT ?_|refine sT2 ?_|refine sM fun _=> ?_|(refine sC ?_ ?_<;>intro hb<;>try omega)|exact cT|fail)
     all_goals first|(exfalso;omega)|((refine rT2 ?_);rfl)
    ·
     rw [if_pos (hg1 rfl)]
     repeat' (first|refine sT ?_|refine sT2 ?_|refine sM fun _=> ?_|(refine sC ?_ ?_<;>intro hb<;>try omega)|exact cT|fail)
     all_goals first|(exfalso;omega)|((refine rT2 ?_);rfl)
end Go.SL
namespace Go.SL
open Go Go.Proofs
attribute [local irreducible] W WL WQ WG VOp thn blk bA FnAt FnIn
set_option maxRecDepth 10000 in
theorem lQ (c r:Int) (w:World):aF Tryz.prog 93 [.agg #[.int .i64 c,.int .i64 r]] w (.bool (valid c r)):=by
 refine aA Tryz.func93 rfl Tryz.ntmps93 rfl ?_
 repeat' (first|refine sT ?_|refine sM fun _=> ?_|(refine sC ?_ ?_<;>intro hb<;>try omega)|fail)
 all_goals ((refine rT1 ?_);((try simp only [← Int.not_lt] at*);simp_all [valid, -Int.not_lt, -Int.not_le,← Int.not_lt]))
set_option maxRecDepth 10000 in
theorem E7 (r:Rct) (w:World):aF Tryz.prog 135 [.agg (aH r).toArray] w (.tuple #[.agg #[.int .i64 r.c1,.int .i64 r.r1],.agg #[.int .i64 r.c2,.int .i64 r.r2]]):=by
 refine aA Tryz.func135 rfl Tryz.ntmps135 rfl ?_
 repeat' (first|refine sT ?_|refine sM fun _=> ?_|(refine sC ?_ ?_<;>intro hb<;>try omega)|fail)
 rename_i g1 g2 g3
 refine tU (fun D=> [.box g2 24 [.int .i64 (bif D 10 then r.c1 else 0),.int .i64 (bif D 10 then r.r1 else 0)],.box g3 24 [.int .i64 (bif D 11 then r.c2 else 0),.int .i64 (bif D 11 then r.r2 else 0)],.box g1 53 (aH r)]) (by kernel_rfl) (by kernel_rfl) (.pick (.tl .hd) (.pick .hd (.refl _))) ?_
 repeat' (first|refine sT ?_|refine sG ?_|refine sM fun _=> ?_|(refine sC ?_ ?_<;>intro hb<;>try omega)|fail)
 refine Dy _ _ rfl rfl (fun D=> .tl .hd) rfl rfl rfl (fun _=>Ph _) (fun D ht=> .pick (.tl .hd) (.pick .hd (.refl _))) ?_
 refine zf fun D hD=> ?_
 have h10:=hD 10 (by decide)
 have h11:=hD 11 (by decide)
 simp only [h10,h11,cond_true]
 repeat' (first|refine sT ?_|refine sM fun _=> ?_|(refine sC ?_ ?_<;>intro hb<;>try omega)|fail)
 refine Ox (.inl rfl) Tryz.results135 rfl .hd rfl rfl (.tl .hd) rfl (MSub.nil _) ?_
 rfl
set_option maxRecDepth 10000 in
theorem tY (r:Rct) (w:World):aF Tryz.prog 99 [.agg (aH r).toArray] w (.int .i64 (iL r)):=by
 refine aA Tryz.func99 rfl Tryz.ntmps99 rfl ?_
 repeat' (first|(apply aa;exact rfl;exact rfl;(intro w hm;exact E7 r w))|(apply aa;exact rfl;exact rfl;(intro w hm;exact lQ r.c1 r.r1 w))|(apply aa;exact rfl;exact rfl;(intro w hm;exact lQ r.c2 r.r2 w))|refine sT ?_|refine sM fun _=> ?_|(refine sC ?_ ?_<;>intro hb<;>try omega)|fail)
 all_goals ((refine rT1 ?_);((try simp only [← Int.not_lt] at*);simp_all [iL,bh, -Int.not_lt, -Int.not_le,← Int.not_lt]))
set_option maxRecDepth 10000 in
theorem J9 (fn:Int) (w:World):aF Tryz.prog 336 [.int .u8 fn] w (.bool (cW fn)):=by
 refine aA Tryz.func336 rfl Tryz.ntmps336 rfl ?_
 repeat' (first|refine sT ?_|refine sT2 ?_|refine sM fun _=> ?_|(refine sC ?_ ?_<;>intro hb<;>try omega)|fail)
 all_goals ((refine rT1 ?_);((try simp only [← Int.not_lt] at*);simp_all [cW, -Int.not_lt, -Int.not_le,← Int.not_lt]))
set_option maxRecDepth 10000 in
theorem sL (fn:Int) (w:World):aF Tryz.prog 318 [.int .u8 fn] w (.bool (iU fn)):=by
 refine aA Tryz.func318 rfl Tryz.ntmps318 rfl ?_
 repeat' (first|refine sT ?_|refine sT2 ?_|refine sM fun _=> ?_|(refine sC ?_ ?_<;>intro hb<;>try omega)|fail)
 all_goals ((refine rT1 ?_);((try simp only [← Int.not_lt] at*);simp_all [iU, -Int.not_lt, -Int.not_le,← Int.not_lt]))
set_option maxRecDepth 10000 in
theorem Kw (n:Nd) (w:World):aF Tryz.prog 294 [.agg (bg n).toArray] w (.int .i64 (below n)):=by
 refine aA Tryz.func294 rfl Tryz.ntmps294 rfl ?_
 repeat' (first|refine sT ?_|refine sM fun _=> ?_|(refine sC ?_ ?_<;>intro hb<;>try omega)|fail)
 all_goals ((refine rT1 ?_);simp_all [below])
set_option maxRecDepth 10000 in
theorem wS (fn:Int) (w:World):aF Tryz.prog 316 [.int .u8 fn] w (.tuple #[.int .i64 (eG fn).1,.int .i64 (eG fn).2.1,.int .i64 (eG fn).2.2]):=by
 refine aA Tryz.func316 rfl Tryz.ntmps316 rfl ?_
 repeat' (first|(apply aa;exact rfl;exact rfl;(intro w hm;exact J9 fn w))|refine sT ?_|refine sT2 ?_|refine sM fun _=> ?_|(refine sC ?_ ?_<;>intro hb<;>try omega)|fail)
 all_goals ((refine rT3 ?_);simp_all [eG])
set_option maxRecDepth 10000 in
theorem FC (fn i:Int) (w:World):aF Tryz.prog 317 [.int .u8 fn,.int .i64 i] w (.tuple #[.bool (kf fn i).1,.int .i64 (kf fn i).2]):=by
 refine aA Tryz.func317 rfl Tryz.ntmps317 rfl ?_
 repeat' (first|(apply aa;exact rfl;exact rfl;(intro w hm;exact wS fn w))|(apply aa;exact rfl;exact rfl;(intro w hm;exact sL fn w))|refine sT ?_|refine sT2 ?_|refine sM fun _=> ?_|(refine sC ?_ ?_<;>intro hb<;>try omega)|fail)
 all_goals ((refine rT2 ?_);((try simp only [← Int.not_lt] at*);simp_all [kf, -Int.not_lt, -Int.not_le,← Int.not_lt]))
set_option maxHeartbeats 1000000 in
theorem yz (n:Nd) (w:World):aF Tryz.prog 293 [.agg (bg n).toArray] w (.int .i64 (bF n)):=by
 refine aA Tryz.func293 rfl Tryz.ntmps293 rfl ?_
 repeat' (first|(apply aa;exact rfl;exact rfl;(intro w hm;exact DB n.v w))|(apply aa;exact rfl;exact rfl;(intro w hm;exact tY n.rect w))|(apply aa;exact rfl;exact rfl;(intro w hm;exact wS n.fn w))|(apply qd (T:=157) (fun D=> [.int .u8 n.kind,.int .u8 0,.int .i64 0,.string ay,.int .i64 0,.int .i64 0,.int .i64 0,.int .i64 0,.int .i64 0,.int .u8 (bif D 5 then n.fn else 0),.int .i64 (bif D 7 then n.n else 0)]) (xs' := [.int .u8 n.kind,.int .u8 0,.int .i64 0,.string ay,.int .i64 0,.int .i64 0,.int .i64 0,.int .i64 0,.int .i64 0,.int .u8 n.fn,.int .i64 n.n]);kernel_rfl;kernel_rfl;(first|exact .hd|exact .tl .hd);exact rfl;(intro D hD;simp only [hD 5 (by decide),hD 7 (by decide),cond_true]))|(apply aj;exact rfl;(first|(apply rA (b:=⟨n.kind,n.v,aW,0,0,0⟩);exact rfl;exact rfl)|(apply rA (b:=⟨n.kind,bR,n.rect,0,0,0⟩);exact rfl;exact rfl)|(apply rA (b:=⟨n.kind,bR,aW,0,0,0⟩);exact rfl;exact rfl)|(apply rA (b:=⟨n.kind,bR,aW,n.op,0,0⟩);exact rfl;exact rfl)|(apply rA (b:=⟨n.kind,bR,aW,0,n.fn,n.n⟩);exact rfl;exact rfl)))|refine sT ?_|refine sG ?_|refine sM fun _=> ?_|(refine sC ?_ ?_<;>intro hb<;>try omega)|fail)
 all_goals ((refine rT1 ?_);((try simp only [← Int.not_lt] at*);simp_all [bF,eL,cP,F6,JQ, -Int.not_lt, -Int.not_le,← Int.not_lt]))
end Go.SL
namespace Go.SL
open Go Go.Proofs
attribute [local irreducible] W WL WQ WG WA VOp thn blk bA FnAt FnIn
theorem i9 {L:List Nd} {i:Nat} (h:i<L.length):ja L i=L[i].kind:=by simp [ja,h]
set_option maxHeartbeats 1000000 in
theorem L9 (L:List Nd) (n:Nd) (ps:List Pt) (tv lv:Value) (w:World) (ht:Reads w tv L.length (L.flatMap bg)) (hp:Reads w lv ps.length (ps.flatMap rZ)) (hroot: ∀ p∈ps,p.root<L.length) (hlen:ps.length≤1000000):
  aF Tryz.prog 295 [tv,.agg (bg n).toArray,lv] w (.bool (d9 L n 0 ps)):=by
 obtain ⟨At,ct,rfl,ht1,ht2,ht3⟩:=ht
 obtain ⟨Al,cl,rfl,hl1,hl2,hl3⟩:=hp
 refine aA Tryz.func295 rfl Tryz.ntmps295 rfl ?_
 repeat' (first|refine sT ?_|refine sM fun _=> ?_|(refine sC ?_ ?_<;>intro hb<;>try omega)|fail)
 rename_i gn
 refine eH (fun i:Nat=> [(0,.slice At L.length ct),(4,.pointer (some ⟨gn,0,none⟩)),(11,.slice Al ps.length cl),(12,.int .i64 (ps.length:Int)),(13,.int .i64 (i:Int))])
  (fun i=> [.box gn 157 (bg n)]) (fun i=>i≤ps.length∧d9 L n 0 ps=d9 L n (i:Int) (ps.drop i)) (fun i=>ps.length - i) 0 ⟨by omega,rfl⟩ ?_ ?_ ?_
 ·
  exact sB
 ·
  exact mS
 ·
  rintro i ⟨hi,hrec⟩
  by_cases hlt:i<ps.length
  ·
   obtain ⟨g,o,rfl,hro⟩:=hl3 (by omega)
   have hrp:=hro.elem n9 i hlt
   have hr0:=hroot ps[i] (PG hlt)
   obtain ⟨gt,ot,rfl,hrt⟩:=ht3 (by omega)
   have hrn:=hrt.elem cE ps[i].root hr0
   rw [Pf hlt,d9,rW,i9 hr0] at hrec
   repeat' (first|(apply aj;exact rfl;apply ag;exact rfl;exact rfl;first|exact hlt|exact hr0)|(apply aj;exact rfl;apply aZ;exact rfl;exact hrp;exact rfl)|(apply aj;exact rfl;apply dG;exact rfl;exact hrn;exact rfl)|(apply aj;exact rfl;apply kZ;exact rfl;exact rfl;(constructor<;>omega))|(apply aa;exact rfl;exact rfl;(intro w hm;exact FC n.fn (i:Int) w))|(apply aa;exact rfl;exact rfl;(intro w hm;exact sL n.fn w))|refine sT ?_|refine sM fun _=> ?_|(refine sC ?_ ?_<;>intro hb<;>try omega)|fail)
   all_goals first
    |((refine rT1 ?_);rw [hrec];simp_all [Cq];done)
    |(refine ⟨i+1,⟨by omega,?_⟩,by omega,?_,?_⟩;(focus (rw [hrec,Int.natCast_add];simp [Cq, *]));(focus exact sB);(focus exact mS))
  ·
   have e:i=ps.length:=by omega
   subst e
   rw [PT,d9] at hrec
   repeat' (first|refine sT ?_|refine sM fun _=> ?_|(refine sC ?_ ?_<;>intro hb<;>try omega)|fail)
   (refine rT1 ?_)
   rw [hrec]
end Go.SL
