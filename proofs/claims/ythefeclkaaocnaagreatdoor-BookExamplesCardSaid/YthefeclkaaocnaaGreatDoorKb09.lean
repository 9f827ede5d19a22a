/-
  Lemmas and walks, put together: W2 A1 W1 W3 W4.
-/
import Derived.Test.YthefeclkaaocnaaGreatDoorKb08
set_option linter.unusedSimpArgs false
set_option linter.unusedVariables false
set_option maxRecDepth 20000
namespace Go.SL
open Go Go.Proofs
attribute [local irreducible] W WL WQ WG VOp thn blk retP FnAt FnIn
theorem bytesV_eq (b:ByteArray):bytesV b=(ints b).map (Value.int .u8):=by simp [bytesV,ints]
theorem upd_step {α β:Type} (f:α→α) (E:α→β) (xs:List α) (i:Nat) (h:i<xs.length):(((xs.take i).map f++xs.drop i).map E).set i (E (f xs[i]))=((xs.take (i+1)).map f++xs.drop (i+1)).map E:=by
 rw [← List.map_set,List.set_append_right _ _ (by simp;omega)]
 have e1:xs.drop i=xs[i]::xs.drop (i+1):=List.drop_eq_getElem_cons h
 have e2:xs.take (i+1)=xs.take i++ [xs[i]]:=List.take_succ_eq_append_getElem h
 have e3:i - ((xs.take i).map f).length=0:=by simp;omega
 rw [e3,e1,e2]
 simp only [List.set_cons_zero,List.map_append,List.map_cons,List.map_nil,List.append_assoc,List.cons_append,List.nil_append]
set_option maxRecDepth 10000 in
theorem changed_at (f:FuncId) [Callable Tryz.prog f] (g:Int→Int) (hf: ∀ c w,Pure Tryz.prog f [.int .u8 c] w (.int .u8 (g c))) (a:ByteArray) (ha:a.size≤1000000) (w:World):
  FnAt Tryz.prog 231 [.string a,.func (.func f) #[] #[]] w fun v H=> ∃ gb cap,v= .slice (some ⟨gb,0,none⟩) a.size cap∧H= [.byt gb 5 a.size cap (((ints a).map g).map (Value.int .u8))]:=by
 refine fn_at Tryz.func231 rfl Tryz.ntmps231 rfl ?_
 repeat' (first|((with_reducible apply wl_toBytes);exact rfl;exact rfl;intro gb cap)|refine sT ?_|refine sM fun _=> ?_|(refine sC ?_ ?_<;>intro hb<;>try omega)|fail)
 refine w_loop (fun i:Nat=> [(5,.slice (some ⟨gb,0,none⟩) a.size cap),(10,.slice (some ⟨gb,0,none⟩) a.size cap),(11,.int .i64 (a.size:Int)),(12,.int .i64 (i:Int)),(1,.func (.func f) #[] #[])])
  (fun i=> [.byt gb 5 a.size cap ((((ints a).take i).map g++(ints a).drop i).map (Value.int .u8))]) (fun i=>i≤a.size) (fun i=>a.size - i) 0 (by omega) ?_ ?_ ?_
 ·
  exact sB
 ·
  rw [bytesV_eq];simp only [List.take_zero,List.map_nil,List.nil_append,List.drop_zero];exact mS
 ·
  intro i hi
  have hl:=ints_length a
  by_cases hlt:i<a.size
  ·
   have hil:i<(ints a).length:=by omega
   have hget:((((ints a).take i).map g++(ints a).drop i).map (Value.int .u8))[0+i*1]? =some (.int .u8 (ints a)[i]):=by
    rw [List.getElem?_map,show 0+i*1=i by omega,List.getElem?_append_right (by simp;omega)]
    simp [Nat.min_eq_left (Nat.le_of_lt hil),List.getElem?_drop]
   repeat' (first|((with_reducible apply wl_v);exact rfl;(with_reducible apply v_indexAddr);exact rfl;exact rfl;exact hlt)|((with_reducible apply wl_v);exact rfl;(with_reducible apply v_load_byt);exact rfl;exact .hd;exact hget)|((with_reducible apply wl_callvp);exact rfl;exact rfl;infer_instance;exact rfl;(intro w hm;exact hf _ w))|((with_reducible apply wl_store_byt);exact rfl;exact rfl;exact .hd;exact rfl;(simp;omega))|((with_reducible apply wl_v);exact rfl;(with_reducible apply v_add);exact rfl;exact rfl;(constructor<;>omega))|refine sT ?_|refine sM fun _=> ?_|(refine sC ?_ ?_<;>intro hb<;>try omega)|fail)
   refine ⟨i+1,by omega,by omega,?_,?_⟩
   ·
    exact sB
   ·
    rw [show 0+i*1=i by omega,upd_step g (Value.int .u8) (ints a) i hil]
    exact mS
  ·
   have e:i=a.size:=by omega
   subst e
   repeat' (first|refine sT ?_|refine sM fun _=> ?_|(refine sC ?_ ?_<;>intro hb<;>try omega)|fail)
   refine ret1 (.inl rfl) Tryz.results231 rfl (.refl _) ⟨gb,cap,rfl,?_⟩
   rw [List.take_of_length_le (by omega),List.drop_of_length_le (by omega),List.append_nil]
def markB (c:Int):Int:=if c<32∨126<c then 0 else 32
set_option maxRecDepth 10000 in
theorem mark_at (c:Int) (w:World):Pure Tryz.prog 232 [.int .u8 c] w (.int .u8 (markB c)):=by
 refine fn_at Tryz.func232 rfl Tryz.ntmps232 rfl ?_
 repeat' (first|refine sT ?_|refine sM fun _=> ?_|(refine sC ?_ ?_<;>intro hb<;>try omega)|fail)
 all_goals ((refine rT1 ?_);((try simp only [← Int.not_lt] at*);simp_all [markB, -Int.not_lt, -Int.not_le]))
set_option maxRecDepth 10000 in
theorem isZero_at (c:Int) (w:World):Pure Tryz.prog 233 [.int .i32 c] w (.bool (decide (c=0))):=by
 refine fn_at Tryz.func233 rfl Tryz.ntmps233 rfl ?_
 repeat' (first|refine sT ?_|refine sM fun _=> ?_|(refine sC ?_ ?_<;>intro hb<;>try omega)|fail)
 all_goals ((refine rT1 ?_);rfl)
def firstAt (q:Int→Bool) (l:List Int):Int:=match l.findIdx? q with
 |some i=>(i:Int)
 |none=> -1
theorem firstAt_hit {q:Int→Bool} {l:List Int} {i:Nat} (h:i<l.length) (hq:q l[i]=true) (hno: ∀ j (h:j<l.length),j<i→q l[j]=false):firstAt q l=(i:Int):=by
 have:l.findIdx? q=some i:=by
  rw [List.findIdx?_eq_some_iff_getElem]
  exact ⟨h,hq,fun j hj=>by simpa using hno j (by omega) hj⟩
 simp [firstAt,this]
theorem firstAt_miss {q:Int→Bool} {l:List Int} (hno: ∀ j (h:j<l.length),q l[j]=false):firstAt q l= -1:=by
 have:l.findIdx? q=none:=by
  rw [List.findIdx?_eq_none_iff]
  intro x hx
  obtain ⟨j,hj,rfl⟩:=List.getElem_of_mem hx
  exact hno j hj
 simp [firstAt,this]
set_option maxRecDepth 10000 in
theorem indexFunc_at (f:FuncId) [Callable Tryz.prog f] (q:Int→Bool) (hf: ∀ c w,Pure Tryz.prog f [.int .i32 c] w (.bool (q c))) (a:ByteArray) (ha:a.size≤1000000) (hasc: ∀ i (h:i<a.size),(a[i]'h).toNat<128) (w:World):
  Pure Tryz.prog 274 [.string a,.func (.func f) #[] #[],.bool true] w (.int .i64 (firstAt q (ints a))):=by
 refine fn_at Tryz.func274 rfl Tryz.ntmps274 rfl ?_
 have hl:=ints_length a
 repeat' (first|((with_reducible apply wl_range_str);exact rfl;exact rfl;intro gi)|refine sT ?_|refine sM fun _=> ?_|(refine sC ?_ ?_<;>intro hb<;>try omega)|fail)
 refine w_loop (fun i:Nat=> [(0,.string a),(1,.func (.func f) #[] #[]),(2,.bool true),(10,.pointer (some ⟨gi,0,none⟩))])
  (fun i=> [.obj gi (.stringIter a i)]) (fun i=>i≤a.size∧ ∀ j (h:j<(ints a).length),j<i→q (ints a)[j]=false) (fun i=>a.size - i) 0 ⟨by omega,fun j _ h=>by omega⟩ ?_ ?_ ?_
 ·
  exact sB
 ·
  exact mS
 ·
  rintro i ⟨hi,hno⟩
  repeat' (first|((with_reducible apply wl_next_str);exact rfl;exact rfl;exact .hd;exact hasc i;all_goals intro hb)|((with_reducible apply wl_callvp);exact rfl;exact rfl;infer_instance;exact rfl;(intro w hm;exact hf _ w))|refine sT ?_|refine sM fun _=> ?_|(refine sC ?_ ?_<;>intro hb<;>try omega)|fail)
  all_goals (try simp only [beq_true] at*)
  ·
   rename_i hlt
   have hq:=hb
   refine ret1 (.inl rfl) Tryz.results274 rfl (MSub.nil _) ?_
   have h1:=ints_get a i hlt
   rw [firstAt_hit (i:=i) (by omega) (by rw [h1];exact hq) hno]
  ·
   rename_i hlt
   have hq:=hb
   refine ⟨i+1,⟨by omega,fun j hj hji=> ?_⟩,by omega,?_,?_⟩
   ·
    by_cases e:j=i
    ·
     subst e
     rw [ints_get a j hlt];exact hq
    ·
     exact hno j hj (by omega)
   ·
    exact sB
   ·
    exact mS
  ·
   have hge:=hb
   refine ret1 (.inl rfl) Tryz.results274 rfl (MSub.nil _) ?_
   rw [firstAt_miss fun j hj=>hno j hj (by omega)]
set_option maxRecDepth 10000 in
theorem IndexFunc_at (f:FuncId) [Callable Tryz.prog f] (q:Int→Bool) (hf: ∀ c w,Pure Tryz.prog f [.int .i32 c] w (.bool (q c))) (a:ByteArray) (ha:a.size≤1000000) (hasc: ∀ i (h:i<a.size),(a[i]'h).toNat<128) (w:World):
  Pure Tryz.prog 230 [.string a,.func (.func f) #[] #[]] w (.int .i64 (firstAt q (ints a))):=by
 refine fn_at Tryz.func230 rfl Tryz.ntmps230 rfl ?_
 repeat' (first|((with_reducible apply wl_callp);exact rfl;exact rfl;(intro w hm;exact indexFunc_at f q hf a ha hasc w))|refine sT ?_|refine sM fun _=> ?_|(refine sC ?_ ?_<;>intro hb<;>try omega)|fail)
 all_goals ((refine rT1 ?_);rfl)
def marked (a:ByteArray):ByteArray:=⟨(((ints a).map markB).map fun n=>UInt8.ofNat n.toNat).toArray⟩
theorem marked_size (a:ByteArray):(marked a).size=a.size:=by
 have:(marked a).size=((ints a).map markB).length:=by simp [marked,ByteArray.size]
 rw [this];simp [ints_length]
theorem marked_ints (a:ByteArray):ints (marked a)=(ints a).map markB:=by
 simp only [ints,marked,List.map_map]
 congr 1
 funext c
 simp only [Function.comp,markB]
 split<;>simp
theorem firstAt_neg (q:Int→Bool) (l:List Int):decide (firstAt q l<0)=l.all fun c=> !q c:=by
 unfold firstAt
 cases h:l.findIdx? q with
 |none=>
  rw [List.findIdx?_eq_none_iff] at h
  rw [Bool.eq_iff_iff]
  simpa using h
 |some i=>
  rw [List.findIdx?_eq_some_iff_getElem] at h
  obtain ⟨h1,h2,_⟩:=h
  rw [Bool.eq_iff_iff]
  simp only [decide_eq_true_eq,List.all_eq_true]
  constructor
  ·
   intro h;omega
  ·
   intro h
   have:=h _ (List.getElem_mem h1)
   rw [h2] at this
   cases this
theorem plain_marks (a:ByteArray):decide (firstAt (fun c=>decide (c=0)) (ints (marked a))<0)=plainB a:=by
 rw [firstAt_neg,marked_ints]
 simp only [ints,List.all_map,plainB]
 congr 1
 funext c
 have e:(decide (markB (c.toNat:Int)=0))= !(decide (32≤c.toNat) && decide (c.toNat≤126)):=by
  rw [Bool.eq_iff_iff]
  by_cases h:(c.toNat:Int)<32∨126<(c.toNat:Int)
  ·
   simp only [markB,if_pos h];simp;omega
  ·
   simp only [markB,if_neg h];simp;omega
 simp only [Function.comp,e,Bool.not_not]
theorem marked_ascii (a:ByteArray): ∀ i (h:i<(marked a).size),((marked a)[i]'h).toNat<128:=by
 intro i h
 have h1:=ints_get (marked a) i h
 have h2:((marked a)[i].toNat:Int)=markB ((ints a)[i]'(by rw [ints_length,← marked_size];exact h)):=by
  rw [← h1]
  simp [marked_ints]
 have h3: ∀ x,markB x=0∨markB x=32:=fun x=>by unfold markB;split<;>simp
 rcases h3 ((ints a)[i]'(by rw [ints_length,← marked_size];exact h)) with h4|h4<;>omega
set_option maxRecDepth 10000 in
theorem printable_at (a:ByteArray) (ha:a.size≤1000000) (w:World):Pure Tryz.prog 191 [.string a] w (.bool (plainB a)):=by
 refine fn_at Tryz.func191 rfl Tryz.ntmps191 rfl ?_
 repeat' (first|((with_reducible apply wl_call (R:=fun v H=> ∃ gb cap,v= .slice (some ⟨gb,0,none⟩) a.size cap∧H= [.byt gb 5 a.size cap (((ints a).map markB).map (Value.int .u8))]));exact rfl;exact rfl;(intro w hm;exact changed_at 232 markB mark_at a ha w);(rintro v H' ⟨gb,cap,rfl,rfl⟩))|((with_reducible apply wl_v);exact rfl;(with_reducible apply v_ofBytes);exact rfl;exact .hd;simp [ints_length])|((with_reducible apply wl_callp);exact rfl;exact rfl;(intro w hm;exact IndexFunc_at 233 (fun c=>decide (c=0)) isZero_at (marked a) (by rw [marked_size];exact ha) (marked_ascii a) w))|refine sT ?_|refine sM fun _=> ?_|(refine sC ?_ ?_<;>intro hb<;>try omega)|fail)
 all_goals ((refine rT1 ?_);rw [← plain_marks])
set_option maxRecDepth 10000 in
theorem glyph_at (a:ByteArray) (w:World):Pure Tryz.prog 150 [.string a] w (.int .i64 (glyphE a)):=by
 refine fn_at Tryz.func150 rfl Tryz.ntmps150 rfl ?_
 repeat' (first|((with_reducible apply wl_callp);exact rfl;exact rfl;(intro w hm;exact printable_at a (by omega) w))|refine sT ?_|refine sM fun _=> ?_|(refine sC ?_ ?_<;>intro hb<;>try omega)|fail)
 ·
  (refine rT1 ?_)
  have:decide (256<a.size)=true:=by simp;omega
  simp [glyphE,this]
 all_goals
  (refine rT1 ?_)
  have h256:decide (256<a.size)=false:=by simp;omega
  simp only [glyphE,h256,hb,cond_true,cond_false]
set_option maxRecDepth 10000 in
theorem val_at (v:Vl) (w:World):Pure Tryz.prog 275 [.agg (encV v).toArray] w (.int .i64 (valE v)):=by
 refine fn_at Tryz.func275 rfl Tryz.ntmps275 rfl ?_
 repeat' (first|((with_reducible apply wl_callp);exact rfl;exact rfl;(intro w hm;exact glyph_at v.text w))|((with_reducible apply wl_v);exact rfl;exact v_eqlV (b:=⟨0,0,emptyB⟩) rfl rfl)|refine sT ?_|refine sM fun _=> ?_|(refine sC ?_ ?_<;>intro hb<;>try omega)|fail)
 all_goals ((refine rT1 ?_);((try simp only [← Int.not_lt] at*);simp_all [valE,valOk,eqV,emptyB, -Int.not_lt, -Int.not_le,← Int.not_lt]);try (by_cases h:v.num=0<;>simp_all))
end Go.SL
namespace Go.SL
open Go Go.Proofs
attribute [local irreducible] W WL WQ WG WA VOp thn blk cutP retP FnAt FnIn
theorem digC_yes {c:Int} (h1:48≤c) (h2:c≤57):digC c=true:=by simp [digC,h1,h2]
theorem digC_lt {c:Int} (h:c<48):digC c=false:=by simp [digC];omega
theorem digC_gt {c:Int} (h:57<c):digC c=false:=by simp [digC];omega
set_option maxRecDepth 10000 in
theorem digits_at (a:ByteArray) (ha:a.size≤1000000) (w:World):Pure Tryz.prog 241 [.string a] w (.int .i64 (runL digC (ints a):Int)):=by
 refine fn_at Tryz.func241 rfl Tryz.ntmps241 rfl ?_
 have hl:=ints_length a
 repeat' (first|refine sT ?_|refine sT2 ?_|refine sM fun _=> ?_|(refine sC ?_ ?_<;>intro hb<;>try omega)|exact cT|fail)
 refine w_loop (fun i:Nat=> [(0,.string a),(5,.int .i64 (a.size:Int)),(6,.int .i64 (i:Int))]) (fun _=> []) (fun i=>i≤a.size∧runL digC (ints a)=i+runL digC ((ints a).drop i)) (fun i=>a.size - i) 0 ⟨by omega,by simp⟩ sB mS ?_
 rintro i ⟨hi,hr⟩
 by_cases hlt:i<a.size
 ·
  have hs1:=bat_drop hlt
  rw [hs1] at hr
  simp only [runL] at hr
  repeat' (first|refine sT ?_|refine sT2 ?_|refine sN ?_|refine sM fun _=> ?_|(refine sC ?_ ?_<;>intro hb<;>try omega)|exact cT|fail)
  ·
   (refine rT1 ?_)
   rw [hr,digC_lt hb];simp
  ·
   (refine rT1 ?_)
   rw [hr,digC_gt hb];simp
  ·
   rename_i h1
   rw [digC_yes h1 hb] at hr
   exact ⟨i+1,⟨hlt,by rw [hr];simp;omega⟩,by omega,by exact sB,by exact mS⟩
 ·
  have e:i=a.size:=by omega
  subst e
  repeat' (first|refine sT ?_|refine sT2 ?_|refine sM fun _=> ?_|(refine sC ?_ ?_<;>intro hb<;>try omega)|exact cT|fail)
  (refine rT1 ?_)
  rw [hr,List.drop_of_length_le (by omega)];simp [runL]
def signedE (hi lo:Int) (neg:Bool):Int × Bool:=if hi≠0∨mostI<lo then (0,false) else (if neg then -lo else lo,true)
theorem wrap_u64_i64 {v:Int} (h1:0≤v) (h2:v≤mostI):IntKind.i64.wrap v=v:=I64.wrap ⟨by omega,by simpa [mostI] using h2⟩
set_option maxRecDepth 10000 in
theorem signed_at (hi lo:Int) (neg:Bool) (h0:0≤lo) (w:World):Pure Tryz.prog 242 [.int .u64 hi,.int .u64 lo,.bool neg] w (.tuple #[.int .i64 (signedE hi lo neg).1,.bool (signedE hi lo neg).2]):=by
 refine fn_at Tryz.func242 rfl Tryz.ntmps242 rfl ?_
 by_cases hh:hi=0
 ·
  by_cases hl:lo≤mostI
  ·
   have hw:=wrap_u64_i64 h0 hl
   have hm:mostI=9223372036854775807:=rfl
   have e:signedE hi lo neg=(if neg then -lo else lo,true):=by rw [signedE,if_neg (by omega)]
   rw [e]
   subst hh
   cases neg
   ·
    repeat' (first|((with_reducible apply wl_v);exact rfl;(with_reducible apply v_conv_to);exact rfl;exact hw)|refine sT ?_|refine sM fun _=> ?_|(refine sC ?_ ?_<;>intro hb<;>try omega)|exact cT|fail)
    all_goals first|(exfalso;omega)|((refine rT2 ?_);rfl)
   ·
    repeat' (first|((with_reducible apply wl_v);exact rfl;(with_reducible apply v_conv_to);exact rfl;exact hw)|((with_reducible apply wl_v);exact rfl;(with_reducible apply v_neg);exact rfl;exact ⟨by omega,by omega⟩)|refine sT ?_|refine sM fun _=> ?_|(refine sC ?_ ?_<;>intro hb<;>try omega)|exact cT|fail)
    all_goals first|(exfalso;omega)|((refine rT2 ?_);rfl)
  ·
   have hm:mostI=9223372036854775807:=rfl
   have e:signedE hi lo neg=(0,false):=by rw [signedE,if_pos (by omega)]
   rw [e]
   repeat' (first|refine sT ?_|refine sM fun _=> ?_|(refine sC ?_ ?_<;>intro hb<;>try omega)|exact cT|fail)
   all_goals first|(exfalso;omega)|((refine rT2 ?_);rfl)
 ·
  have e:signedE hi lo neg=(0,false):=by rw [signedE,if_pos (.inl hh)]
  rw [e]
  repeat' (first|refine sT ?_|refine sM fun _=> ?_|(refine sC ?_ ?_<;>intro hb<;>try omega)|exact cT|fail)
  all_goals first|(exfalso;omega)|((refine rT2 ?_);rfl)
theorem signed_one (u:Int) (neg:Bool) (h0:0≤u) (h1:u≤mostI) (w:World):Pure Tryz.prog 242 [.int .u64 0,.int .u64 u,.bool neg] w (.tuple #[.int .i64 (if neg then -u else u),.bool true]):=by
 have h:=signed_at 0 u neg h0 w
 rwa [signedE,if_neg (by omega)] at h
theorem natOf_snoc: ∀ (l:List Int) (v c:Int),natOf (l++ [c]) v=10*natOf l v+(c - 48)
 | [],_,_=>rfl
 |d::r,v,c=>by simp only [List.cons_append,natOf];exact natOf_snoc r _ c
theorem natOf_ge: ∀ (l:List Int) {v:Int},(∀ c∈l,48≤c)→0≤v→v≤natOf l v
 | [],_,_,_=>Int.le_refl _
 |c::r,v,h,h0=>by
  have h1:=h c List.mem_cons_self
  have:=natOf_ge r (v:=10*v+(c - 48)) (fun d hd=>h d (List.mem_cons_of_mem _ hd)) (by omega)
  simp only [natOf];omega
theorem natOf_append (l m:List Int) (v:Int):natOf (l++m) v=natOf m (natOf l v):=by
 induction l generalizing v with
 |nil=>rfl
 |cons c l ih=>simp only [List.cons_append,natOf,ih]
def decL (l0:List Int):Int × Int:=
 let neg:=decide (l0.head? =some 45)
 let l:=if neg then l0.tail else l0
 let n:=runL digC l
 let rest:=l.drop n
 let frac:=decide (1<rest.length) && (decide (rest.head? =some 46) && decide (runL digC rest.tail+1=rest.length))
 let p5:=(if frac then rest.tail else [])++ [48,48,48,48,48]
 if n=0∨(frac=false∧rest≠ []) then (0,4)
 else
  let v:=natOf (l.take n++p5.take 4) 0+(if 53≤p5.getD 4 0 then 1 else 0)
  if mostI<v then (0,3) else (if neg then -v else v,0)
theorem head_bat (a:ByteArray) (c:Int):((ints a).head? =some c)↔(0<a.size∧bat a 0=c):=by
 by_cases h:0<a.size
 ·
  have:=bat_drop h
  rw [List.drop_zero] at this
  rw [this];simp [h]
 ·
  have:ints a= []:=by rw [← List.length_eq_zero_iff,ints_length];omega
  rw [this];simp;omega
set_option maxRecDepth 10000 in
theorem decParse_at (a:ByteArray) (ha:a.size≤1000000) (w:World):Pure Tryz.prog 201 [.string a] w (.tuple #[.int .i64 (decL (ints a)).1,.int .i64 (decL (ints a)).2]):=by
 refine fn_at Tryz.func201 rfl Tryz.ntmps201 rfl ?_
 have hl:=ints_length a
 generalize hneg:decide ((ints a).head? =some 45)=neg
 generalize hls:(if neg then (ints a).tail else ints a)=ls
 have hb0:=head_bat a 45
 repeat' (first|(refine w_cutG (id:=1) (ι:=Bool) (fun b=> [(0,.string a),(4,.bool b)]) (fun _=> []) (fun b=>neg=b) ?_ ?_)|refine sT ?_|refine sT2 ?_|refine sM fun _=> ?_|(refine sC ?_ ?_<;>intro hb<;>try omega)|exact cT|fail)
 ·
  (apply cut_n;rotate_left 1;exact sB;exact mS)
  rw [← hneg,decide_eq_decide,hb0]
  simp;omega
 ·
  (apply cut_n;rotate_left 1;exact sB;exact mS)
  rw [← hneg,decide_eq_false_iff_not,hb0]
  omega
 rintro _ rfl
 repeat' (first|(refine w_cutR (id:=2) (ι:=ByteArray) (fun b=> [(0,.string b),(4,.bool neg)]) (fun _=> []) (fun b=>ints b=ls∧b.size≤a.size) ?_ ?_)|refine sT ?_|refine sT2 ?_|refine sM fun _=> ?_|(refine sC ?_ ?_<;>intro hb<;>try omega)|exact cT|fail)
 ·
  have h1:0<a.size:=(hb0.1 (of_decide_eq_true (hneg.trans hb))).1
  repeat' (first|refine sT ?_|refine sT2 ?_|refine sM fun _=> ?_|(refine sC ?_ ?_<;>intro hb<;>try omega)|exact cT|fail)
  (apply cut_n;rotate_left 1;exact sB;exact mS)
  rw [← hls,hb,ints_from,sub_size _ (Nat.le_refl _)]
  simp
 ·
  (apply cut_n;rotate_left 1;exact sB;exact mS)
  rw [← hls,hb]
  simp
 rintro b ⟨hbl,hbs⟩
 have hlb:=ints_length b
 rw [hbl] at hlb
 have hdl:=runL_le digC ls
 generalize hn:runL digC ls=n at hdl
 generalize hrest:ls.drop n=rest
 generalize hfr:(decide (1<rest.length) && (decide (rest.head? =some 46) && decide (runL digC rest.tail+1=rest.length)))=fr
 have hcd:=digits_at b (by omega)
 rw [hbl,hn] at hcd
 have hb1:=head_bat (sub b n b.size) 46
 have hs1:=sub_size b (lo:=n) (Nat.le_refl b.size)
 have hr1:ints (sub b n b.size)=rest:=by rw [ints_from,hbl,hrest]
 generalize hz:sub b n b.size=z at hb1 hs1 hr1
 have hrl:rest.length=z.size:=by rw [← hr1,ints_length]
 have e1:ints (sub z 1 z.size)=rest.tail:=by rw [ints_from,hr1,List.drop_one]
 rw [hr1] at hb1
 have hcd2:=fun h=>digits_at (sub z 1 z.size) h
 repeat' (first|(refine w_cutG (id:=7) (ι:=Bool) (fun x=> [(4,.bool neg),(5,.int .i64 (n:Int)),(6,.string (sub b 0 n)),(7,.string z),(8,.string emptyB),(50,.bool x)]) (fun _=> []) (fun x=>fr=x) ?_ ?_)|((with_reducible apply wl_callp);exact rfl;exact rfl;(intro w hm;exact hcd w))|((with_reducible apply wl_callp);exact rfl;exact rfl;(intro w hm;exact hcd2 (by rw [sub_size _ (Nat.le_refl _)];omega) w))|(rw [hz])|refine sT ?_|refine sQ ?_|refine sT2 ?_|refine sQ2 ?_|refine sN ?_|refine sNQ ?_|refine sD ?_|refine sM fun _=> ?_|(refine sC ?_ ?_<;>intro hb<;>try omega)|(refine sCQ ?_ ?_<;>intro hb<;>try omega)|exact cT|fail)
 ·
  (apply cut_n;rotate_left 1;exact sB;exact mS)
  rename_i h1
  rw [e1,← hfr,decide_eq_true (by omega:1<rest.length),decide_eq_true (hb1.2 ⟨by omega,hb⟩)]
  simp only [Bool.true_and,decide_eq_decide]
  omega
 ·
  (apply cut_n;rotate_left 1;exact sB;exact mS)
  rw [← hfr,decide_eq_false (fun h=>hb (hb1.1 h).2)]
  simp
 ·
  (apply cut_n;rotate_left 1;exact sB;exact mS)
  rw [← hfr,decide_eq_false (by omega)]
  rfl
 rintro _ rfl
 have hf1:fr=true→1≤z.size:=fun h=>by
  rw [← hfr] at h
  simp at h
  omega
 have hf2:fr=false→((z=emptyB)↔rest= []):=fun _=>by rw [← ints_nil,hr1]
 have hbl2:b.size≤1000000:=by omega
 refine w_cut' (ι:=ByteArray × ByteArray) (fun x=> [(4,.bool neg),(5,.int .i64 (n:Int)),(6,.string (sub b 0 n)),(7,.string x.1),(8,.string x.2)]) (fun _=> []) (fun x=>ints x.2=(if fr then rest.tail else [])∧((x.1=emptyB)↔(fr=true∨rest= []))∧x.2.size≤a.size) ?_ ?_
 ·
  cases fr
  ·
   repeat' (first|refine sT ?_|refine sT2 ?_|refine sM fun _=> ?_|(refine sC ?_ ?_<;>intro hb<;>try omega)|exact cT|fail)
   refine cut_n ((z,emptyB)) ?_ sB mS
   exact ⟨rfl,by rw [hf2 rfl];simp,Nat.zero_le _⟩
  ·
   have h1:=hf1 rfl
   repeat' (first|refine sT ?_|refine sT2 ?_|refine sM fun _=> ?_|(refine sC ?_ ?_<;>intro hb<;>try omega)|exact cT|fail)
   refine cut_n ((emptyB,sub z 1 z.size)) ?_ sB mS
   exact ⟨by rw [e1];rfl,by simp [emptyB],by rw [sub_size _ (Nat.le_refl _)];omega⟩
 rintro ⟨z',pl⟩ ⟨h1,h2,h3⟩
 dsimp only at*
 generalize hp5:(if fr then rest.tail else [])++ [48,48,48,48,48]=p5
 have hpl:ints (pl++⟨#[48,48,48,48,48]⟩)=p5:=by rw [ints_append,h1,← hp5];rfl
 have hpz:(pl++⟨#[48,48,48,48,48]⟩:ByteArray).size=pl.size+5:=by rw [ByteArray.size_append];rfl
 generalize hqd:(pl++⟨#[48,48,48,48,48]⟩:ByteArray)=q at hpl hpz
 have hres:decL (ints a)=if n=0∨(fr=false∧rest≠ []) then (0,4) else if mostI<natOf (ls.take n++p5.take 4) 0+(if 53≤p5.getD 4 0 then 1 else 0) then (0,3) else (if neg then -(natOf (ls.take n++p5.take 4) 0+(if 53≤p5.getD 4 0 then 1 else 0)) else natOf (ls.take n++p5.take 4) 0+(if 53≤p5.getD 4 0 then 1 else 0),0):=by
  unfold decL
  rw [hneg]
  dsimp only
  rw [hls,hn,hrest,hfr,hp5]
 rw [hres]
 by_cases herr:n=0∨(fr=false∧rest≠ [])
 ·
  rw [if_pos herr]
  repeat' (first|refine sT ?_|refine sT2 ?_|refine sM fun _=> ?_|(refine sC ?_ ?_<;>intro hb<;>try omega)|exact cT|fail)
  ·
   (refine rT2 ?_)
   rfl
  ·
   (refine rT2 ?_)
   rfl
  ·
   exfalso
   have hz' :z' =emptyB:=Decidable.not_not.1 hb
   have:=h2.1 hz'
   rcases herr with h|⟨h,h'⟩
   ·
    omega
   ·
    rcases this with h4|h4
    ·
     rw [h] at h4;cases h4
    ·
     exact h' h4
 ·
  rw [if_neg herr]
  generalize hL:ls.take n++p5.take 4=L
  have hp5l:p5.length=pl.size+5:=by rw [← hpl,ints_length,hpz]
  have hy:ints (sub b 0 n++sub q 0 4)=L:=by rw [ints_append,ints_to,ints_to,hbl,hpl,hL]
  have hyz:(sub b 0 n++sub q 0 4:ByteArray).size=n+4:=by rw [ByteArray.size_append,sub_size _ (by omega),sub_size _ (by omega)];omega
  generalize hyd:(sub b 0 n++sub q 0 4:ByteArray)=y at hy hyz
  have hyl:L.length=y.size:=by rw [← hy,ints_length]
  have hdig: ∀ c∈L,48≤c∧c≤57:=by
   have hall: ∀ (l:List Int) (c:Int),c∈l.take (runL digC l)→48≤c∧c≤57:=fun l c hc=>by
    obtain ⟨j,hj,rfl⟩:=List.getElem_of_mem hc
    simp only [List.length_take] at hj
    have h:=runL_all (p:=digC) l j (l[j]'(by omega)) (by omega) (List.getElem?_eq_getElem _)
    simp only [List.getElem_take]
    simpa [digC] using h
   intro c hc
   rw [← hL] at hc
   rcases List.mem_append.1 hc with hc|hc
   ·
    rw [← hn] at hc;exact hall ls c hc
   ·
    have hc:=List.mem_of_mem_take hc
    rw [← hp5] at hc
    rcases List.mem_append.1 hc with hc|hc
    ·
     cases hc1:fr
     ·
      rw [hc1] at hc;cases hc
     ·
      rw [hc1] at hc
      simp only [if_true] at hc
      have h7:runL digC rest.tail=rest.tail.length:=by
       rw [hc1] at hfr
       simp only [Bool.and_eq_true,decide_eq_true_eq] at hfr
       rw [List.length_tail];omega
      have:=hall rest.tail c (by rw [h7,List.take_length];exact hc)
      exact this
    ·
     simp at hc;omega
  have hq4:bat q 4=p5.getD 4 0:=by rw [bat,hpl]
  have hm0:mostI=9223372036854775807:=rfl
  repeat' (first|((with_reducible apply wl_v (d:=60));exact rfl;(with_reducible apply v_adds_to);exact rfl;exact rfl;exact hqd;(show pl.size+5≤_;omega))|((with_reducible apply wl_v (d:=64));exact rfl;(with_reducible apply v_adds_to);exact rfl;exact rfl;exact hyd;(rw [sub_size _ (by omega),sub_size _ (by omega)];omega))|((with_reducible apply wl_toBytes);exact rfl;exact rfl;intro gb cap)|refine sT ?_|refine sT2 ?_|refine sM fun _=> ?_|(refine sC ?_ ?_<;>intro hb<;>try omega)|exact cT|fail)
  ·
   exfalso
   refine herr (.inr ?_)
   have h4: ¬ (fr=true∨rest= []):=fun h=>hb (h2.2 h)
   cases hc:fr
   ·
    exact ⟨rfl,fun h=>h4 (.inr h)⟩
   ·
    exact absurd (.inl hc) h4
  have hup: ∀ i,i≤L.length→mostI<natOf (L.take i) 0→mostI<natOf L 0:=fun i hi h=>by
   have e:L=L.take i++L.drop i:=(List.take_append_drop i L).symm
   rw [e,natOf_append]
   have h0:0≤natOf (L.take i) 0:=natOf_ge _ (fun c hc=>(hdig c (List.mem_of_mem_take hc)).1) (Int.le_refl _)
   have:=natOf_ge (L.drop i) (v:=natOf (L.take i) 0) (fun c hc=>(hdig c (List.mem_of_mem_drop hc)).1) h0
   omega
  refine w_loopK [4,8,65,66] rfl (fun x:Nat × Int × Bool=> [(9,.int .u64 x.2.1),(10,.bool x.2.2),(67,.int .i64 (x.1:Int))]) (fun _=> [.byt gb 5 y.size cap (bytesV y)]) (fun x=>x.1≤L.length∧0≤x.2.1∧x.2.1<18446744073709551616∧(x.2.2=false→x.2.1=natOf (L.take x.1) 0∧x.2.1≤mostI)∧(x.2.2=true→mostI<natOf (L.take x.1) 0)) (fun x=>L.length - x.1) (0,0,false) ⟨Nat.zero_le _,Int.le_refl _,by decide,fun _=>⟨rfl,by decide⟩,fun h=>by cases h⟩ sB mS ?_
  rintro ⟨i,v,gr⟩ ⟨hi,hv0,hv1,hg0,hg1⟩
  dsimp only at hi hv0 hv1 hg0 hg1 ⊢
  by_cases hlt:i<L.length
  ·
   have hiy:i<y.size:=by omega
   have hge:L[i]? =some L[i]:=List.getElem?_eq_getElem hlt
   have hci:=hdig L[i] (List.getElem_mem hlt)
   have hsn:natOf (L.take (i+1)) 0=10*natOf (L.take i) 0+(L[i] - 48):=by rw [List.take_succ_eq_append_getElem hlt,natOf_snoc]
   generalize L[i]=c at hge hci hsn
   have hget:(bytesV y)[0+i*1]? =some (.int .u8 c):=by rw [bytesV_eq,hy,List.getElem?_map,show 0+i*1=i by omega,hge];rfl
   have hwc:IntKind.u8.wrap (c - 48)=c - 48:=wrap_u8 (by omega) (by omega)
   have hwc2:IntKind.u64.wrap (c - 48)=c - 48:=by simp [IntKind.wrap,IntKind.bits,IntKind.signed];omega
   obtain ⟨v',hadd,hv2,hv3,hv4⟩: ∃ v',IntKind.u64.wrap (IntKind.u64.wrap (10*v)+(c - 48))=v' ∧0≤v' ∧v' <18446744073709551616∧(v≤922337203685477580→v' =10*v+(c - 48)):=by
    refine ⟨_,rfl,?_⟩
    simp only [IntKind.wrap,IntKind.bits,IntKind.signed]
    simp
    omega
   have hn0:0≤natOf (L.take i) 0:=natOf_ge _ (fun c hc=>(hdig c (List.mem_of_mem_take hc)).1) (Int.le_refl _)
   cases gr
   ·
    obtain ⟨hg2,hg3⟩:=hg0 rfl
    repeat' (first|((with_reducible apply wl_v);exact rfl;(with_reducible apply v_indexAddr);exact rfl;exact rfl;exact hiy)|((with_reducible apply wl_v);exact rfl;(with_reducible apply v_load_byt);exact rfl;exact .hd;exact hget)|((with_reducible apply wl_v (d:=74));exact rfl;(with_reducible apply v_mulw);exact rfl;exact rfl)|((with_reducible apply wl_v (d:=76));exact rfl;(with_reducible apply v_subw_id);exact rfl;exact rfl;exact hwc)|((with_reducible apply wl_v (d:=77));exact rfl;(with_reducible apply v_conv_to);exact rfl;exact hwc2)|((with_reducible apply wl_v (d:=78));exact rfl;(with_reducible apply v_addw_id);exact rfl;exact rfl;exact hadd)|refine sT ?_|refine sT2 ?_|refine sN ?_|refine sM fun _=> ?_|(refine sC ?_ ?_<;>intro hb<;>try omega)|exact cT|fail)
    ·
     refine ⟨(i+1,v',true),?_,(by first|omega|(dsimp only;omega)),sB,sB,mS⟩
     exact ⟨hlt,hv2,hv3,(fun h=>by cases h),fun _=>by dsimp only;omega⟩
    ·
     have h5:=hv4 (by omega)
     refine ⟨(i+1,v',decide (mostI<v')),⟨hlt,hv2,hv3,fun h=> ?_,fun h=> ?_⟩,(by dsimp only;omega),sB,sB,mS⟩
     ·
      have h6:=of_decide_eq_false h
      exact ⟨by dsimp only;omega,by dsimp only;omega⟩
     ·
      have h6:=of_decide_eq_true h
      dsimp only;omega
   ·
    have hg2:=hg1 rfl
    repeat' (first|((with_reducible apply wl_v);exact rfl;(with_reducible apply v_indexAddr);exact rfl;exact rfl;exact hiy)|((with_reducible apply wl_v);exact rfl;(with_reducible apply v_load_byt);exact rfl;exact .hd;exact hget)|((with_reducible apply wl_v (d:=74));exact rfl;(with_reducible apply v_mulw);exact rfl;exact rfl)|((with_reducible apply wl_v (d:=76));exact rfl;(with_reducible apply v_subw_id);exact rfl;exact rfl;exact hwc)|((with_reducible apply wl_v (d:=77));exact rfl;(with_reducible apply v_conv_to);exact rfl;exact hwc2)|((with_reducible apply wl_v (d:=78));exact rfl;(with_reducible apply v_addw_id);exact rfl;exact rfl;exact hadd)|refine sT ?_|refine sT2 ?_|refine sN ?_|refine sM fun _=> ?_|(refine sC ?_ ?_<;>intro hb<;>try omega)|exact cT|fail)
    all_goals
     refine ⟨(i+1,v',true),?_,(by first|omega|(dsimp only;omega)),sB,sB,mS⟩
     exact ⟨hlt,hv2,hv3,(fun h=>by cases h),fun _=>by dsimp only;omega⟩
  ·
   have e:i=L.length:=by omega
   subst e
   rw [List.take_of_length_le (Nat.le_refl _)] at hg0 hg1
   generalize natOf L 0=N at hg0 hg1 hup ⊢
   have hadd:v≤mostI→IntKind.u64.wrap (v+1)=v+1:=fun h=>by simp [IntKind.wrap,IntKind.bits,IntKind.signed];omega
   by_cases h5:53≤p5.getD 4 0
   ·
    rw [if_pos h5]
    cases gr
    ·
     obtain ⟨hg2,hg3⟩:=hg0 rfl
     subst hg2
     by_cases h6:mostI<v+1
     ·
      rw [if_pos h6]
      repeat' (first|((with_reducible apply wl_v (d:=89));exact rfl;(with_reducible apply v_addw_id);exact rfl;exact rfl;exact hadd hg3)|refine sT ?_|refine sT2 ?_|refine sM fun _=> ?_|(refine sC ?_ ?_<;>intro hb<;>try omega)|exact cT|fail)
      all_goals first|(exfalso;omega)|((refine rT2 ?_);rfl)
     ·
      rw [if_neg h6]
      repeat' (first|((with_reducible apply wl_v (d:=89));exact rfl;(with_reducible apply v_addw_id);exact rfl;exact rfl;exact hadd hg3)|((with_reducible apply wl_callp);exact rfl;exact rfl;(intro w' hm;exact (signed_one (v+1) neg (by omega) (by omega) w')))|refine sT ?_|refine sT2 ?_|refine sM fun _=> ?_|(refine sC ?_ ?_<;>intro hb<;>try omega)|exact cT|fail)
      all_goals first|(exfalso;omega)|((refine rT2 ?_);rfl)
    ·
     rw [if_pos (by have:=hg1 rfl;omega)]
     obtain ⟨u,hu⟩: ∃ u,IntKind.u64.wrap (v+1)=u:=⟨_,rfl⟩
     repeat' (first|((with_reducible apply wl_v (d:=89));exact rfl;(with_reducible apply v_addw_id);exact rfl;exact rfl;exact hu)|refine sT ?_|refine sT2 ?_|refine sM fun _=> ?_|(refine sC ?_ ?_<;>intro hb<;>try omega)|exact cT|fail)
     all_goals first|(exfalso;omega)|((refine rT2 ?_);rfl)
   ·
    rw [if_neg h5,Int.add_zero]
    cases gr
    ·
     obtain ⟨hg2,hg3⟩:=hg0 rfl
     subst hg2
     rw [if_neg (by omega)]
     repeat' (first|((with_reducible apply wl_callp);exact rfl;exact rfl;(intro w' hm;exact (signed_one v neg (by omega) hg3 w')))|refine sT ?_|refine sT2 ?_|refine sM fun _=> ?_|(refine sC ?_ ?_<;>intro hb<;>try omega)|exact cT|fail)
     all_goals first|(exfalso;omega)|((refine rT2 ?_);rfl)
    ·
     rw [if_pos (hg1 rfl)]
     repeat' (first|refine sT ?_|refine sT2 ?_|refine sM fun _=> ?_|(refine sC ?_ ?_<;>intro hb<;>try omega)|exact cT|fail)
     all_goals first|(exfalso;omega)|((refine rT2 ?_);rfl)
end Go.SL
namespace Go.SL
open Go Go.Proofs
attribute [local irreducible] W WL WQ WG VOp thn blk retP FnAt FnIn
set_option maxRecDepth 10000 in
theorem valid_at (c r:Int) (w:World):Pure Tryz.prog 64 [.agg #[.int .i64 c,.int .i64 r]] w (.bool (valid c r)):=by
 refine fn_at Tryz.func64 rfl Tryz.ntmps64 rfl ?_
 repeat' (first|refine sT ?_|refine sM fun _=> ?_|(refine sC ?_ ?_<;>intro hb<;>try omega)|fail)
 all_goals ((refine rT1 ?_);((try simp only [← Int.not_lt] at*);simp_all [valid, -Int.not_lt, -Int.not_le,← Int.not_lt]))
set_option maxRecDepth 10000 in
theorem corners_at (r:Rct) (w:World):Pure Tryz.prog 142 [.agg (encR r).toArray] w (.tuple #[.agg #[.int .i64 r.c1,.int .i64 r.r1],.agg #[.int .i64 r.c2,.int .i64 r.r2]]):=by
 refine fn_at Tryz.func142 rfl Tryz.ntmps142 rfl ?_
 repeat' (first|refine sT ?_|refine sM fun _=> ?_|(refine sC ?_ ?_<;>intro hb<;>try omega)|fail)
 rename_i g1 g2 g3
 refine w_drawG (fun D=> [.box g2 51 [.int .i64 (bif D 10 then r.c1 else 0),.int .i64 (bif D 10 then r.r1 else 0)],.box g3 51 [.int .i64 (bif D 11 then r.c2 else 0),.int .i64 (bif D 11 then r.r2 else 0)],.box g1 33 (encR r)]) (by kernel_rfl) (by kernel_rfl) (.pick (.tl .hd) (.pick .hd (.refl _))) ?_
 repeat' (first|refine sT ?_|refine sG ?_|refine sM fun _=> ?_|(refine sC ?_ ?_<;>intro hb<;>try omega)|fail)
 refine wg_put _ _ rfl rfl (fun D=> .tl .hd) rfl rfl rfl (fun _=>Nat.le_refl _) (fun D ht=> .pick (.tl .hd) (.pick .hd (.refl _))) ?_
 refine wg_nil fun D hD=> ?_
 have h10:=hD 10 (by decide)
 have h11:=hD 11 (by decide)
 simp only [h10,h11,cond_true]
 repeat' (first|refine sT ?_|refine sM fun _=> ?_|(refine sC ?_ ?_<;>intro hb<;>try omega)|fail)
 refine retcc (.inl rfl) Tryz.results142 rfl .hd rfl rfl (.tl .hd) rfl (MSub.nil _) ?_
 rfl
set_option maxRecDepth 10000 in
theorem rect_at (r:Rct) (w:World):Pure Tryz.prog 94 [.agg (encR r).toArray] w (.int .i64 (rectE r)):=by
 refine fn_at Tryz.func94 rfl Tryz.ntmps94 rfl ?_
 repeat' (first|((with_reducible apply wl_callp);exact rfl;exact rfl;(intro w hm;exact corners_at r w))|((with_reducible apply wl_callp);exact rfl;exact rfl;(intro w hm;exact valid_at r.c1 r.r1 w))|((with_reducible apply wl_callp);exact rfl;exact rfl;(intro w hm;exact valid_at r.c2 r.r2 w))|refine sT ?_|refine sM fun _=> ?_|(refine sC ?_ ?_<;>intro hb<;>try omega)|fail)
 all_goals ((refine rT1 ?_);((try simp only [← Int.not_lt] at*);simp_all [rectE,rectOk, -Int.not_lt, -Int.not_le,← Int.not_lt]))
set_option maxRecDepth 10000 in
theorem known_at (fn:Int) (w:World):Pure Tryz.prog 347 [.int .u8 fn] w (.bool (knownF fn)):=by
 refine fn_at Tryz.func347 rfl Tryz.ntmps347 rfl ?_
 repeat' (first|refine sT ?_|refine sM fun _=> ?_|(refine sC ?_ ?_<;>intro hb<;>try omega)|fail)
 all_goals ((refine rT1 ?_);((try simp only [← Int.not_lt] at*);simp_all [knownF, -Int.not_lt, -Int.not_le,← Int.not_lt]))
set_option maxRecDepth 10000 in
theorem released_at (fn:Int) (w:World):Pure Tryz.prog 329 [.int .u8 fn] w (.bool (releasedF fn)):=by
 refine fn_at Tryz.func329 rfl Tryz.ntmps329 rfl ?_
 repeat' (first|refine sT ?_|refine sM fun _=> ?_|(refine sC ?_ ?_<;>intro hb<;>try omega)|fail)
 all_goals ((refine rT1 ?_);((try simp only [← Int.not_lt] at*);simp_all [releasedF, -Int.not_lt, -Int.not_le,← Int.not_lt]))
set_option maxRecDepth 10000 in
theorem below_at (n:Nd) (w:World):Pure Tryz.prog 308 [.agg (encN n).toArray] w (.int .i64 (below n)):=by
 refine fn_at Tryz.func308 rfl Tryz.ntmps308 rfl ?_
 repeat' (first|refine sT ?_|refine sM fun _=> ?_|(refine sC ?_ ?_<;>intro hb<;>try omega)|fail)
 all_goals ((refine rT1 ?_);simp_all [below])
set_option maxRecDepth 10000 in
theorem arity_at (fn:Int) (w:World):Pure Tryz.prog 327 [.int .u8 fn] w (.tuple #[.int .i64 (arity fn).1,.int .i64 (arity fn).2.1,.int .i64 (arity fn).2.2]):=by
 refine fn_at Tryz.func327 rfl Tryz.ntmps327 rfl ?_
 repeat' (first|((with_reducible apply wl_callp);exact rfl;exact rfl;(intro w hm;exact known_at fn w))|refine sT ?_|refine sM fun _=> ?_|(refine sC ?_ ?_<;>intro hb<;>try omega)|fail)
 all_goals ((refine rT3 ?_);simp_all [arity])
set_option maxRecDepth 10000 in
theorem wide_at (fn i:Int) (w:World):Pure Tryz.prog 328 [.int .u8 fn,.int .i64 i] w (.tuple #[.bool (wideF fn i).1,.int .i64 (wideF fn i).2]):=by
 refine fn_at Tryz.func328 rfl Tryz.ntmps328 rfl ?_
 repeat' (first|((with_reducible apply wl_callp);exact rfl;exact rfl;(intro w hm;exact arity_at fn w))|((with_reducible apply wl_callp);exact rfl;exact rfl;(intro w hm;exact released_at fn w))|refine sT ?_|refine sM fun _=> ?_|(refine sC ?_ ?_<;>intro hb<;>try omega)|fail)
 all_goals ((refine rT2 ?_);((try simp only [← Int.not_lt] at*);simp_all [wideF, -Int.not_lt, -Int.not_le,← Int.not_lt]))
set_option maxHeartbeats 1000000 in
theorem fields_at (n:Nd) (w:World):Pure Tryz.prog 307 [.agg (encN n).toArray] w (.int .i64 (fieldsE n)):=by
 refine fn_at Tryz.func307 rfl Tryz.ntmps307 rfl ?_
 repeat' (first|((with_reducible apply wl_callp);exact rfl;exact rfl;(intro w hm;exact val_at n.v w))|((with_reducible apply wl_callp);exact rfl;exact rfl;(intro w hm;exact rect_at n.rect w))|((with_reducible apply wl_callp);exact rfl;exact rfl;(intro w hm;exact arity_at n.fn w))|((with_reducible apply w_drawB (T:=174) (fun D=> [.int .u8 n.kind,.int .u8 0,.int .i64 0,.string emptyB,.int .i64 0,.int .i64 0,.int .i64 0,.int .i64 0,.int .i64 0,.int .u8 (bif D 5 then n.fn else 0),.int .i64 (bif D 7 then n.n else 0)]) (xs' := [.int .u8 n.kind,.int .u8 0,.int .i64 0,.string emptyB,.int .i64 0,.int .i64 0,.int .i64 0,.int .i64 0,.int .i64 0,.int .u8 n.fn,.int .i64 n.n]));kernel_rfl;kernel_rfl;(first|exact .hd|exact .tl .hd);exact rfl;(intro D hD;simp only [hD 5 (by decide),hD 7 (by decide),cond_true]))|((with_reducible apply wl_v);exact rfl;(first|((with_reducible apply v_neqN (b:=⟨n.kind,n.v,zeroR,0,0,0⟩));exact rfl;exact rfl)|((with_reducible apply v_neqN (b:=⟨n.kind,zeroV,n.rect,0,0,0⟩));exact rfl;exact rfl)|((with_reducible apply v_neqN (b:=⟨n.kind,zeroV,zeroR,0,0,0⟩));exact rfl;exact rfl)|((with_reducible apply v_neqN (b:=⟨n.kind,zeroV,zeroR,n.op,0,0⟩));exact rfl;exact rfl)|((with_reducible apply v_neqN (b:=⟨n.kind,zeroV,zeroR,0,n.fn,n.n⟩));exact rfl;exact rfl)))|refine sT ?_|refine sG ?_|refine sM fun _=> ?_|(refine sC ?_ ?_<;>intro hb<;>try omega)|fail)
 all_goals ((refine rT1 ?_);((try simp only [← Int.not_lt] at*);simp_all [fieldsE,kindOk,want,litOk,oneR, -Int.not_lt, -Int.not_le,← Int.not_lt]))
end Go.SL
namespace Go.SL
open Go Go.Proofs
attribute [local irreducible] W WL WQ WG WA VOp thn blk retP FnAt FnIn
theorem kindAt_get {L:List Nd} {i:Nat} (h:i<L.length):kindAt L i=L[i].kind:=by simp [kindAt,h]
set_option maxHeartbeats 1000000 in
theorem fits_at (L:List Nd) (n:Nd) (ps:List Pt) (tv lv:Value) (w:World) (ht:Reads w tv L.length (L.flatMap encN)) (hp:Reads w lv ps.length (ps.flatMap encP)) (hroot: ∀ p∈ps,p.root<L.length) (hlen:ps.length≤1000000):
  Pure Tryz.prog 309 [tv,.agg (encN n).toArray,lv] w (.bool (fitsFrom L n 0 ps)):=by
 obtain ⟨At,ct,rfl,ht1,ht2,ht3⟩:=ht
 obtain ⟨Al,cl,rfl,hl1,hl2,hl3⟩:=hp
 refine fn_at Tryz.func309 rfl Tryz.ntmps309 rfl ?_
 repeat' (first|refine sT ?_|refine sM fun _=> ?_|(refine sC ?_ ?_<;>intro hb<;>try omega)|fail)
 rename_i gn
 refine w_loop (fun i:Nat=> [(0,.slice At L.length ct),(4,.pointer (some ⟨gn,0,none⟩)),(11,.slice Al ps.length cl),(12,.int .i64 (ps.length:Int)),(13,.int .i64 (i:Int))])
  (fun i=> [.box gn 174 (encN n)]) (fun i=>i≤ps.length∧fitsFrom L n 0 ps=fitsFrom L n (i:Int) (ps.drop i)) (fun i=>ps.length - i) 0 ⟨by omega,rfl⟩ ?_ ?_ ?_
 ·
  exact sB
 ·
  exact mS
 ·
  rintro i ⟨hi,hrec⟩
  by_cases hlt:i<ps.length
  ·
   obtain ⟨g,o,rfl,hro⟩:=hl3 (by omega)
   have hrp:=hro.elem encP_len i hlt
   have hr0:=hroot ps[i] (List.getElem_mem hlt)
   obtain ⟨gt,ot,rfl,hrt⟩:=ht3 (by omega)
   have hrn:=hrt.elem encN_len ps[i].root hr0
   rw [List.drop_eq_getElem_cons hlt,fitsFrom,fitOne,kindAt_get hr0] at hrec
   repeat' (first|((with_reducible apply wl_v);exact rfl;(with_reducible apply v_indexAddr);exact rfl;exact rfl;first|exact hlt|exact hr0)|((with_reducible apply wl_v);exact rfl;(with_reducible apply v_loadw_ro);exact rfl;exact hrp;exact rfl)|((with_reducible apply wl_v);exact rfl;(with_reducible apply v_loadf_ro);exact rfl;exact hrn;exact rfl)|((with_reducible apply wl_v);exact rfl;(with_reducible apply v_add);exact rfl;exact rfl;(constructor<;>omega))|((with_reducible apply wl_callp);exact rfl;exact rfl;(intro w hm;exact wide_at n.fn (i:Int) w))|((with_reducible apply wl_callp);exact rfl;exact rfl;(intro w hm;exact released_at n.fn w))|refine sT ?_|refine sM fun _=> ?_|(refine sC ?_ ?_<;>intro hb<;>try omega)|fail)
   all_goals first
    |((refine rT1 ?_);rw [hrec];simp_all [mayAt];done)
    |(refine ⟨i+1,⟨by omega,?_⟩,by omega,?_,?_⟩;(focus (rw [hrec,Int.natCast_add];simp [mayAt, *]));(focus exact sB);(focus exact mS))
  ·
   have e:i=ps.length:=by omega
   subst e
   rw [List.drop_length,fitsFrom] at hrec
   repeat' (first|refine sT ?_|refine sM fun _=> ?_|(refine sC ?_ ?_<;>intro hb<;>try omega)|fail)
   (refine rT1 ?_)
   rw [hrec]
end Go.SL
