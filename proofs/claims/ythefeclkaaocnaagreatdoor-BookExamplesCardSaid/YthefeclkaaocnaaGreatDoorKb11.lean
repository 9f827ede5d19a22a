/-
  Lemmas and walks, put together: A4 B1 B2 B3 A2p.
-/
import Derived.Test.YthefeclkaaocnaaGreatDoorKb10
set_option linter.unusedSimpArgs false
set_option linter.unusedVariables false
set_option maxRecDepth 20000
namespace Go.SL
open Go Go.Proofs
attribute [local irreducible] W WL WQ WG WA VOp thn blk cutP scp retP FnAt FnIn
def wordsB:List ByteArray:= [⟨#[]⟩,⟨#[35,68,73,86,47,48,33]⟩,⟨#[35,86,65,76,85,69,33]⟩,⟨#[35,78,85,77,33]⟩,⟨#[35,78,47,65]⟩,⟨#[35,82,69,70,33]⟩,⟨#[35,67,89,67,76,69,33]⟩,⟨#[35,68,69,78,73,69,68]⟩]
def Words (w:World):Prop:=Ro w 0 0 (wordsB.map Value.string)
theorem Words.next {w0 w:World} {H:List Blk} (h:Words w0) (hm:Mem w0 w H):Words w:=Ro.next h hm
def failV (c:Int):Vl:=⟨4,if c<1∨7<c then 2 else c,emptyB⟩
def makeV (n:Int):Vl:=if n= -9223372036854775808 then failV 3 else ⟨1,n,emptyB⟩
def truthV (b:Bool):Vl:=⟨2,if b then 1 else 0,emptyB⟩
def trueB:ByteArray:=⟨#[84,82,85,69]⟩
def falseB:ByteArray:=⟨#[70,65,76,83,69]⟩
def namedV (a:ByteArray):Vl:=if upB a=trueB then truthV true else if upB a=falseB then truthV false else failV 2
theorem Fail_at (c:Int) (w:World):Pure Tryz.prog 199 [.int .i64 c] w (.agg (encV (failV c)).toArray):=by
 refine fn_at Tryz.func199 rfl Tryz.ntmps199 rfl ?_
 repeat' (first|refine sT ?_|refine sM fun _=> ?_|(refine sC ?_ ?_<;>intro hb<;>try omega)|exact cT|fail)
 all_goals ((refine eRC ?_);simp only [failV];(first|rw [if_pos (by omega)]|rw [if_neg (by omega)]);rfl)
theorem Make_at (n:Int) (w:World):Pure Tryz.prog 202 [.int .i64 n] w (.agg (encV (makeV n)).toArray):=by
 refine fn_at Tryz.func202 rfl Tryz.ntmps202 rfl ?_
 repeat' (first|((with_reducible apply wl_callp);exact rfl;exact rfl;(intro w hm;exact Fail_at 3 w))|refine sT ?_|refine sM fun _=> ?_|(refine sC ?_ ?_<;>intro hb<;>try omega)|exact cT|fail)
 all_goals ((refine eRC ?_);simp_all [makeV,encV,failV,emptyB])
theorem Truth_at (b:Bool) (w:World):Pure Tryz.prog 276 [.bool b] w (.agg (encV (truthV b)).toArray):=by
 refine fn_at Tryz.func276 rfl Tryz.ntmps276 rfl ?_
 repeat' (first|refine sT ?_|refine sM fun _=> ?_|(refine sC ?_ ?_<;>intro hb<;>try omega)|exact cT|fail)
 all_goals ((refine eRC ?_);simp_all [truthV,encV,emptyB])
theorem named_at (v:Vl) (ha:v.text.size≤1000000) (w:World):Pure Tryz.prog 239 [.agg (encV v).toArray] w (.agg (encV (namedV v.text)).toArray):=by
 refine fn_at Tryz.func239 rfl Tryz.ntmps239 rfl ?_
 repeat' (first|((with_reducible apply wl_callp);exact rfl;exact rfl;(intro w hm;exact Upper_at v.text ha w))|((with_reducible apply wl_callp);exact rfl;exact rfl;(intro w hm;exact Truth_at _ w))|((with_reducible apply wl_callp);exact rfl;exact rfl;(intro w hm;exact Fail_at 2 w))|refine sT ?_|refine sM fun _=> ?_|(refine sC ?_ ?_<;>intro hb<;>try omega)|exact cT|fail)
 all_goals ((refine eRC ?_);simp_all [namedV,trueB,falseB];rfl)
theorem Show_at (c:Int) (h1:1≤c) (h2:c≤5) (w:World) (hw:Words w):Pure Tryz.prog 286 [.agg (encV ⟨4,c,emptyB⟩).toArray] w (.string (wordsB.getD c.toNat emptyB)):=by
 refine fn_at Tryz.func286 rfl Tryz.ntmps286 rfl ?_
 have he:eqV ⟨4,c,emptyB⟩ (failV 7)=false:=by simp [eqV,failV];omega
 have hv:valE ⟨4,c,emptyB⟩=0:=by
  have h6:decide (c≤6)=true:=decide_eq_true (by omega)
  simp [valE,valOk,h1,h6]
 have hc:=val_at ⟨4,c,emptyB⟩
 rw [hv] at hc
 obtain ⟨k,rfl⟩: ∃ k:Nat,c=(k:Int):=⟨c.toNat,by omega⟩
 have hcell:(wordsB.map Value.string)[k*1]? =some (.string (wordsB.getD k emptyB)):=by
  rcases (by omega:k=1∨k=2∨k=3∨k=4∨k=5) with rfl|rfl|rfl|rfl|rfl<;>rfl
 repeat' (first|((with_reducible apply wq_callp);exact rfl;exact rfl;(intro w hm;exact Fail_at 7 w))|((with_reducible apply wq_callp);exact rfl;exact rfl;(intro w hm;exact hc w))|((with_reducible apply wq_v);exact rfl;exact he ▸ v_eqlV (b:=failV 7) rfl rfl)|((with_reducible apply wl_v);exact rfl;(with_reducible apply v_ia_arr (j:=k));exact rfl;exact rfl;omega)|((with_reducible apply wl_v);exact rfl;(with_reducible apply v_load_ro (o:=0));exact hw;exact rfl;exact hcell)|refine sT ?_|refine sQ ?_|refine sD ?_|refine sM fun _=> ?_|(refine sC ?_ ?_<;>intro hb<;>try omega)|(refine sCQ ?_ ?_<;>intro hb<;>try omega)|exact cT|fail)
 (refine rT1 ?_)
 rfl
instance:KLaw Tryz.prog 5 (fun z:Int=>Value.int .u8 z):=klaw_int
theorem wl_mapIns_to {P:Program} {n:Fr} {w0:World} {Q:Post} {s:Slots} {H:List Blk} {rest:List Oper} {ty:TypeId} {p:String} {af:Array Edge} {κ:Type} [DecidableEq κ] {enc:κ→Value} {t K E g clock:Nat} {m x kx:Operand} {k:κ} {v:Value} {es:List (κ × Value × Nat)} {es' :List (κ × Value × Nat)} {c' :Nat} {R:List Blk} {ops:Array Oper} [ht:Und P t (.map K E)] [hk:KLaw P K enc] (hm:ev s m=some (.map (some g))) (hkx:ev s kx=some (enc k)) (hx:ev s x=some v) (hsel:Sel (.obj g (mobj enc es clock)) H R)
  (he:kput k v clock es=(es',c')) (h:WL P n w0 ops rest Q s (.obj g (mobj enc es' c')::R)):WL P n w0 ops (⟨none,.insert t m kx x,ty,p,af,none⟩::rest) Q s H:=by
 refine wl_mapIns hm hkx hx hsel ?_
 rw [he];exact h
theorem kput_new {κ:Type} [DecidableEq κ] {k:κ} {v:Value} {clock:Nat} {es:List (κ × Value × Nat)} (h:kfind k es 0=none):kput k v clock es=(es++ [(k,v,clock)],clock+1):=by
 simp [kput,h]
def boolMap (v:Vl):List (Int × Value × Nat):=
 [(0,.func (.func 237) #[.agg (encV v).toArray] #[],0),(1,.func (.func 237) #[.agg (encV v).toArray] #[],1),(2,.func (.func 238) #[.agg (encV v).toArray] #[],2),(3,.func (.func 239) #[.agg (encV v).toArray] #[],3),(4,.func (.func 238) #[.agg (encV v).toArray] #[],4)]
theorem toBool1_at (v:Vl) (w:World):FnAt Tryz.prog 236 [.agg (encV v).toArray] w fun u H=> ∃ g,u= .map (some g)∧H= [.obj g (mobj (fun z:Int=>Value.int .u8 z) (boolMap v) 5)]:=by
 refine fn_at Tryz.func236 rfl Tryz.ntmps236 rfl ?_
 repeat' (first|((with_reducible apply wl_makeMap (enc:=fun z:Int=>Value.int .u8 z));exact rfl;intro g)|((with_reducible apply wl_v);exact rfl;(with_reducible apply v_makeMeth);exact rfl)|((with_reducible apply wl_mapIns_to (enc:=fun z:Int=>Value.int .u8 z));(iterate 3 exact rfl);exact pK;exact kput_new rfl)|refine sT ?_|refine sM fun _=> ?_|(refine sC ?_ ?_<;>intro hb<;>try omega)|exact cT|fail)
 exact ret1 (H' := [.obj g (mobj (fun z:Int=>Value.int .u8 z) (boolMap v) 5)]) (.inl rfl) rfl rfl (.pick .hd (.nil _)) ⟨g,rfl,rfl⟩
def boolTextV (v:Vl):Vl:=if valE v=0 then namedV v.text else failV 2
set_option maxHeartbeats 1000000 in
theorem convText_at (v:Vl) (hk:v.kind=3) (ha:v.text.size≤1000000) (w:World):Pure Tryz.prog 235 [.agg (encV v).toArray,.func (.func 236) #[] #[]] w (.agg (encV (boolTextV v)).toArray):=by
 refine fn_at Tryz.func235 rfl Tryz.ntmps235 rfl ?_
 obtain ⟨k,num,text⟩:=v
 dsimp only at hk ha
 subst hk
 have hv:=val_at ⟨3,num,text⟩
 have hn:=named_at ⟨3,num,text⟩ ha
 repeat' (first|refine sT ?_|refine sM fun _=> ?_|(refine sC ?_ ?_<;>intro hb<;>try omega)|exact cT|fail)
 rename_i g2 g4
 refine w_cutG (id:=1) (ι:=Unit) (fun _=> [(5,.func (.func 239) #[.agg (encV ⟨3,num,text⟩).toArray] #[]),(6,.bool true),(2,.pointer (some ⟨g2,0,none⟩)),(4,.pointer (some ⟨g4,0,none⟩))]) (fun _=> [.box g2 172 (encV ⟨3,num,text⟩),.box g4 172 (encV zeroV)]) (fun _=>True) ?_ ?_
 ·
  refine w_drawA 11 rfl (by kernel_rfl) ?_
  ((with_reducible apply wa_pure (i:=0));exact rfl;exact rfl;decide+kernel;decide+kernel;decide+kernel;exact nP;(intro _ _;exact vP))
  ((with_reducible apply wa_pure (i:=3));exact rfl;exact rfl;decide+kernel;decide+kernel;decide+kernel;exact nP;(intro _ _;exact vP))
  repeat' (first|((with_reducible apply wa_two (i:=1) (j:=4));exact rfl;exact rfl;decide+kernel)|((with_reducible apply wa_two (i:=2) (j:=4));exact rfl;exact rfl;decide+kernel)|((with_reducible apply wa_one (i:=1));exact rfl;decide+kernel)|((with_reducible apply wa_one (i:=2));exact rfl;decide+kernel)|((with_reducible apply wa_one (i:=4));exact rfl;decide+kernel)|((with_reducible apply wa_one (i:=5));exact rfl;decide+kernel)|((with_reducible apply wa_pure (i:=6));exact rfl;exact rfl;decide+kernel;decide+kernel;decide+kernel;exact nP;(intro _ _;exact vP))|((with_reducible apply wa_pure (i:=7));exact rfl;exact rfl;decide+kernel;decide+kernel;decide+kernel;exact nP;(intro _ _;exact vP))|((with_reducible apply wa_pure (i:=8));exact rfl;exact rfl;decide+kernel;decide+kernel;decide+kernel;exact nP;(intro _ _;exact vP))|((with_reducible apply wa_pure (i:=9));exact rfl;exact rfl;decide+kernel;decide+kernel;decide+kernel;exact nP;(intro _ _;exact vP))|((with_reducible apply wa_pure (i:=10));exact rfl;exact rfl;decide+kernel;decide+kernel;decide+kernel;exact nP;(intro _ _;exact vP))|((with_reducible apply wa_done);decide+kernel)|((with_reducible apply wl_callv);exact rfl;exact rfl;infer_instance;exact rfl;exact FnIn.of_at (fun w' _=>toBool1_at ⟨3,num,text⟩ w');(rintro _ _ ⟨H1,⟨g5,rfl,rfl⟩,rfl⟩))|((with_reducible apply wl_v);exact rfl;(with_reducible apply v_lookupOk (enc:=fun z:Int=>Value.int .u8 z));exact rfl;exact rfl;exact pK;exact rfl)|refine sT ?_|refine sM fun _=> ?_|(refine sC ?_ ?_<;>intro hb<;>try omega)|exact cT|fail)
  all_goals ((apply cut_n;rotate_left 1;exact sB;exact mS);trivial)
 ·
  rintro _ -
  simp only [boolTextV]
  generalize valE ⟨3,num,text⟩=e at hv
  repeat' (first|((with_reducible apply wl_callp);exact rfl;exact rfl;(intro w hm;exact hv w))|((with_reducible apply wl_callp);exact rfl;exact rfl;(intro w hm;exact Fail_at 2 w))|((with_reducible apply wl_callmp);exact rfl;exact rfl;infer_instance;exact rfl;(intro w' _;exact hn w'))|refine sT ?_|refine sM fun _=> ?_|(refine sC ?_ ?_<;>intro hb<;>try omega)|exact cT|fail)
  all_goals
   (refine eRC ?_)
   simp_all
   rfl
theorem ToBool_at (v:Vl) (hk:v.kind=3) (ha:v.text.size≤1000000) (w:World):Pure Tryz.prog 196 [.agg (encV v).toArray] w (.agg (encV (boolTextV v)).toArray):=by
 refine fn_at Tryz.func196 rfl Tryz.ntmps196 rfl ?_
 repeat' (first|((with_reducible apply wl_callp);exact rfl;exact rfl;(intro w hm;exact convText_at v hk ha w))|refine sT ?_|refine sM fun _=> ?_|(refine sC ?_ ?_<;>intro hb<;>try omega)|exact cT|fail)
 (refine eRC ?_)
 rfl
def codeFrom (u:ByteArray):List ByteArray→Int→Int × Int
 | [],_=>(0,4)
 |x::r,i=>if x=u then (i,0) else codeFrom u r (i+1)
def codeE (a:ByteArray):Int × Int:=codeFrom (upB a) (wordsB.drop 1) 1
theorem wordsB_get {i:Nat} (h:i<8):(wordsB.map Value.string)[i]? =some (.string (wordsB.getD i emptyB)):=by
 rcases (by omega:i=0∨i=1∨i=2∨i=3∨i=4∨i=5∨i=6∨i=7) with rfl|rfl|rfl|rfl|rfl|rfl|rfl|rfl<;>rfl
theorem wordsB_drop {i:Nat} (h:i<8):wordsB.drop i=wordsB.getD i emptyB::wordsB.drop (i+1):=by
 rcases (by omega:i=0∨i=1∨i=2∨i=3∨i=4∨i=5∨i=6∨i=7) with rfl|rfl|rfl|rfl|rfl|rfl|rfl|rfl<;>rfl
theorem Code_at (a:ByteArray) (ha:a.size≤1000000) (w:World) (hw:Words w):Pure Tryz.prog 198 [.string a] w (.tuple #[.int .i64 (codeE a).1,.int .i64 (codeE a).2]):=by
 refine fn_at Tryz.func198 rfl Tryz.ntmps198 rfl ?_
 have hload:(((wordsB.map Value.string).drop 0).take 8)=wordsB.map Value.string:=rfl
 have hU:=Upper_at a ha
 generalize hu:upB a=u at hU
 repeat' (first|((with_reducible apply wl_callp);exact rfl;exact rfl;(intro w hm;exact hU w))|((with_reducible apply wl_v);exact rfl;(with_reducible apply v_loads_ro (o:=0) (off:=0));exact hw;exact rfl;exact hload;exact rfl)|refine sT ?_|refine sT2 ?_|refine sM fun _=> ?_|(refine sC ?_ ?_<;>intro hb<;>try omega)|exact cT|fail)
 refine w_loopK [0,8] rfl (fun i:Nat=> [(9,.int .i64 (i:Int))]) (fun _=> []) (fun i=>i≤8∧codeE a=codeFrom u (wordsB.drop (max i 1)) (max i 1:Nat)) (fun i=>8 - i) 0 ⟨by omega,by rw [codeE,hu];rfl⟩ sB mS ?_
 rintro i ⟨hi,hr⟩
 by_cases hlt:i<8
 ·
  have hx:=wordsB_get hlt
  have hd:=wordsB_drop hlt
  generalize wordsB.getD i emptyB=x at hx hd
  repeat' (first|((with_reducible apply wl_v);exact rfl;(with_reducible apply v_index_arr);exact rfl;exact rfl;exact hlt;exact hx)|refine sT ?_|refine sT2 ?_|refine sN ?_|refine sM fun _=> ?_|(refine sC ?_ ?_<;>intro hb<;>try omega)|exact cT|fail)
  ·
   rename_i h0
   rw [show max i 1=i by omega,hd,codeFrom,if_pos hb] at hr
   rw [hr]
   (refine rT2 ?_)
   rfl
  ·
   rename_i h0
   rw [show max i 1=i by omega,hd,codeFrom,if_neg hb] at hr
   refine ⟨i+1,?_,(by first|omega|(dsimp only;omega)),sB,sB,mS⟩
   refine ⟨hlt,?_⟩
   rw [hr,show max (i+1) 1=i+1 by omega]
   rfl
  ·
   have h0:i=0:=by omega
   subst h0
   refine ⟨0+1,?_,(by first|omega|(dsimp only;omega)),sB,sB,mS⟩
   exact ⟨by omega,hr⟩
 ·
  have e:i=8:=by omega
  subst e
  rw [hr]
  repeat' (first|refine sT ?_|refine sT2 ?_|refine sM fun _=> ?_|(refine sC ?_ ?_<;>intro hb<;>try omega)|exact cT|fail)
  all_goals first|(exfalso;omega)|((refine rT2 ?_);rfl)
end Go.SL
namespace Go.SL
open Go Go.Proofs
attribute [local irreducible] W WL WQ WG WA WX WLI WR WT VOp thn blk cutP scp retP endB FnAt FnIn
theorem lexDigit_at (c:Int) (w:World):Pure Tryz.prog 279 [.int .u8 c] w (.bool (digC c)):=by
 refine fn_at Tryz.func279 rfl Tryz.ntmps279 rfl ?_
 repeat' (first|refine sT ?_|refine sM fun _=> ?_|(refine sC ?_ ?_<;>intro hb<;>try omega)|fail)
 all_goals ((refine rT1 ?_);((try simp only [← Int.not_lt] at*);simp_all [digC, -Int.not_lt, -Int.not_le,← Int.not_lt]))
theorem lexLetter_at (c:Int) (w:World):Pure Tryz.prog 281 [.int .u8 c] w (.bool (letC c)):=by
 refine fn_at Tryz.func281 rfl Tryz.ntmps281 rfl ?_
 repeat' (first|refine sT ?_|refine sM fun _=> ?_|(refine sC ?_ ?_<;>intro hb<;>try omega)|fail)
 all_goals ((refine rT1 ?_);(try simp only [← Int.not_lt] at*);simp_all [letC, -Int.not_lt, -Int.not_le,← Int.not_lt];try omega)
theorem lexWrd_at (c:Int) (w:World):Pure Tryz.prog 312 [.int .u8 c] w (.bool (wrdC c)):=by
 refine fn_at Tryz.func312 rfl Tryz.ntmps312 rfl ?_
 repeat' (first|((with_reducible apply wl_callp);exact rfl;exact rfl;(intro w hm;exact lexLetter_at c w))|((with_reducible apply wl_callp);exact rfl;exact rfl;(intro w hm;exact lexDigit_at c w))|refine sT ?_|refine sM fun _=> ?_|(refine sC ?_ ?_<;>intro hb<;>try omega)|fail)
 all_goals ((refine rT1 ?_);simp_all [wrdC])
def pieceL (p:Int→Bool) (l:List Int):List Int:=l.take (runL p l)
theorem pieceL_cons {p:Int→Bool} {c:Int} {r:List Int} (h:p c=true):pieceL p (c::r)=c::pieceL p r:=by simp [pieceL,runL,h]
theorem pieceL_stop {p:Int→Bool} {c:Int} {r:List Int} (h:p c=false):pieceL p (c::r)= []:=by simp [pieceL,runL,h]
theorem pieceL_length (p:Int→Bool) (l:List Int):(pieceL p l).length=runL p l:=by
 simp [pieceL,Nat.min_eq_left (runL_le p l)]
set_option maxHeartbeats 1000000 in
theorem piece_seq (a:ByteArray) (ha:a.size≤1000000) (i0:Nat) (hi0:i0≤a.size) (fis:FuncId) [Callable Tryz.prog fis] (p:Int→Bool) (hf: ∀ c w,Pure Tryz.prog fis [.int .u8 c] w (.bool (p c))) (w0:World) (g4 g3 g5:Nat):
  Seqs Tryz.prog 330 [.pointer (some ⟨g4,0,none⟩),.pointer (some ⟨g3,0,none⟩),.pointer (some ⟨g5,0,none⟩)] w0 [.box g4 3 [.int .i64 (i0:Int)],.box g3 9 [.string a],.box g5 248 [.func (.func fis) #[] #[]]] (pieceL p ((ints a).drop i0)) (fun c=> [.int .u8 c]):=by
 intro l I J H0 hy h0
 refine FnIn.msub (H' := [.box g4 3 [.int .i64 (i0:Int)],.box g3 9 [.string a],.box g5 248 [.func (.func fis) #[] #[]]]++H0) ?_ MSub.swap
 refine fn_in Tryz.func330 rfl Tryz.ntmps330 rfl ?_
 repeat' (first|refine sT ?_|refine sT2 ?_|refine sM fun _=> ?_|(refine sC ?_ ?_<;>intro hb<;>try omega)|fail)
 refine w_loop (fun y:Nat × List Int × List Blk=> [(0,.func (.yield l) #[] #[]),(1,.pointer (some ⟨g4,0,none⟩)),(2,.pointer (some ⟨g3,0,none⟩)),(3,.pointer (some ⟨g5,0,none⟩)),(5,.int .i64 (y.1:Int))])
  (fun y=> [.box g4 3 [.int .i64 (i0:Int)],.box g3 9 [.string a],.box g5 248 [.func (.func fis) #[] #[]]]++y.2.2)
  (fun y=>y.1≤a.size∧pieceL p ((ints a).drop i0)=y.2.1++pieceL p ((ints a).drop y.1)∧I y.2.1 y.2.2) (fun y=>a.size - y.1) (i0,[],H0) ⟨hi0,rfl,h0⟩ sB (MSub.refl _) ?_
 rintro ⟨i,pre,H1⟩ ⟨hi,hus,hI⟩
 dsimp only at hi hus hI ⊢
 by_cases hlt:i<a.size
 ·
  rw [bat_drop hlt] at hus
  have hfc:=fun w=>hf (bat a i) w
  cases hp:p (bat a i)
  ·
   rw [hp] at hfc
   rw [pieceL_stop hp,List.append_nil] at hus
   repeat' (first|((with_reducible apply wq_callvp);exact rfl;exact rfl;infer_instance;exact rfl;(intro w' _;exact hfc w'))|refine sT ?_|refine sI ?_|refine sQ ?_|refine sT2 ?_|refine sQ2 ?_|refine sN ?_|refine sNQ ?_|refine sD ?_|refine sM fun _=> ?_|(refine sC ?_ ?_<;>intro hb<;>try omega)|(refine sCQ ?_ ?_<;>intro hb<;>try omega)|fail)
   exact ret0 (.inr rfl) rfl (.refl _) ⟨H1,.inl (hus ▸ hI),MSub.swap⟩
  ·
   rw [hp] at hfc
   rw [pieceL_cons hp] at hus
   repeat' (first|((with_reducible apply wq_callvp);exact rfl;exact rfl;infer_instance;exact rfl;(intro w' _;exact hfc w'))|((with_reducible apply w_regionI (id:=3)))|((with_reducible apply wli_v);exact rfl;exact rfl;(with_reducible apply v_idx);exact rfl;exact rfl;exact hlt)|refine sT ?_|refine sI ?_|refine sQ ?_|refine sT2 ?_|refine sQ2 ?_|refine sN ?_|refine sNQ ?_|refine sD ?_|refine sM fun _=> ?_|(refine sC ?_ ?_<;>intro hb<;>try omega)|(refine sCQ ?_ ?_<;>intro hb<;>try omega)|fail)
   (with_reducible apply wli_yieldB)
   ·
    exact rfl
   ·
    exact rfl
   ·
    exact rfl
   ·
    exact MSub.swapN
   ·
    exact fun w hm=>hy pre (bat a i) _ hus H1 [] hI w hm
   intro bb H2 hq
   cases bb
   ·
    repeat' (first|refine sT ?_|refine sI ?_|refine sT2 ?_|refine sM fun _=> ?_|(refine sC ?_ ?_<;>intro hb<;>try omega)|fail)
    exact ret0 eIO rfl (.refl _) ⟨H2,.inr ⟨_,hq⟩,by rw [List.append_nil];exact .refl _⟩
   ·
    repeat' (first|refine sT ?_|refine sI ?_|refine sT2 ?_|refine sN ?_|refine sM fun _=> ?_|(refine sC ?_ ?_<;>intro hb<;>try omega)|fail)
    refine ⟨(i+1,_,H2),⟨hlt,hus.trans (by rw [List.append_assoc];rfl),hq⟩,(by dsimp only;omega),sB,?_⟩
    exact MSub.swapN'
 ·
  have e:i=a.size:=by omega
  subst e
  have hl:=ints_length a
  rw [List.drop_of_length_le (i:=a.size) (by omega),show pieceL p []= [] from rfl,List.append_nil] at hus
  repeat' (first|refine sT ?_|refine sI ?_|refine sQ ?_|refine sT2 ?_|refine sQ2 ?_|refine sN ?_|refine sNQ ?_|refine sD ?_|refine sM fun _=> ?_|(refine sC ?_ ?_<;>intro hb<;>try omega)|(refine sCQ ?_ ?_<;>intro hb<;>try omega)|fail)
  exact ret0 (.inr rfl) rfl (.refl _) ⟨H1,.inl (hus ▸ hI),MSub.swap⟩
theorem piece_at (a:ByteArray) (i0:Nat) (fis:FuncId) (w:World):
  FnAt Tryz.prog 311 [.string a,.int .i64 (i0:Int),.func (.func fis) #[] #[]] w fun v H=> ∃ g4 g3 g5,v= .func (.func 330) #[] #[.pointer (some ⟨g4,0,none⟩),.pointer (some ⟨g3,0,none⟩),.pointer (some ⟨g5,0,none⟩)]∧H= [.box g4 3 [.int .i64 (i0:Int)],.box g3 9 [.string a],.box g5 248 [.func (.func fis) #[] #[]]]:=by
 refine fn_at Tryz.func311 rfl Tryz.ntmps311 rfl ?_
 repeat' (first|refine sT ?_|refine sM fun _=> ?_|(refine sC ?_ ?_<;>intro hb<;>try omega)|fail)
 rename_i g3 g4 g5
 exact ret1 (.inl rfl) rfl rfl (H' := [.box g4 3 [.int .i64 (i0:Int)],.box g3 9 [.string a],.box g5 248 [.func (.func fis) #[] #[]]]) mS ⟨g4,g3,g5,rfl,rfl⟩
set_option maxHeartbeats 1000000 in
theorem length_at (a:ByteArray) (ha:a.size≤1000000) (i0:Nat) (hi0:i0≤a.size) (fis:FuncId) [Callable Tryz.prog fis] (p:Int→Bool) (hf: ∀ c w,Pure Tryz.prog fis [.int .u8 c] w (.bool (p c))) (w:World):
  Pure Tryz.prog 278 [.string a,.int .i64 (i0:Int),.func (.func fis) #[] #[]] w (.int .i64 (runL p ((ints a).drop i0):Int)):=by
 refine fn_range_at Tryz.func278 rfl Tryz.ntmps278 (by rfl) ?_
 refine wt_seq_r ?_
 repeat' (first|((with_reducible apply wl_call);exact rfl;exact rfl;(intro w' hm;exact piece_at a i0 fis w');(rintro v H' ⟨g4,g3,g5,rfl,rfl⟩))|refine sT ?_|refine sR ?_|refine sM fun _=> ?_|(refine sC ?_ ?_<;>intro hb<;>try omega)|(refine sCR ?_ ?_<;>intro hb<;>try omega)|fail)
 rename_i gn
 have hpl:=pieceL_length p ((ints a).drop i0)
 have hll:=ints_length a
 have hrl:=runL_le p ((ints a).drop i0)
 rw [List.length_drop] at hrl
 rw [← hpl]
 refine wt_range (ps:= [12]) (us:=pieceL p ((ints a).drop i0)) (encs:=fun c=> [.int .u8 c]) (Hc:= [.box g4 3 [.int .i64 (i0:Int)],.box g3 9 [.string a],.box g5 248 [.func (.func fis) #[] #[]]]) (HU0:= [.box gn 3 [.int .i64 0]]) rfl (fun _=>rfl) rfl (piece_seq a ha i0 hi0 fis p hf w g4 g3 g5)
  (fun pre HU=>HU= [.box gn 3 [.int .i64 (pre.length:Int)]]) (fun _=>False) MSub.swap rfl ?_ ?_ ?_
 ·
  rintro l pre u post hus _ rfl F F'
  have hlu:=congrArg List.length hus
  simp only [List.length_append,List.length_cons] at hlu
  change WR _ _ _ l _ _ ((12,Value.int .u8 u)::_) (.box gn 3 [.int .i64 (pre.length:Int)]::F)
  repeat' (first|refine sT ?_|refine sR ?_|refine sM fun _=> ?_|(refine sC ?_ ?_<;>intro hb<;>try omega)|(refine sCR ?_ ?_<;>intro hb<;>try omega)|fail)
  refine assign_n ⟨[.box gn 3 [.int .i64 (pre.length:Int)]],MSub.refl _,?_⟩
  change WR _ _ _ l _ _ _ (.box gn 3 [.int .i64 (pre.length:Int)]::F')
  repeat' (first|refine sT ?_|refine sR ?_|refine sN ?_|refine sM fun _=> ?_|(refine sC ?_ ?_<;>intro hb<;>try omega)|(refine sCR ?_ ?_<;>intro hb<;>try omega)|fail)
  refine round_n [.box gn 3 [.int .i64 ((pre.length+1:Nat):Int)]] ?_ (by rw [List.length_append];rfl)
  change MSub (_::F') _
  exact mS
 ·
  rintro D _ rfl
  change endB _ _ _ _ _ (dObj D:: .box gn 3 [.int .i64 ((pieceL p ((ints a).drop i0)).length:Int)]::_)
  repeat' (first|refine sT ?_|refine sR ?_|refine sM fun _=> ?_|(refine sC ?_ ?_<;>intro hb<;>try omega)|(refine sCR ?_ ?_<;>intro hb<;>try omega)|fail)
  refine end_mark .hd ?_
  exact ret1 (.inl rfl) rfl rfl (MSub.nil _) rfl
 ·
  rintro D HU h
  exact h.elim
def tokV:Option (Tk × Nat)→Value
 |some (t,n)=> .tuple #[.agg (encTk t).toArray,.int .i64 (n:Int)]
 |none=> .tuple #[.agg (encTk zeroTk).toArray,.int .i64 0]
def atT (i:Nat) (o:Option (Tk × Nat)):Option (Tk × Nat):=o.map fun x=>({ x.1 with at_:=(i:Int) },x.2)
def numberP (l:List Int):Option (Tk × Nat):=
 let w:=runL digC l
 let p:=placesL (l.drop w)
 let n:=if p=0 then w else w+1+p
 if w=0∨4<p then none
 else if (decL (l.take n)).2≠0 then none else some (⟨1,(decL (l.take n)).1,emptyB,zeroR,0⟩,n)
theorem placesL_yes {c:Int} {r:List Int} (h:c=46):placesL (c::r)=runL digC r:=by subst h;rfl
theorem placesL_no {c:Int} {r:List Int} (h:c≠46):placesL (c::r)=0:=by
 unfold placesL
 split
 ·
  rename_i heq;injection heq with h1 h2;exact absurd h1 h
 ·
  rfl
set_option maxHeartbeats 1000000 in
theorem number_at (a:ByteArray) (ha:a.size≤100000) (i:Nat) (hi:i≤a.size) (g:Nat) (w:World) (hr:Ro w g 0 [.string a]):
  Pure Tryz.prog 243 [.pointer (some ⟨g,0,none⟩),.int .i64 (i:Int)] w (tokV (atT i (numberP ((ints a).drop i)))):=by
 refine fn_at Tryz.func243 rfl Tryz.ntmps243 rfl ?_
 have hl:=ints_length a
 have hL1:=length_at a (by omega) i hi 279 digC lexDigit_at
 have hwl:=runL_le digC ((ints a).drop i)
 rw [List.length_drop] at hwl
 generalize hw:runL digC ((ints a).drop i)=n at hL1 hwl
 generalize hpd:placesL ((ints a).drop (i+n))=p
 have hN:numberP ((ints a).drop i)=if n=0∨4<p then none else if (decL (((ints a).drop i).take (if p=0 then n else n+1+p))).2≠0 then none else some (⟨1,(decL (((ints a).drop i).take (if p=0 then n else n+1+p))).1,emptyB,zeroR,0⟩,if p=0 then n else n+1+p):=by
  simp only [numberP,hw,List.drop_drop,hpd]
 rw [hN]
 have hL2:=fun h=>length_at a (by omega) (i+n+1) h 279 digC lexDigit_at
 have hcut: ∀ m,ints (sub a i (i+m))=((ints a).drop i).take m:=fun m=>by rw [ints_sub,show i+m - i=m by omega]
 have hple:p≤a.size - (i+n) - 1:=by
  rw [← hpd]
  by_cases h:i+n<a.size
  ·
   rw [bat_drop h]
   by_cases h46:bat a (i+n)=46
   ·
    rw [placesL_yes h46]
    have:=runL_le digC ((ints a).drop (i+n+1))
    rw [List.length_drop] at this
    omega
   ·
    rw [placesL_no h46];omega
  ·
   rw [List.drop_of_length_le (by omega)];simp [placesL]
 have hend: ∀ h:i+n+1<a.size,bat a (i+n)=46→(p=runL digC ((ints a).drop (i+n+1))):=fun h h46=>by
  rw [← hpd,bat_drop (by omega),placesL_yes h46]
 have hno: ¬ (i+n+1<a.size∧bat a (i+n)=46∧digC (bat a (i+n+1))=true)→p=0:=fun h=>by
  by_cases h1:i+n<a.size
  ·
   by_cases h46:bat a (i+n)=46
   ·
    by_cases h2:i+n+1<a.size
    ·
     rw [hend h2 h46,bat_drop h2,runL,if_neg fun h3=>h ⟨h2,h46,h3⟩]
    ·
     rw [← hpd,bat_drop h1,placesL_yes h46,List.drop_of_length_le (by omega)];rfl
   ·
    rw [← hpd,bat_drop h1,placesL_no h46]
  ·
   rw [← hpd,List.drop_of_length_le (by omega)];rfl
 have hyes:i+n+1<a.size→bat a (i+n)=46→digC (bat a (i+n+1))=true→0<p:=fun h h46 h3=>by
  rw [hend h h46,bat_drop h,runL,if_pos h3];omega
 repeat' (first|((with_reducible apply wl_v);exact rfl;(with_reducible apply v_load_ro (o:=0) (off:=0));exact hr;exact rfl;exact rfl)|((with_reducible apply wl_callp);exact rfl;exact rfl;(intro w hm;exact hL1 w))|((with_reducible apply wl_callp);exact rfl;exact rfl;(intro w hm;exact lexDigit_at _ w))|(refine w_cutRH (id:=7) [0,1,4] rfl (ι:=Nat × Nat) (fun x=> [(7,.int .i64 (x.1:Int)),(5,.int .i64 (x.2:Int))]) (fun x=>x.1=p∧x.2=if p=0 then n else n+1+p) ?_ ?_)|((with_reducible apply wl_callp);exact rfl;exact rfl;(intro w hm;exact hL2 (by omega) w))|refine sT ?_|refine sT2 ?_|refine sN ?_|refine sM fun _=> ?_|(refine sC ?_ ?_<;>intro hb<;>try omega)|exact cT|fail)
 ·
  (refine eRCT ?_)
  rw [if_pos (.inl (by omega))];rfl
 ·
  rename_i h1 h2 h3
  refine cut_n ((runL digC ((ints a).drop (i+n+1)),n+(1+runL digC ((ints a).drop (i+n+1))))) ?_ sB mS
  have h5:=hyes (by omega) h3 hb
  have h6:=hend (by omega) h3
  rw [← h6]
  exact ⟨rfl,by rw [if_neg (by omega)];omega⟩
 ·
  rename_i h1 h2 h3
  refine cut_n ((0,n)) ?_ sB mS
  have:=hno fun h=>by rw [hb] at h;cases h.2.2
  exact ⟨this.symm,by rw [if_pos this]⟩
 ·
  refine cut_n ((0,n)) ?_ sB mS
  have:=hno fun h=>hb h.2.1
  exact ⟨this.symm,by rw [if_pos this]⟩
 ·
  refine cut_n ((0,n)) ?_ sB mS
  have:=hno fun h=>by omega
  exact ⟨this.symm,by rw [if_pos this]⟩
 rintro ⟨p',m⟩ ⟨rfl,hm⟩
 have hn0:n≠0:=by omega
 dsimp only at hm ⊢
 rw [← hm]
 by_cases h4:4<p'
 ·
  rw [if_pos (.inr h4)]
  repeat' (first|refine sT ?_|refine sT2 ?_|refine sM fun _=> ?_|(refine sC ?_ ?_<;>intro hb<;>try omega)|exact cT|fail)
  all_goals first|(exfalso;omega)|((refine eRCT ?_);rfl)
 ·
  rw [if_neg (by omega)]
  have him:i+m≤a.size:=by rw [hm];split<;>omega
  have hP:=decParse_at (sub a i (i+m)) (by rw [sub_size _ him];omega)
  rw [hcut m] at hP
  generalize decL (((ints a).drop i).take m)=q at hP
  repeat' (first|((with_reducible apply wl_v);exact rfl;(with_reducible apply v_load_ro (o:=0) (off:=0));exact hr;exact rfl;exact rfl)|((with_reducible apply wl_callp);exact rfl;exact rfl;(intro w hm;exact hP w))|refine sT ?_|refine sT2 ?_|refine sN ?_|refine sM fun _=> ?_|(refine sC ?_ ?_<;>intro hb<;>try omega)|exact cT|fail)
  ·
   (refine eRCT ?_)
   rw [if_pos hb];rfl
  ·
   (refine eRCT ?_)
   rw [if_neg hb];rfl
theorem headD_at (a:ByteArray) (j:Nat):((ints a).drop j).headD 0=bat a j:=by
 rw [bat,List.headD_eq_head?_getD,List.head?_drop,List.getD_eq_getElem?_getD]
theorem next_at (a:ByteArray) (ha:a.size≤100000) (j:Nat) (g:Nat) (w:World) (hr:Ro w g 0 [.string a]):
  Pure Tryz.prog 283 [.pointer (some ⟨g,0,none⟩),.int .i64 (j:Int)] w (.int .u8 (bat a j)):=by
 refine fn_at Tryz.func283 rfl Tryz.ntmps283 rfl ?_
 have hl:=ints_length a
 repeat' (first|((with_reducible apply wl_v);exact rfl;(with_reducible apply v_load_ro (o:=0) (off:=0));exact hr;exact rfl;exact rfl)|refine sT ?_|refine sT2 ?_|refine sN ?_|refine sM fun _=> ?_|(refine sC ?_ ?_<;>intro hb<;>try omega)|exact cT|fail)
 ·
  (refine rT1 ?_)
  rfl
 ·
  (refine rT1 ?_)
  have e:bat a j=0:=by rw [bat,List.getD_eq_getElem?_getD,List.getElem?_eq_none (by omega)];rfl
  rw [e]
def upW (l:List Int):List Int:=(l.take (runL wrdC l)).map upC
theorem upW_length (l:List Int):(upW l).length=runL wrdC l:=by
 have:=runL_le wrdC l
 simp [upW];omega
theorem upW_ok {l:List Int} (h:bytesOk l):bytesOk (upW l):=by
 intro c hc
 obtain ⟨d,hd,rfl⟩:=List.mem_map.1 hc
 have:=h d (List.mem_of_mem_take hd)
 unfold upC
 split<;>omega
theorem plain_at (a:ByteArray) (ha:a.size≤100000) (i:Nat) (hi:i≤a.size) (g:Nat) (w:World) (hr:Ro w g 0 [.string a]):
  Pure Tryz.prog 282 [.pointer (some ⟨g,0,none⟩),.int .i64 (i:Int)] w (.string (mkB (upW ((ints a).drop i)))):=by
 refine fn_at Tryz.func282 rfl Tryz.ntmps282 rfl ?_
 have hl:=ints_length a
 have hL:=length_at a (by omega) i hi 312 wrdC lexWrd_at
 have hwl:=runL_le wrdC ((ints a).drop i)
 rw [List.length_drop] at hwl
 unfold upW
 generalize runL wrdC ((ints a).drop i)=n at hL hwl
 have hU:=Upper_at (sub a i (i+n)) (by rw [sub_size _ (by omega)];omega)
 have e:upB (sub a i (i+n))=mkB ((((ints a).drop i).take n).map upC):=by rw [upB,ints_sub,show i+n - i=n by omega]
 rw [e] at hU
 repeat' (first|((with_reducible apply wl_v);exact rfl;(with_reducible apply v_load_ro (o:=0) (off:=0));exact hr;exact rfl;exact rfl)|((with_reducible apply wl_callp);exact rfl;exact rfl;(intro w hm;exact hL w))|((with_reducible apply wl_callp);exact rfl;exact rfl;(intro w hm;exact hU w))|refine sT ?_|refine sT2 ?_|refine sN ?_|refine sM fun _=> ?_|(refine sC ?_ ?_<;>intro hb<;>try omega)|exact cT|fail)
 (refine rT1 ?_)
 rfl
def closeQ:List Int→Option Nat
 | []=>none
 |c::r=>if c≠34 then (closeQ r).map (· +1) else match r with
  | []=>some 0
  |d::r' =>if d=34 then (closeQ r').map (· +2) else some 0
theorem closeQ_cons {c:Int} {r:List Int} (h:c≠34):closeQ (c::r)=(closeQ r).map (· +1):=by rw [closeQ.eq_def];simp [h]
def textP (l:List Int):Option (Tk × Nat):=
 if l.headD 0≠34 then none
 else match closeQ (l.drop 1) with
  |none=>none
  |some k=>if (unquoteL (l.take (k+2))).2≠0 then none else some (⟨2,0,mkB (unquoteL (l.take (k+2))).1,zeroR,0⟩,k+2)
set_option maxHeartbeats 1000000 in
theorem text_at (a:ByteArray) (ha:a.size≤100000) (i:Nat) (hi:i<a.size) (g:Nat) (w:World) (hr:Ro w g 0 [.string a]):
  Pure Tryz.prog 244 [.pointer (some ⟨g,0,none⟩),.int .i64 (i:Int)] w (tokV (atT i (textP ((ints a).drop i)))):=by
 refine fn_at Tryz.func244 rfl Tryz.ntmps244 rfl ?_
 have hl:=ints_length a
 unfold textP
 rw [headD_at,List.drop_drop]
 by_cases h34:bat a i=34
 ·
  rw [if_neg (by omega)]
  have hcut: ∀ m,ints (sub a i (i+m))=((ints a).drop i).take m:=fun m=>by rw [ints_sub,show i+m - i=m by omega]
  repeat' (first|((with_reducible apply wl_v);exact rfl;(with_reducible apply v_load_ro (o:=0) (off:=0));exact hr;exact rfl;exact rfl)|refine sT ?_|refine sT2 ?_|refine sN ?_|refine sM fun _=> ?_|(refine sC ?_ ?_<;>intro hb<;>try omega)|exact cT|fail)
  all_goals first|(exfalso;omega)|skip
  rename_i g4
  generalize hC:closeQ ((ints a).drop (i+1))=C
  refine w_loopK [0,1,4,5] rfl (fun j:Nat=> [(6,.int .i64 (j:Int))]) (fun _=> [.box g4 295 (encTk zeroTk)]) (fun j=>i+1≤j∧j≤a.size∧C=(closeQ ((ints a).drop j)).map (· +(j - (i+1)))) (fun j=>a.size - j) (i+1) ⟨by omega,by omega,by rw [hC];simp⟩ sB mS ?_
  rintro j ⟨hj1,hj2,hj3⟩
  by_cases hlt:j<a.size
  ·
   rw [bat_drop hlt] at hj3
   by_cases hq:bat a j=34
   ·
    by_cases hn:j+1<a.size∧bat a (j+1)=34
    ·
     rw [bat_drop hn.1,hq,hn.2] at hj3
     simp only [closeQ,ne_eq,not_true_eq_false,if_false,if_true,Option.map_map] at hj3
     have hn1:=hn.1
     repeat' (first|((with_reducible apply wl_v);exact rfl;(with_reducible apply v_load_ro (o:=0) (off:=0));exact hr;exact rfl;exact rfl)|refine sT ?_|refine sT2 ?_|refine sN ?_|refine sM fun _=> ?_|(refine sC ?_ ?_<;>intro hb<;>try omega)|exact cT|fail)
     all_goals first|(exfalso;omega)|skip
     refine ⟨j+2,?_,(by first|omega|(dsimp only;omega)),sB,sB,mS⟩
     refine ⟨by omega,by omega,?_⟩
     rw [hj3,show j+1+1=j+2 by omega]
     congr 1
     funext k
     simp only [Function.comp]
     omega
    ·
     have hC0:C=some (j - (i+1)):=by
      rw [hj3,hq]
      by_cases h1:j+1<a.size
      ·
       rw [bat_drop h1]
       have h2:bat a (j+1)≠34:=fun h=>hn ⟨h1,h⟩
       simp [closeQ,h2]
      ·
       rw [List.drop_of_length_le (i:=j+1) (by omega)]
       simp [closeQ]
     rw [hC0]
     dsimp only
     have hm:j - (i+1)+2=j+1 - i:=by omega
     rw [hm]
     have hc:=hcut (j+1 - i)
     rw [show i+(j+1 - i)=j+1 by omega] at hc
     have hP:=Unquote_at (sub a i (j+1)) (by rw [sub_size _ (by omega)];omega)
     rw [hc] at hP
     generalize unquoteL (((ints a).drop i).take (j+1 - i))=q at hP
     repeat' (first|((with_reducible apply wl_v);exact rfl;(with_reducible apply v_load_ro (o:=0) (off:=0));exact hr;exact rfl;exact rfl)|((with_reducible apply wl_callp);exact rfl;exact rfl;(intro w hm;exact hP w))|refine sT ?_|refine sT2 ?_|refine sN ?_|refine sM fun _=> ?_|(refine sC ?_ ?_<;>intro hb<;>try omega)|exact cT|fail)
     all_goals first|(exfalso;omega)|((refine eRCT ?_);first|(rw [if_pos hb];rfl)|(rw [if_neg hb];rfl))
   ·
    rw [closeQ_cons hq,Option.map_map] at hj3
    repeat' (first|((with_reducible apply wl_v);exact rfl;(with_reducible apply v_load_ro (o:=0) (off:=0));exact hr;exact rfl;exact rfl)|refine sT ?_|refine sT2 ?_|refine sN ?_|refine sM fun _=> ?_|(refine sC ?_ ?_<;>intro hb<;>try omega)|exact cT|fail)
    all_goals first|(exfalso;omega)|skip
    refine ⟨j+1,?_,(by first|omega|(dsimp only;omega)),sB,sB,mS⟩
    refine ⟨by omega,by omega,?_⟩
    rw [hj3]
    congr 1
    funext k
    simp only [Function.comp]
    omega
  ·
   rw [List.drop_of_length_le (by omega)] at hj3
   rw [hj3]
   dsimp only [closeQ,Option.map]
   repeat' (first|((with_reducible apply wl_v);exact rfl;(with_reducible apply v_load_ro (o:=0) (off:=0));exact hr;exact rfl;exact rfl)|refine sT ?_|refine sT2 ?_|refine sN ?_|refine sM fun _=> ?_|(refine sC ?_ ?_<;>intro hb<;>try omega)|exact cT|fail)
   all_goals first|(exfalso;omega)|skip
   (refine eRCT ?_)
   rfl
 ·
  rw [if_pos (by omega)]
  repeat' (first|((with_reducible apply wl_v);exact rfl;(with_reducible apply v_load_ro (o:=0) (off:=0));exact hr;exact rfl;exact rfl)|refine sT ?_|refine sT2 ?_|refine sN ?_|refine sM fun _=> ?_|(refine sC ?_ ?_<;>intro hb<;>try omega)|exact cT|fail)
  all_goals first|(exfalso;omega)|skip
  (refine eRCT ?_)
  rfl
theorem mkB_inj {l m:List Int} (hl:bytesOk l) (hm:bytesOk m):mkB l=mkB m↔l=m:=⟨fun h=>by rw [← ints_mkB hl,← ints_mkB hm,h],fun h=>by rw [h]⟩
theorem hasPrefix2_at (a b:ByteArray) (w:World):Pure Tryz.prog 234 [.string a,.string b] w (.bool (decide ((ints a).take b.size=ints b))):=by
 refine fn_at Tryz.func234 rfl Tryz.ntmps234 rfl ?_
 have ha:=ints_length a
 have hb' :=ints_length b
 have e: ∀ h:b.size≤a.size,decide (sub a 0 b.size=b)=decide ((ints a).take b.size=ints b):=fun h=>by
  rw [decide_eq_decide,← ints_to]
  exact ⟨fun h=>by rw [h],fun h=>ints_inj h⟩
 repeat' (first|refine sT ?_|refine sT2 ?_|refine sM fun _=> ?_|(refine sC ?_ ?_<;>intro hb<;>try omega)|fail)
 ·
  rw [e (by omega)]
  (refine rT1 ?_)
  rfl
 ·
  (refine rT1 ?_)
  rw [decide_eq_false]
  intro h
  have:=congrArg List.length h
  rw [List.length_take] at this
  omega
theorem hasPrefix_at (a b:ByteArray) (w:World):Pure Tryz.prog 288 [.string a,.string b] w (.bool (decide ((ints a).take b.size=ints b))):=by
 refine fn_at Tryz.func288 rfl Tryz.ntmps288 rfl ?_
 repeat' (first|((with_reducible apply wl_callp);exact rfl;exact rfl;(intro w hm;exact hasPrefix2_at a b w))|refine sT ?_|refine sM fun _=> ?_|(refine sC ?_ ?_<;>intro hb<;>try omega)|fail)
 (refine rT1 ?_)
 rfl
theorem literal_at (c:Int) (w:World):Pure Tryz.prog 285 [.int .i64 c] w (.bool (decide (1≤c) && decide (c≤5))):=by
 refine fn_at Tryz.func285 rfl Tryz.ntmps285 rfl ?_
 repeat' (first|refine sT ?_|refine sM fun _=> ?_|(refine sC ?_ ?_<;>intro hb<;>try omega)|fail)
 all_goals ((refine rT1 ?_);simp_all<;>omega)
theorem errNames_get {k:Nat} (h1:1≤k) (h2:k≤5): ∃ s,errNames.drop (k - 1)=s::errNames.drop k∧wordsB.getD k emptyB=mkB s∧bytesOk s∧s.length≤10:=by
 rcases (by omega:k=1∨k=2∨k=3∨k=4∨k=5) with rfl|rfl|rfl|rfl|rfl<;>refine ⟨_,rfl,rfl,?_,by decide⟩<;>(intro c hc;simp at hc;omega)
theorem mkB_size (l:List Int):(mkB l).size=l.length:=by simp [mkB,ByteArray.size]
def failP (l:List Int):Option (Tk × Nat):=(failL l errNames 1).map fun x=>(⟨4,x.1,emptyB,zeroR,0⟩,x.2)
set_option maxHeartbeats 1000000 in
theorem fail_at (a:ByteArray) (ha:a.size≤100000) (i:Nat) (hi:i≤a.size) (g:Nat) (w:World) (hr:Ro w g 0 [.string a]) (hW:Words w):
  Pure Tryz.prog 246 [.pointer (some ⟨g,0,none⟩),.int .i64 (i:Int)] w (tokV (atT i (failP ((ints a).drop i)))):=by
 refine fn_at Tryz.func246 rfl Tryz.ntmps246 rfl ?_
 have hl:=ints_length a
 unfold failP
 generalize hF:failL ((ints a).drop i) errNames 1=F
 repeat' (first|refine sT ?_|refine sT2 ?_|refine sM fun _=> ?_|(refine sC ?_ ?_<;>intro hb<;>try omega)|fail)
 rename_i g4
 refine w_loopK [0,1,4,5] rfl (fun k:Nat=> [(6,.int .i64 (k:Int))]) (fun _=> [.box g4 295 (encTk zeroTk)]) (fun k=>1≤k∧k≤6∧F=failL ((ints a).drop i) (errNames.drop (k - 1)) k) (fun k=>6 - k) 1 ⟨by omega,by omega,hF.symm⟩ sB mS ?_
 rintro k ⟨hk1,hk2,hk3⟩
 by_cases hk:k≤5
 ·
  obtain ⟨s,e1,e2,e3,e4⟩:=errNames_get hk1 hk
  have e5:failV (k:Int)=⟨4,(k:Int),emptyB⟩:=by rw [failV,if_neg (by omega)]
  have hFa:=Fail_at (k:Int)
  rw [e5] at hFa
  have hSh:=fun w' h=>Show_at (k:Int) (by omega) (by omega) w' h
  rw [Int.toNat_natCast,e2] at hSh
  rw [e1,failL] at hk3
  have hlit:(decide (1≤(k:Int)) && decide ((k:Int)≤5))=true:=by simp;omega
  have hL:=literal_at (k:Int)
  rw [hlit] at hL
  have hms:=mkB_size s
  have hcut:ints (sub a i (i+s.length))=((ints a).drop i).take s.length:=by rw [ints_sub,show i+s.length - i=s.length by omega]
  have hU:=fun h=>Upper_at (sub a i (i+s.length)) h
  have hdec:upB (sub a i (i+s.length))=mkB s↔(((ints a).drop i).take s.length).map upC=s:=by
   rw [upB,hcut,mkB_inj _ e3]
   rw [← hcut,← ints_upB]
   exact ints_ok _
  rw [← hms] at hU hdec hk3
  repeat' (first|((with_reducible apply wl_v);exact rfl;(with_reducible apply v_load_ro (o:=0) (off:=0));exact hr;exact rfl;exact rfl)|((with_reducible apply wl_callp);exact rfl;exact rfl;(intro w hm;exact hL w))|((with_reducible apply wl_callp);exact rfl;exact rfl;(intro w hm;exact hFa w))|((with_reducible apply wl_callp);exact rfl;exact rfl;(intro w' hm;exact hSh w' (hW.next hm)))|((with_reducible apply wl_callp);exact rfl;exact rfl;(intro w hm;exact hU (by rw [sub_size _ (by omega)];omega) w))|refine sT ?_|refine sT2 ?_|refine sN ?_|refine sM fun _=> ?_|(refine sC ?_ ?_<;>intro hb<;>try omega)|fail)
  ·
   (refine eRCT ?_)
   rw [hk3,if_pos (hdec.1 hb)]
   rfl
  ·
   refine ⟨k+1,?_,(by first|omega|(dsimp only;omega)),sB,sB,mS⟩
   refine ⟨by omega,by omega,?_⟩
   rw [hk3,if_neg fun h=>hb (hdec.2 h)]
   rfl
  ·
   refine ⟨k+1,?_,(by first|omega|(dsimp only;omega)),sB,sB,mS⟩
   refine ⟨by omega,by omega,?_⟩
   rw [hk3,if_neg]
   ·
    rfl
   ·
    intro h
    have:=congrArg List.length h
    rw [List.length_map,List.length_take,List.length_drop] at this
    omega
 ·
  have e:k=6:=by omega
  subst e
  rw [show errNames.drop (6 - 1)= [] from rfl,failL] at hk3
  rw [hk3]
  have hL:=literal_at 6
  rw [show (decide (1≤(6:Int)) && decide ((6:Int)≤5))=false from rfl] at hL
  repeat' (first|((with_reducible apply wl_callp);exact rfl;exact rfl;(intro w hm;exact hL w))|refine sT ?_|refine sT2 ?_|refine sM fun _=> ?_|(refine sC ?_ ?_<;>intro hb<;>try omega)|fail)
  all_goals first|(exfalso;omega)|skip
  (refine eRCT ?_)
  rfl
def opStr:List Value:=opNames.map fun x=> .string (mkB x.1)
def opNum:List Value:=opNames.map fun x=> .int .i64 x.2
theorem operators_at (w:World):FnAt Tryz.prog 287 [] w fun v H=> ∃ g g',v= .tuple #[sl (some g) 13 13,sl (some g') 13 13]∧H= [.own (some g) 9 1 13 13 opStr,.own (some g') 2 1 13 13 opNum]:=by
 refine fn_at Tryz.func287 rfl Tryz.ntmps287 rfl ?_
 repeat' (first|refine sT ?_|refine sM fun _=> ?_|(refine sC ?_ ?_<;>intro hb<;>try omega)|fail)
 rename_i g g'
 refine ret2 (.inl rfl) rfl rfl rfl (H' := [.own (some g) 9 1 13 13 opStr,.own (some g') 2 1 13 13 opNum]) ?_ ⟨g,g',rfl,rfl⟩
 exact mS
theorem op_get {k:Nat} (h:k<13): ∃ s n,opNames.drop k=(s,n)::opNames.drop (k+1)∧opStr[k]? =some (.string (mkB s))∧opNum[k]? =some (.int .i64 n)∧bytesOk s∧s.length≤2:=by
 rcases (by omega:k=0∨k=1∨k=2∨k=3∨k=4∨k=5∨k=6∨k=7∨k=8∨k=9∨k=10∨k=11∨k=12) with rfl|rfl|rfl|rfl|rfl|rfl|rfl|rfl|rfl|rfl|rfl|rfl|rfl<;>refine ⟨_,_,rfl,rfl,rfl,?_,by decide⟩<;>(intro c hc;simp at hc;omega)
def signP (l:List Int):Option (Tk × Nat):=
 match opL l opNames with
 |some (k,n)=>some (⟨8,k,emptyB,zeroR,0⟩,n)
 |none=>if l.headD 0=40 then some (⟨9,0,emptyB,zeroR,0⟩,1) else if l.headD 0=41 then some (⟨10,0,emptyB,zeroR,0⟩,1) else if l.headD 0=44 then some (⟨11,0,emptyB,zeroR,0⟩,1) else none
set_option maxHeartbeats 1000000 in
theorem sign_at (a:ByteArray) (ha:a.size≤100000) (i:Nat) (hi:i<a.size) (g:Nat) (w:World) (hr:Ro w g 0 [.string a]):
  Pure Tryz.prog 247 [.pointer (some ⟨g,0,none⟩),.int .i64 (i:Int)] w (tokV (atT i (signP ((ints a).drop i)))):=by
 refine fn_at Tryz.func247 rfl Tryz.ntmps247 rfl ?_
 have hl:=ints_length a
 unfold signP
 rw [headD_at]
 generalize hF:opL ((ints a).drop i) opNames=F
 repeat' (first|((with_reducible apply wl_call);exact rfl;exact rfl;(intro w' hm;exact operators_at w');(rintro v H' ⟨gs,gn,rfl,rfl⟩))|refine sT ?_|refine sT2 ?_|refine sM fun _=> ?_|(refine sC ?_ ?_<;>intro hb<;>try omega)|fail)
 rename_i g4
 refine w_loopK [0,1,4,5,7,14,15] rfl (fun k:Nat=> [(16,.int .i64 (k:Int))]) (fun _=> [.box g4 295 (encTk zeroTk),.own (some gs) 9 1 13 13 opStr,.own (some gn) 2 1 13 13 opNum]) (fun k=>k≤13∧F=opL ((ints a).drop i) (opNames.drop k)) (fun k=>13 - k) 0 ⟨by omega,hF.symm⟩ sB mS ?_
 rintro k ⟨hk2,hk3⟩
 by_cases hk:k<13
 ·
  obtain ⟨s,m,e1,e2,e3,e4,e5⟩:=op_get hk
  rw [e1,opL] at hk3
  have hms:=mkB_size s
  have hP:=hasPrefix_at (sub a i a.size) (mkB s)
  rw [ints_from,ints_mkB e4,hms] at hP
  repeat' (first|((with_reducible apply wl_v);exact rfl;(with_reducible apply v_load_ro (o:=0) (off:=0));exact hr;exact rfl;exact rfl)|((with_reducible apply wl_callp);exact rfl;exact rfl;(intro w hm;exact hP w))|((with_reducible apply wl_v);exact rfl;(with_reducible apply v_indexAddr (j:=k));exact rfl;exact rfl;exact hk)|((with_reducible apply wl_v);exact rfl;(with_reducible apply v_load_own);exact rfl;exact pK;(rw [show 0+k*1=k by omega];first|exact e2|exact e3))|refine sT ?_|refine sT2 ?_|refine sN ?_|refine sM fun _=> ?_|(refine sC ?_ ?_<;>intro hb<;>try omega)|fail)
  ·
   (refine eRCT ?_)
   rw [hk3,if_pos hb,hms]
   rfl
  ·
   refine ⟨k+1,?_,(by first|omega|(dsimp only;omega)),sB,sB,mS⟩
   exact ⟨hk,by rw [hk3,if_neg hb]⟩
 ·
  have e:k=13:=by omega
  subst e
  rw [show opNames.drop 13= [] from rfl,opL] at hk3
  subst hk3
  repeat' (first|((with_reducible apply wl_v);exact rfl;(with_reducible apply v_load_ro (o:=0) (off:=0));exact hr;exact rfl;exact rfl)|refine sT ?_|refine sT2 ?_|refine sN ?_|refine sM fun _=> ?_|(refine sC ?_ ?_<;>intro hb<;>try omega)|fail)
  all_goals first|(exfalso;omega)|skip
  all_goals
   (refine eRCT ?_)
   simp_all
   try rfl
end Go.SL
namespace Go.SL
open Go
theorem pcStep_let {p:Pc} {c:Int} (h:letC c=true):pcStep p c=pcLet p (upC c):=by
 simp only [letC,Bool.or_eq_true,Bool.and_eq_true,decide_eq_true_eq] at h
 rw [pcStep,if_pos]
 unfold upC
 split<;>omega
theorem pcStep_digC {p:Pc} {c:Int} (h:digC c=true):pcStep p c=pcDig p c:=by
 simp only [digC,Bool.and_eq_true,decide_eq_true_eq] at h
 exact pcStep_dig h.1 h.2
theorem pcStep_other {p:Pc} {c:Int} (h:letC c=false) (h2:digC c=false):(pcStep p c).ok=false:=by
 simp only [letC,digC,Bool.or_eq_false_iff,Bool.and_eq_false_iff,decide_eq_false_iff_not] at h h2
 rw [pcStep_no (by omega) (by omega) (by omega)]
theorem pcStep_bad {p:Pc} (h:p.ok=false) (c:Int):(pcStep p c).ok=false:=by
 unfold pcStep
 split
 ·
  simp [pcLet,h]
 ·
  split
  ·
   simp [pcDig,h]
  ·
   rfl
theorem fold_bad: ∀ (l:List Int) {p:Pc},p.ok=false→(l.foldl pcStep p).ok=false
 | [],_,h=>h
 |c::r,_,h=>fold_bad r (pcStep_bad h c)
theorem fold_let: ∀ (l:List Int) (p:Pc),(∀ c∈l,letC c=true)→p.m1=0→l.foldl pcStep p=⟨p.m0+l.length,0,lettersL l p.v0,p.v1,p.ok⟩
 | [],p,_,h=>by obtain ⟨a,b,c,d,e⟩:=p;simp only at h;subst h;simp [lettersL]
 |c::r,p,hl,h=>by
  rw [List.foldl_cons,pcStep_let (hl c List.mem_cons_self),fold_let r _ (fun d hd=>hl d (List.mem_cons_of_mem _ hd)) (by simp [pcLet,h])]
  simp only [pcLet,h,lettersL,decide_true,Bool.and_true,List.length_cons,Pc.mk.injEq,true_and,and_true]
  refine ⟨by push_cast;omega,?_⟩
  rw [show 26*p.v0+(upC c - 65)+1=26*p.v0+(upC c - 64) by omega]
theorem fold_dig: ∀ (l:List Int) (p:Pc),(∀ c∈l,digC c=true)→0<p.m1→l.foldl pcStep p=⟨p.m0,p.m1+l.length,p.v0,rowL l p.v1,p.ok⟩
 | [],p,_,_=>by obtain ⟨a,b,c,d,e⟩:=p;simp [rowL]
 |c::r,p,hl,h=>by
  rw [List.foldl_cons,pcStep_digC (hl c List.mem_cons_self),fold_dig r _ (fun d hd=>hl d (List.mem_cons_of_mem _ hd)) (by simp [pcDig];omega)]
  simp only [pcDig,h,rowL,decide_true,Bool.or_true,Bool.and_true,List.length_cons,Pc.mk.injEq,true_and,and_true]
  push_cast;omega
theorem fold_mixed: ∀ (l:List Int) (p:Pc),(l.all digC=false)→0<p.m1→(l.foldl pcStep p).ok=false
 | [],_,h,_=>by simp at h
 |c::r,p,h,hm=>by
  rw [List.foldl_cons]
  cases hd:digC c
  ·
   apply fold_bad
   cases hl:letC c
   ·
    exact pcStep_other hl hd
   ·
    rw [pcStep_let hl]
    simp only [pcLet]
    rw [decide_eq_false (by omega)]
    simp
  ·
   rw [List.all_cons,hd,Bool.true_and] at h
   apply fold_mixed r _ h
   rw [pcStep_digC hd]
   simp only [pcDig];omega
theorem lettersL_pos: ∀ (l:List Int) {v:Int},(∀ c∈l,letC c=true)→0≤v→(l≠ []∨1≤v)→1≤lettersL l v
 | [],v,_,_,h=>by rcases h with h|h;exact absurd rfl h;exact h
 |c::r,v,hl,h0,_=>by
  have hc:=hl c List.mem_cons_self
  simp only [letC,Bool.or_eq_true,Bool.and_eq_true,decide_eq_true_eq] at hc
  have hu:65≤upC c:=by unfold upC;split<;>omega
  simp only [lettersL]
  exact lettersL_pos r (fun d hd=>hl d (List.mem_cons_of_mem _ hd)) (by omega) (.inr (by omega))
theorem rowL_pos: ∀ (l:List Int) {v:Int},(∀ c∈l,digC c=true)→1≤v→1≤rowL l v
 | [],_,_,h=>h
 |c::r,v,hl,h=>by
  have hc:=hl c List.mem_cons_self
  simp only [digC,Bool.and_eq_true,decide_eq_true_eq] at hc
  simp only [rowL]
  exact rowL_pos r (fun d hd=>hl d (List.mem_cons_of_mem _ hd)) (by omega)
theorem mem_takeWhile {p:Int→Bool}: ∀ {l:List Int} {c:Int},c∈l.takeWhile p→p c=true
 |d::r,c,h=>by
  rw [List.takeWhile_cons] at h
  split at h
  ·
   rename_i hp
   rcases List.mem_cons.1 h with rfl|h
   ·
    exact hp
   ·
    exact mem_takeWhile h
  ·
   cases h
theorem addrP_eq (l:List Int):addrP l=addrL l:=by
 unfold addrP addrL
 dsimp only
 generalize ha:l.takeWhile letC=a
 generalize hd:l.dropWhile letC=d
 have hl:l=a++d:=by rw [← ha,← hd,List.takeWhile_append_dropWhile]
 have hal: ∀ c∈a,letC c=true:=fun c hc=>mem_takeWhile (ha ▸ hc)
 have hp:pcOf l=d.foldl pcStep ⟨a.length,0,lettersL a 0,0,true⟩:=by
  rw [pcOf,hl,List.foldl_append,fold_let a pc0 hal rfl]
  simp [pc0]
 rw [hp]
 cases d with
 |nil=>simp
 |cons c r=>
  have hcl:letC c=false:=by
   cases hq:letC c
   ·
    rfl
   ·
    exfalso
    have hne:l.dropWhile letC≠ []:=by rw [hd];simp
    have:=List.head_dropWhile_not letC hne
    simp only [hd,List.head_cons] at this
    rw [hq] at this;cases this
  rw [List.foldl_cons]
  by_cases ha0:a= []
  ·
   subst ha0
   have:(List.foldl pcStep (pcStep ⟨(([]:List Int).length:Int),0,lettersL [] 0,0,true⟩ c) r).ok=false∨(List.foldl pcStep (pcStep ⟨(([]:List Int).length:Int),0,lettersL [] 0,0,true⟩ c) r).m0=0∨(List.foldl pcStep (pcStep ⟨(([]:List Int).length:Int),0,lettersL [] 0,0,true⟩ c) r).m1=0:=by
    cases hdc:digC c
    ·
     exact .inl (fold_bad r (pcStep_other hcl hdc))
    ·
     cases hr:r.all digC
     ·
      left
      apply fold_mixed r _ hr
      rw [pcStep_digC hdc];simp [pcDig]
     ·
      right;left
      rw [fold_dig r _ (by simpa using hr) (by rw [pcStep_digC hdc];simp [pcDig])]
      rw [pcStep_digC hdc];simp [pcDig]
   rw [if_pos this,if_pos (show (([]:List Int)= []∨_) from .inl rfl)]
  ·
   have hlen:0<(a.length:Int):=by
    have:=List.length_pos_iff.2 ha0
    omega
   cases hdc:digC c
   ·
    rw [if_pos (.inl (fold_bad r (pcStep_other hcl hdc))),if_pos (.inr (.inr (.inr (by simp [hdc]))))]
   ·
    rw [pcStep_digC hdc]
    by_cases h48:c=48
    ·
     rw [if_pos (.inl (fold_bad r (by simp [pcDig,h48]))),if_pos (.inr (.inr (.inl (by simp [h48]))))]
    ·
     cases hr:r.all digC
     ·
      rw [if_pos (.inl (fold_mixed r _ hr (by simp [pcDig]))),if_pos (.inr (.inr (.inr (by simp [hr]))))]
     ·
      have hr' : ∀ x∈r,digC x=true:=by simpa using hr
      have hp2:List.foldl pcStep (pcDig ⟨a.length,0,lettersL a 0,0,true⟩ c) r=⟨a.length,1+r.length,lettersL a 0,rowL (c::r) 0,true⟩:=by
       rw [fold_dig r _ hr' (by simp [pcDig])]
       simp [pcDig,h48,rowL]
      rw [hp2,if_neg (c:=(a= []∨_)) (by simp [ha0,h48,hdc,hr])]
      have hd2:=hdc
      simp only [digC,Bool.and_eq_true,decide_eq_true_eq] at hd2
      have h1:=lettersL_pos a hal (Int.le_refl 0) (.inl ha0)
      have h3:1≤rowL (c::r) 0:=rowL_pos r (v:=min (10*0+(c - 48)) 1025) hr' (by omega)
      generalize rowL (c::r) 0=u at h3 ⊢
      split
      ·
       rename_i h
       exfalso
       rcases h with h|h|h
       ·
        cases h
       ·
        exact absurd h (by show ¬ ((a.length:Int)=0);omega)
       ·
        exact absurd h (by show ¬ (1+(r.length:Int)=0);omega)
      ·
       by_cases hb:1024<lettersL a 0∨1024<u
       ·
        rw [if_pos hb,if_neg]
        simp only [valid,Bool.and_eq_true,decide_eq_true_eq]
        omega
       ·
        rw [if_neg hb,if_pos]
        simp only [valid,Bool.and_eq_true,decide_eq_true_eq]
        omega
end Go.SL
