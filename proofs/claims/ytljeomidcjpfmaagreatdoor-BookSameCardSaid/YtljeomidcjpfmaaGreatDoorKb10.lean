/-
  Lemmas and walks, put together: A3 A4 B1 B2.
-/
import Derived.Test.YtljeomidcjpfmaaGreatDoorKb09
set_option linter.unusedSimpArgs false
set_option linter.unusedVariables false
set_option maxRecDepth 20000
namespace Go.SL
open Go Go.Proofs
attribute [local irreducible] W WL WQ WG WA VOp thn blk cutP scp retP FnAt FnIn
set_option maxRecDepth 10000 in
theorem changedC_at (f:FuncId) [Callable Tryz.prog f] (caps:List Value) (g:Int→Int) (a:ByteArray) (ha:a.size≤1000000) (w:World) (hf: ∀ c w' H,0≤c→c<256→Mem w w' H→Pure Tryz.prog f ([.int .u8 c]++caps) w' (.int .u8 (g c))):
  FnAt Tryz.prog 294 [.string a,.func (.func f) #[] caps.toArray] w fun v H=> ∃ gb cap,v= .slice (some ⟨gb,0,none⟩) a.size cap∧H= [.byt gb 5 a.size cap (((ints a).map g).map (Value.int .u8))]:=by
 refine fn_at Tryz.func294 rfl Tryz.ntmps294 rfl ?_
 repeat' (first|((with_reducible apply wl_toBytes);exact rfl;exact rfl;intro gb cap)|refine sT ?_|refine sM fun _=> ?_|(refine sC ?_ ?_<;>intro hb<;>try omega)|fail)
 refine w_loop (fun i:Nat=> [(5,.slice (some ⟨gb,0,none⟩) a.size cap),(10,.slice (some ⟨gb,0,none⟩) a.size cap),(11,.int .i64 (a.size:Int)),(12,.int .i64 (i:Int)),(1,.func (.func f) #[] caps.toArray)])
  (fun i=> [.byt gb 5 a.size cap ((((ints a).take i).map g++(ints a).drop i).map (Value.int .u8))]) (fun i=>i≤a.size) (fun i=>a.size - i) 0 (by omega) ?_ ?_ ?_
 ·
  exact sB
 ·
  rw [bytesV_eq];simp only [List.take_zero,List.map_nil,List.nil_append,List.drop_zero];exact mS
 ·
  intro i hi
  have hl:=ints_length a
  by_cases hlt:i<a.size
  ·
   have hil:i<(ints a).length:=by omega
   have hok:=ints_ok a (ints a)[i] (List.getElem_mem hil)
   have hget:((((ints a).take i).map g++(ints a).drop i).map (Value.int .u8))[0+i*1]? =some (.int .u8 (ints a)[i]):=by
    rw [List.getElem?_map,show 0+i*1=i by omega,List.getElem?_append_right (by simp;omega)]
    simp [Nat.min_eq_left (Nat.le_of_lt hil),List.getElem?_drop]
   repeat' (first|((with_reducible apply wl_v);exact rfl;(with_reducible apply v_indexAddr);exact rfl;exact rfl;exact hlt)|((with_reducible apply wl_v);exact rfl;(with_reducible apply v_load_byt);exact rfl;exact .hd;exact hget)|((with_reducible apply wl_callvp);exact rfl;exact rfl;infer_instance;exact rfl;(intro w' hm;exact hf _ w' _ hok.1 hok.2 hm))|((with_reducible apply wl_store_byt);exact rfl;exact rfl;exact .hd;exact rfl;(simp;omega))|((with_reducible apply wl_v);exact rfl;(with_reducible apply v_add);exact rfl;exact rfl;(constructor<;>omega))|refine sT ?_|refine sM fun _=> ?_|(refine sC ?_ ?_<;>intro hb<;>try omega)|fail)
   refine ⟨i+1,by omega,by omega,?_,?_⟩
   ·
    exact sB
   ·
    rw [show 0+i*1=i by omega,upd_step g (Value.int .u8) (ints a) i hil]
    exact mS
  ·
   have e:i=a.size:=by omega
   subst e
   repeat' (first|refine sT ?_|refine sM fun _=> ?_|(refine sC ?_ ?_<;>intro hb<;>try omega)|fail)
   refine ret1 (.inl rfl) rfl rfl (.refl _) ⟨gb,cap,rfl,?_⟩
   rw [List.take_of_length_le (by omega),List.drop_of_length_le (by omega),List.append_nil]
set_option maxRecDepth 10000 in
theorem moved1_at (c:Int) (h0:0≤c) (h1:c<256) (ga gb:Nat) (w:World) (ha:Ro w ga 0 [.int .u8 97]) (hb' :Ro w gb 0 [.int .i64 (-32)]):Pure Tryz.prog 391 [.int .u8 c,.pointer (some ⟨ga,0,none⟩),.pointer (some ⟨gb,0,none⟩)] w (.int .u8 (upC c)):=by
 refine fn_at Tryz.func391 rfl Tryz.ntmps391 rfl ?_
 have hwc:IntKind.i64.wrap c=c:=I64.wrap ⟨by omega,by omega⟩
 have h122:IntKind.u8.wrap (97+25)=122:=by decide
 repeat' (first|((with_reducible apply wl_v);exact rfl;(with_reducible apply v_load_ro (off:=0));exact ha;exact rfl;exact rfl)|((with_reducible apply wl_v);exact rfl;(with_reducible apply v_load_ro (off:=0));exact hb';exact rfl;exact rfl)|((with_reducible apply wl_v);exact rfl;(with_reducible apply v_addw_id);exact rfl;exact rfl;exact h122)|((with_reducible apply wl_v (d:=15));exact rfl;(with_reducible apply v_conv_to);exact rfl;exact hwc)|((with_reducible apply wl_v (d:=17));exact rfl;(with_reducible apply v_add);exact rfl;exact rfl;exact ⟨by omega,by omega⟩)|((with_reducible apply wl_v (d:=18));exact rfl;(with_reducible apply v_conv_to (c:=c - 32));exact rfl;(rw [show c+ -32=c - 32 by omega];exact wrap_u8 (by omega) (by omega)))|refine sT ?_|refine sM fun _=> ?_|(refine sC ?_ ?_<;>intro hb<;>try omega)|fail)
 all_goals ((refine rT1 ?_);unfold upC;first|rw [if_pos (by omega)]|rw [if_neg (by omega)])
def upB (a:ByteArray):ByteArray:=mkB ((ints a).map upC)
theorem ints_upB (a:ByteArray):ints (upB a)=(ints a).map upC:=by
 refine ints_mkB ?_
 intro c hc
 obtain ⟨d,hd,rfl⟩:=List.mem_map.1 hc
 have:=ints_ok a d hd
 unfold upC
 split<;>omega
set_option maxRecDepth 10000 in
theorem moved_at (a:ByteArray) (ha:a.size≤1000000) (w:World):Pure Tryz.prog 357 [.string a,.int .u8 97,.int .i64 (-32)] w (.string (upB a)):=by
 refine fn_at Tryz.func357 rfl Tryz.ntmps357 rfl ?_
 repeat' (first|((with_reducible apply wl_call (R:=fun v H=> ∃ gb cap,v= .slice (some ⟨gb,0,none⟩) a.size cap∧H= [.byt gb 5 a.size cap (((ints a).map upC).map (Value.int .u8))]));exact rfl;exact rfl;(intro w' hm;exact changedC_at 391 [_,_] upC a ha w' (fun c w2 H2 h0 h1 hm2=>moved1_at c h0 h1 _ _ w2 ((Ro.of_box hm pK).next hm2) ((Ro.of_box hm pK).next hm2)));(rintro v H' ⟨gb,cap,rfl,rfl⟩))|((with_reducible apply wl_v);exact rfl;(with_reducible apply v_ofBytes);exact rfl;exact .hd;simp [ints_length])|refine sT ?_|refine sM fun _=> ?_|(refine sC ?_ ?_<;>intro hb<;>try omega)|fail)
 (refine rT1 ?_)
 rfl
set_option maxRecDepth 10000 in
theorem Upper_at (a:ByteArray) (ha:a.size≤1000000) (w:World):Pure Tryz.prog 303 [.string a] w (.string (upB a)):=by
 refine fn_at Tryz.func303 rfl Tryz.ntmps303 rfl ?_
 repeat' (first|((with_reducible apply wl_callp);exact rfl;exact rfl;(intro w hm;exact moved_at a ha w))|refine sT ?_|refine sM fun _=> ?_|(refine sC ?_ ?_<;>intro hb<;>try omega)|fail)
 (refine rT1 ?_)
 rfl
def unqL:List Int→Option (List Int)
 | []=>some []
 |c::r=>if c≠34 then (unqL r).map (c:: ·) else match r with
  | []=>none
  |d::r' =>if d=34 then (unqL r').map (34:: ·) else none
def unquoteL (l:List Int):List Int × Int:=
 if l.length<2∨l.head? ≠some 34∨l.getLast? ≠some 34∨l.all (fun c=>plainC c)=false then ([],4)
 else match unqL ((l.drop 1).dropLast) with
  |none=>([],4)
  |some r=>if 256<r.length then ([],5) else (r,0)
theorem plainB_ints (a:ByteArray):plainB a=(ints a).all fun c=>plainC c:=by
 simp only [plainB,ints,List.all_map]
 congr 1
 funext c
 simp only [Function.comp,plainC]
 rw [Bool.eq_iff_iff];simp;omega
theorem last_bat (a:ByteArray) (c:Int) (h:0<a.size):((ints a).getLast? =some c)↔bat a (a.size - 1)=c:=by
 rw [List.getLast?_eq_getElem?,ints_length,bat_get (by omega)]
 simp
theorem unq_drop {a:ByteArray} {i:Nat} (h0:1≤i) (h:i<a.size - 1):(((ints a).drop 1).dropLast).drop (i - 1)=bat a i::(((ints a).drop 1).dropLast).drop i:=by
 have hl:=ints_length a
 obtain ⟨j,rfl⟩: ∃ j,i=j+1:=⟨i - 1,by omega⟩
 rw [Nat.add_sub_cancel]
 have hlen:(((ints a).drop 1).dropLast).length=a.size - 2:=by simp;omega
 have hlt:j<(((ints a).drop 1).dropLast).length:=by omega
 rw [List.drop_eq_getElem_cons hlt]
 congr 1
 have h1:=bat_get (a:=a) (i:=j+1) (by omega)
 have h2:(((ints a).drop 1).dropLast)[j]? =some (bat a (j+1)):=by
  rw [List.getElem?_dropLast,if_pos (by simp;omega),List.getElem?_drop,Nat.add_comm 1 j,h1]
 rw [List.getElem?_eq_getElem hlt] at h2
 exact Option.some.inj h2
theorem unqL_cons {c:Int} {r:List Int} (h:c≠34):unqL (c::r)=(unqL r).map (c:: ·):=by
 rw [unqL.eq_def];simp [h]
theorem Unquote_at (a:ByteArray) (ha:a.size≤1000000) (w:World):Pure Tryz.prog 360 [.string a] w (.tuple #[.string (mkB (unquoteL (ints a)).1),.int .i64 (unquoteL (ints a)).2]):=by
 refine fn_at Tryz.func360 rfl Tryz.ntmps360 rfl ?_
 have hl:=ints_length a
 have hp:=printable_at a ha
 rw [plainB_ints] at hp
 have hh:=head_bat a 34
 have hg:=last_bat a 34
 by_cases hbad:(ints a).length<2∨(ints a).head? ≠some 34∨(ints a).getLast? ≠some 34∨(ints a).all (fun c=>plainC c)=false
 ·
  rw [unquoteL,if_pos hbad]
  repeat' (first|((with_reducible apply wl_callp);exact rfl;exact rfl;(intro w hm;exact hp w))|refine sT ?_|refine sS ?_|refine sT2 ?_|refine sN ?_|refine sM fun _=> ?_|(refine sC ?_ ?_<;>intro hb<;>try omega)|fail)
  iterate 4 (focus ((refine rT2 ?_);rfl))
  exfalso
  rename_i h1 h2 h3
  rcases hbad with h|h|h|h
  ·
   omega
  ·
   exact h (hh.2 ⟨by omega,Decidable.not_not.1 h2⟩)
  ·
   exact h ((hg (by omega)).2 (Decidable.not_not.1 h3))
  ·
   rw [hb] at h;cases h
 ·
  have hun:unquoteL (ints a)=match unqL (((ints a).drop 1).dropLast) with
    |none=>([],4)
    |some r=>if 256<r.length then ([],5) else (r,0):=by rw [unquoteL,if_neg hbad]
  rw [hun]
  simp only [not_or,Decidable.not_not,Bool.not_eq_false] at hbad
  obtain ⟨b1,b2,b3,b4⟩:=hbad
  have b5:=(hh.1 b2).2
  have b6:=(hg (by omega)).1 b3
  rw [b4] at hp
  have hn:(a.size:Int) - 1=((a.size - 1:Nat):Int):=by omega
  generalize hB:((ints a).drop 1).dropLast=B
  have hBl:B.length=a.size - 2:=by rw [← hB];simp;omega
  repeat' (first|((with_reducible apply wl_callp);exact rfl;exact rfl;(intro w hm;exact hp w))|refine sT ?_|refine sS ?_|refine sT2 ?_|refine sN ?_|refine sM fun _=> ?_|(refine sC ?_ ?_<;>intro hb<;>try omega)|fail)
  all_goals first|(exfalso;omega)|skip
  refine w_nilrow 5 1 ?_
  refine w_loopK [0,4] rfl (fun x:Nat × List Int × Option Nat × Nat=> [(5,sl x.2.2.1 x.2.1.length x.2.2.2),(6,.int .i64 (x.1:Int))]) (fun x=> [.own x.2.2.1 5 1 x.2.1.length x.2.2.2 (x.2.1.map (Value.int .u8))]) (fun x=>1≤x.1∧x.1≤a.size - 1∧x.2.1.length≤x.1∧unqL B=(unqL (B.drop (x.1 - 1))).map (x.2.1++ ·)) (fun x=>a.size - x.1) (1,[],none,0) ⟨by omega,by omega,by simp,by simp⟩ sB mS ?_
  rintro ⟨i,out,A,cap⟩ ⟨i1,i2,i3,i4⟩
  dsimp only at i1 i2 i3 i4 ⊢
  by_cases hend:i=a.size - 1
  ·
   have hBd:B.drop (i - 1)= []:=List.drop_of_length_le (by omega)
   rw [hBd] at i4
   simp only [unqL,Option.map_some,List.append_nil] at i4
   rw [i4]
   dsimp only
   by_cases hlen:256<out.length
   ·
    rw [if_pos hlen]
    repeat' (first|refine sT ?_|refine sS ?_|refine sT2 ?_|refine sN ?_|refine sM fun _=> ?_|(refine sC ?_ ?_<;>intro hb<;>try omega)|fail)
    all_goals first|(exfalso;omega)|((refine rT2 ?_);rfl)
   ·
    rw [if_neg hlen]
    repeat' (first|((with_reducible apply wl_v);exact rfl;(with_reducible apply v_ofBytesO);exact rfl;exact pK;exact rfl)|refine sT ?_|refine sS ?_|refine sT2 ?_|refine sN ?_|refine sM fun _=> ?_|(refine sC ?_ ?_<;>intro hb<;>try omega)|fail)
    all_goals first|(exfalso;omega)|((refine rT2 ?_);rfl)
  ·
   have hdr:=unq_drop (a:=a) i1 (by omega)
   rw [hB] at hdr
   rw [hdr] at i4
   by_cases hq:bat a i=34
   ·
    rw [hq] at i4
    by_cases h1:i+1=a.size - 1
    ·
     have hBd:B.drop i= []:=List.drop_of_length_le (by omega)
     rw [hBd] at i4
     simp only [unqL,ne_eq,not_true_eq_false,if_false,Option.map_none] at i4
     rw [i4]
     repeat' (first|refine sT ?_|refine sS ?_|refine sT2 ?_|refine sN ?_|refine sM fun _=> ?_|(refine sC ?_ ?_<;>intro hb<;>try omega)|fail)
     all_goals first|(exfalso;omega)|((refine rT2 ?_);rfl)
    ·
     have hdr2:=unq_drop (a:=a) (i:=i+1) (by omega) (by omega)
     rw [hB,Nat.add_sub_cancel] at hdr2
     rw [hdr2] at i4
     by_cases h2:bat a (i+1)=34
     ·
      simp only [unqL,ne_eq,not_true_eq_false,if_false,h2,if_true,Option.map_map] at i4
      repeat' (first|((with_reducible apply wl_append1);(iterate 3 exact rfl);exact pK;exact pK;exact rfl;(simp [Value.oneCell']);omega;(simp only [maxLen];omega);intro g8 c8)|((with_reducible apply wl_v (d:=63));exact rfl;(with_reducible apply v_addN (b:=2));exact rfl;exact rfl;(simp only [maxLen];omega))|refine sT ?_|refine sS ?_|refine sT2 ?_|refine sN ?_|refine sM fun _=> ?_|(refine sC ?_ ?_<;>intro hb<;>try omega)|fail)
      all_goals first|(exfalso;omega)|skip
      refine ⟨(i+2,out++ [34],some g8,c8),⟨by dsimp only;omega,by dsimp only;omega,by simp;omega,?_⟩,(by dsimp only;omega),?_,sB,?_⟩
      ·
       dsimp only
       rw [i4,show i+2 - 1=i+1 by omega]
       congr 1
       funext l
       simp
      ·
       simp only [List.length_append,List.length_singleton]
       exact sB
      ·
       simp only [List.length_append,List.length_singleton,List.map_append,List.map_cons,List.map_nil]
       exact mS
     ·
      simp only [unqL,ne_eq,not_true_eq_false,if_false,h2,Option.map_none] at i4
      rw [i4]
      repeat' (first|refine sT ?_|refine sS ?_|refine sT2 ?_|refine sN ?_|refine sM fun _=> ?_|(refine sC ?_ ?_<;>intro hb<;>try omega)|fail)
      all_goals first|(exfalso;omega)|((refine rT2 ?_);rfl)
   ·
    rw [unqL_cons hq,Option.map_map] at i4
    repeat' (first|((with_reducible apply wl_append1);(iterate 3 exact rfl);exact pK;exact pK;exact rfl;(simp [Value.oneCell']);omega;(simp only [maxLen];omega);intro g8 c8)|refine sT ?_|refine sS ?_|refine sT2 ?_|refine sN ?_|refine sM fun _=> ?_|(refine sC ?_ ?_<;>intro hb<;>try omega)|fail)
    all_goals first|(exfalso;omega)|skip
    refine ⟨(i+1,out++ [bat a i],some g8,c8),⟨by dsimp only;omega,by dsimp only;omega,by simp;omega,?_⟩,(by dsimp only;omega),?_,sB,?_⟩
    ·
     dsimp only
     rw [i4,show i+1 - 1=i by omega]
     congr 1
     funext l
     simp
    ·
     simp only [List.length_append,List.length_singleton]
     exact sB
    ·
     simp only [List.length_append,List.length_singleton,List.map_append,List.map_cons,List.map_nil]
     exact mS
def wordsB:List ByteArray:= [⟨#[]⟩,⟨#[35,68,73,86,47,48,33]⟩,⟨#[35,86,65,76,85,69,33]⟩,⟨#[35,78,85,77,33]⟩,⟨#[35,78,47,65]⟩,⟨#[35,82,69,70,33]⟩,⟨#[35,67,89,67,76,69,33]⟩,⟨#[35,68,69,78,73,69,68]⟩]
def Words (w:World):Prop:=Ro w 0 0 (wordsB.map Value.string)
theorem Words.next {w0 w:World} {H:List Blk} (h:Words w0) (hm:Mem w0 w H):Words w:=Ro.next h hm
def failV (c:Int):Vl:=⟨4,if c<1∨7<c then 2 else c,emptyB⟩
def makeV (n:Int):Vl:=if n= -9223372036854775808 then failV 3 else ⟨1,n,emptyB⟩
def truthV (b:Bool):Vl:=⟨2,if b then 1 else 0,emptyB⟩
def trueB:ByteArray:=⟨#[84,82,85,69]⟩
def falseB:ByteArray:=⟨#[70,65,76,83,69]⟩
def namedV (a:ByteArray):Vl:=if upB a=trueB then truthV true else if upB a=falseB then truthV false else failV 2
theorem Fail_at (c:Int) (w:World):Pure Tryz.prog 249 [.int .i64 c] w (.agg (encV (failV c)).toArray):=by
 refine fn_at Tryz.func249 rfl Tryz.ntmps249 rfl ?_
 repeat' (first|refine sT ?_|refine sM fun _=> ?_|(refine sC ?_ ?_<;>intro hb<;>try omega)|exact cT|fail)
 all_goals ((refine eRC ?_);simp only [failV];(first|rw [if_pos (by omega)]|rw [if_neg (by omega)]);rfl)
theorem Make_at (n:Int) (w:World):Pure Tryz.prog 252 [.int .i64 n] w (.agg (encV (makeV n)).toArray):=by
 refine fn_at Tryz.func252 rfl Tryz.ntmps252 rfl ?_
 repeat' (first|((with_reducible apply wl_callp);exact rfl;exact rfl;(intro w hm;exact Fail_at 3 w))|refine sT ?_|refine sM fun _=> ?_|(refine sC ?_ ?_<;>intro hb<;>try omega)|exact cT|fail)
 all_goals ((refine eRC ?_);simp_all [makeV,encV,failV,emptyB])
theorem Truth_at (b:Bool) (w:World):Pure Tryz.prog 356 [.bool b] w (.agg (encV (truthV b)).toArray):=by
 refine fn_at Tryz.func356 rfl Tryz.ntmps356 rfl ?_
 repeat' (first|refine sT ?_|refine sM fun _=> ?_|(refine sC ?_ ?_<;>intro hb<;>try omega)|exact cT|fail)
 all_goals ((refine eRC ?_);simp_all [truthV,encV,emptyB])
theorem named_at (v:Vl) (ha:v.text.size≤1000000) (w:World):Pure Tryz.prog 302 [.agg (encV v).toArray] w (.agg (encV (namedV v.text)).toArray):=by
 refine fn_at Tryz.func302 rfl Tryz.ntmps302 rfl ?_
 repeat' (first|((with_reducible apply wl_callp);exact rfl;exact rfl;(intro w hm;exact Upper_at v.text ha w))|((with_reducible apply wl_callp);exact rfl;exact rfl;(intro w hm;exact Truth_at _ w))|((with_reducible apply wl_callp);exact rfl;exact rfl;(intro w hm;exact Fail_at 2 w))|refine sT ?_|refine sM fun _=> ?_|(refine sC ?_ ?_<;>intro hb<;>try omega)|exact cT|fail)
 all_goals ((refine eRC ?_);simp_all [namedV,trueB,falseB];rfl)
theorem Show_at (c:Int) (h1:1≤c) (h2:c≤5) (w:World) (hw:Words w):Pure Tryz.prog 366 [.agg (encV ⟨4,c,emptyB⟩).toArray] w (.string (wordsB.getD c.toNat emptyB)):=by
 refine fn_at Tryz.func366 rfl Tryz.ntmps366 rfl ?_
 have he:eqV ⟨4,c,emptyB⟩ (failV 7)=false:=by simp [eqV,failV];omega
 have hv:valE ⟨4,c,emptyB⟩=0:=by
  have h6:decide (c≤6)=true:=decide_eq_true (by omega)
  simp [valE,valOk,h1,h6]
 have hc:=val_at ⟨4,c,emptyB⟩
 rw [hv] at hc
 obtain ⟨k,rfl⟩: ∃ k:Nat,c=(k:Int):=⟨c.toNat,by omega⟩
 have hcell:(wordsB.map Value.string)[k*1]? =some (.string (wordsB.getD k emptyB)):=by
  rcases (by omega:k=1∨k=2∨k=3∨k=4∨k=5) with rfl|rfl|rfl|rfl|rfl<;>rfl
 repeat' (first|((with_reducible apply wq_callp);exact rfl;exact rfl;(intro w hm;exact Fail_at 7 w))|((with_reducible apply wq_callp);exact rfl;exact rfl;(intro w hm;exact hc w))|((with_reducible apply wq_v);exact rfl;exact he ▸ v_eqlV (b:=failV 7) rfl rfl)|((with_reducible apply wl_v);exact rfl;(with_reducible apply v_ia_arr (j:=k));exact rfl;exact rfl;omega)|((with_reducible apply wl_v);exact rfl;(with_reducible apply v_load_ro (o:=0));exact hw;exact rfl;exact hcell)|refine sT ?_|refine sQ ?_|refine sD ?_|refine sM fun _=> ?_|(refine sC ?_ ?_<;>intro hb<;>try omega)|(refine sCQ ?_ ?_<;>intro hb<;>try omega)|exact cT|fail)
 (refine rT1 ?_)
 rfl
instance:KLaw Tryz.prog 5 (fun z:Int=>Value.int .u8 z):=klaw_int
theorem wl_mapIns_to {P:Program} {n:Fr} {w0:World} {Q:Post} {s:Slots} {H:List Blk} {rest:List Oper} {ty:TypeId} {p:String} {af:Array Edge} {κ:Type} [DecidableEq κ] {enc:κ→Value} {t K E g clock:Nat} {m x kx:Operand} {k:κ} {v:Value} {es:List (κ × Value × Nat)} {es' :List (κ × Value × Nat)} {c' :Nat} {R:List Blk} {ops:Array Oper} [ht:Und P t (.map K E)] [hk:KLaw P K enc] (hm:ev s m=some (.map (some g))) (hkx:ev s kx=some (enc k)) (hx:ev s x=some v) (hsel:Sel (.obj g (mobj enc es clock)) H R)
  (he:kput k v clock es=(es',c')) (h:WL P n w0 ops rest Q s (.obj g (mobj enc es' c')::R)):WL P n w0 ops (⟨none,.insert t m kx x,ty,p,af,none⟩::rest) Q s H:=by
 refine wl_mapIns hm hkx hx hsel ?_
 rw [he];exact h
theorem kput_new {κ:Type} [DecidableEq κ] {k:κ} {v:Value} {clock:Nat} {es:List (κ × Value × Nat)} (h:kfind k es 0=none):kput k v clock es=(es++ [(k,v,clock)],clock+1):=by
 simp [kput,h]
def boolMap (v:Vl):List (Int × Value × Nat):=
 [(0,.func (.func 300) #[.agg (encV v).toArray] #[],0),(1,.func (.func 300) #[.agg (encV v).toArray] #[],1),(2,.func (.func 301) #[.agg (encV v).toArray] #[],2),(3,.func (.func 302) #[.agg (encV v).toArray] #[],3),(4,.func (.func 301) #[.agg (encV v).toArray] #[],4)]
theorem toBool1_at (v:Vl) (w:World):FnAt Tryz.prog 299 [.agg (encV v).toArray] w fun u H=> ∃ g,u= .map (some g)∧H= [.obj g (mobj (fun z:Int=>Value.int .u8 z) (boolMap v) 5)]:=by
 refine fn_at Tryz.func299 rfl Tryz.ntmps299 rfl ?_
 repeat' (first|((with_reducible apply wl_makeMap (enc:=fun z:Int=>Value.int .u8 z));exact rfl;intro g)|((with_reducible apply wl_v);exact rfl;(with_reducible apply v_makeMeth);exact rfl)|((with_reducible apply wl_mapIns_to (enc:=fun z:Int=>Value.int .u8 z));(iterate 3 exact rfl);exact pK;exact kput_new rfl)|refine sT ?_|refine sM fun _=> ?_|(refine sC ?_ ?_<;>intro hb<;>try omega)|exact cT|fail)
 exact ret1 (H' := [.obj g (mobj (fun z:Int=>Value.int .u8 z) (boolMap v) 5)]) (.inl rfl) rfl rfl (.pick .hd (.nil _)) ⟨g,rfl,rfl⟩
def boolTextV (v:Vl):Vl:=if valE v=0 then namedV v.text else failV 2
set_option maxHeartbeats 1000000 in
theorem convText_at (v:Vl) (hk:v.kind=3) (ha:v.text.size≤1000000) (w:World):Pure Tryz.prog 298 [.agg (encV v).toArray,.func (.func 299) #[] #[]] w (.agg (encV (boolTextV v)).toArray):=by
 refine fn_at Tryz.func298 rfl Tryz.ntmps298 rfl ?_
 obtain ⟨k,num,text⟩:=v
 dsimp only at hk ha
 subst hk
 have hv:=val_at ⟨3,num,text⟩
 have hn:=named_at ⟨3,num,text⟩ ha
 repeat' (first|refine sT ?_|refine sM fun _=> ?_|(refine sC ?_ ?_<;>intro hb<;>try omega)|exact cT|fail)
 rename_i g2 g4
 refine w_cutG (id:=1) (ι:=Unit) (fun _=> [(5,.func (.func 302) #[.agg (encV ⟨3,num,text⟩).toArray] #[]),(6,.bool true),(2,.pointer (some ⟨g2,0,none⟩)),(4,.pointer (some ⟨g4,0,none⟩))]) (fun _=> [.box g2 173 (encV ⟨3,num,text⟩),.box g4 173 (encV zeroV)]) (fun _=>True) ?_ ?_
 ·
  refine w_drawA 11 rfl (by kernel_rfl) ?_
  ((with_reducible apply wa_pure (i:=0));exact rfl;exact rfl;decide+kernel;decide+kernel;decide+kernel;exact nP;(intro _ _;exact vP))
  ((with_reducible apply wa_pure (i:=3));exact rfl;exact rfl;decide+kernel;decide+kernel;decide+kernel;exact nP;(intro _ _;exact vP))
  repeat' (first|((with_reducible apply wa_two (i:=1) (j:=4));exact rfl;exact rfl;decide+kernel)|((with_reducible apply wa_two (i:=2) (j:=4));exact rfl;exact rfl;decide+kernel)|((with_reducible apply wa_one (i:=1));exact rfl;decide+kernel)|((with_reducible apply wa_one (i:=2));exact rfl;decide+kernel)|((with_reducible apply wa_one (i:=4));exact rfl;decide+kernel)|((with_reducible apply wa_one (i:=5));exact rfl;decide+kernel)|((with_reducible apply wa_pure (i:=6));exact rfl;exact rfl;decide+kernel;decide+kernel;decide+kernel;exact nP;(intro _ _;exact vP))|((with_reducible apply wa_pure (i:=7));exact rfl;exact rfl;decide+kernel;decide+kernel;decide+kernel;exact nP;(intro _ _;exact vP))|((with_reducible apply wa_pure (i:=8));exact rfl;exact rfl;decide+kernel;decide+kernel;decide+kernel;exact nP;(intro _ _;exact vP))|((with_reducible apply wa_pure (i:=9));exact rfl;exact rfl;decide+kernel;decide+kernel;decide+kernel;exact nP;(intro _ _;exact vP))|((with_reducible apply wa_pure (i:=10));exact rfl;exact rfl;decide+kernel;decide+kernel;decide+kernel;exact nP;(intro _ _;exact vP))|((with_reducible apply wa_done);decide+kernel)|((with_reducible apply wl_callv);exact rfl;exact rfl;infer_instance;exact rfl;exact FnIn.of_at (fun w' _=>toBool1_at ⟨3,num,text⟩ w');(rintro _ _ ⟨H1,⟨g5,rfl,rfl⟩,rfl⟩))|((with_reducible apply wl_v);exact rfl;(with_reducible apply v_lookupOk (enc:=fun z:Int=>Value.int .u8 z));exact rfl;exact rfl;exact pK;exact rfl)|refine sT ?_|refine sM fun _=> ?_|(refine sC ?_ ?_<;>intro hb<;>try omega)|exact cT|fail)
  all_goals ((apply cut_n;rotate_left 1;exact sB;exact mS);trivial)
 ·
  rintro _ -
  simp only [boolTextV]
  generalize valE ⟨3,num,text⟩=e at hv
  repeat' (first|((with_reducible apply wl_callp);exact rfl;exact rfl;(intro w hm;exact hv w))|((with_reducible apply wl_callp);exact rfl;exact rfl;(intro w hm;exact Fail_at 2 w))|((with_reducible apply wl_callmp);exact rfl;exact rfl;infer_instance;exact rfl;(intro w' _;exact hn w'))|refine sT ?_|refine sM fun _=> ?_|(refine sC ?_ ?_<;>intro hb<;>try omega)|exact cT|fail)
  all_goals
   (refine eRC ?_)
   simp_all
   rfl
theorem ToBool_at (v:Vl) (hk:v.kind=3) (ha:v.text.size≤1000000) (w:World):Pure Tryz.prog 246 [.agg (encV v).toArray] w (.agg (encV (boolTextV v)).toArray):=by
 refine fn_at Tryz.func246 rfl Tryz.ntmps246 rfl ?_
 repeat' (first|((with_reducible apply wl_callp);exact rfl;exact rfl;(intro w hm;exact convText_at v hk ha w))|refine sT ?_|refine sM fun _=> ?_|(refine sC ?_ ?_<;>intro hb<;>try omega)|exact cT|fail)
 (refine eRC ?_)
 rfl
def codeFrom (u:ByteArray):List ByteArray→Int→Int × Int
 | [],_=>(0,4)
 |x::r,i=>if x=u then (i,0) else codeFrom u r (i+1)
def codeE (a:ByteArray):Int × Int:=codeFrom (upB a) (wordsB.drop 1) 1
theorem wordsB_get {i:Nat} (h:i<8):(wordsB.map Value.string)[i]? =some (.string (wordsB.getD i emptyB)):=by
 rcases (by omega:i=0∨i=1∨i=2∨i=3∨i=4∨i=5∨i=6∨i=7) with rfl|rfl|rfl|rfl|rfl|rfl|rfl|rfl<;>rfl
theorem wordsB_drop {i:Nat} (h:i<8):wordsB.drop i=wordsB.getD i emptyB::wordsB.drop (i+1):=by
 rcases (by omega:i=0∨i=1∨i=2∨i=3∨i=4∨i=5∨i=6∨i=7) with rfl|rfl|rfl|rfl|rfl|rfl|rfl|rfl<;>rfl
theorem Code_at (a:ByteArray) (ha:a.size≤1000000) (w:World) (hw:Words w):Pure Tryz.prog 248 [.string a] w (.tuple #[.int .i64 (codeE a).1,.int .i64 (codeE a).2]):=by
 refine fn_at Tryz.func248 rfl Tryz.ntmps248 rfl ?_
 have hload:(((wordsB.map Value.string).drop 0).take 8)=wordsB.map Value.string:=rfl
 have hU:=Upper_at a ha
 generalize hu:upB a=u at hU
 repeat' (first|((with_reducible apply wl_callp);exact rfl;exact rfl;(intro w hm;exact hU w))|((with_reducible apply wl_v);exact rfl;(with_reducible apply v_loads_ro (o:=0) (off:=0));exact hw;exact rfl;exact hload;exact rfl)|refine sT ?_|refine sT2 ?_|refine sM fun _=> ?_|(refine sC ?_ ?_<;>intro hb<;>try omega)|exact cT|fail)
 refine w_loopK [0,8] rfl (fun i:Nat=> [(9,.int .i64 (i:Int))]) (fun _=> []) (fun i=>i≤8∧codeE a=codeFrom u (wordsB.drop (max i 1)) (max i 1:Nat)) (fun i=>8 - i) 0 ⟨by omega,by rw [codeE,hu];rfl⟩ sB mS ?_
 rintro i ⟨hi,hr⟩
 by_cases hlt:i<8
 ·
  have hx:=wordsB_get hlt
  have hd:=wordsB_drop hlt
  generalize wordsB.getD i emptyB=x at hx hd
  repeat' (first|((with_reducible apply wl_v);exact rfl;(with_reducible apply v_index_arr);exact rfl;exact rfl;exact hlt;exact hx)|refine sT ?_|refine sT2 ?_|refine sN ?_|refine sM fun _=> ?_|(refine sC ?_ ?_<;>intro hb<;>try omega)|exact cT|fail)
  ·
   rename_i h0
   rw [show max i 1=i by omega,hd,codeFrom,if_pos hb] at hr
   rw [hr]
   (refine rT2 ?_)
   rfl
  ·
   rename_i h0
   rw [show max i 1=i by omega,hd,codeFrom,if_neg hb] at hr
   refine ⟨i+1,?_,(by first|omega|(dsimp only;omega)),sB,sB,mS⟩
   refine ⟨hlt,?_⟩
   rw [hr,show max (i+1) 1=i+1 by omega]
   rfl
  ·
   have h0:i=0:=by omega
   subst h0
   refine ⟨0+1,?_,(by first|omega|(dsimp only;omega)),sB,sB,mS⟩
   exact ⟨by omega,hr⟩
 ·
  have e:i=8:=by omega
  subst e
  rw [hr]
  repeat' (first|refine sT ?_|refine sT2 ?_|refine sM fun _=> ?_|(refine sC ?_ ?_<;>intro hb<;>try omega)|exact cT|fail)
  all_goals first|(exfalso;omega)|((refine rT2 ?_);rfl)
end Go.SL
namespace Go.SL
open Go Go.Proofs
attribute [local irreducible] W WL WQ WG WA WX WLI WR WT VOp thn blk cutP scp retP endB FnAt FnIn
theorem lexDigit_at (c:Int) (w:World):Pure Tryz.prog 359 [.int .u8 c] w (.bool (digC c)):=by
 refine fn_at Tryz.func359 rfl Tryz.ntmps359 rfl ?_
 repeat' (first|refine sT ?_|refine sM fun _=> ?_|(refine sC ?_ ?_<;>intro hb<;>try omega)|fail)
 all_goals ((refine rT1 ?_);((try simp only [← Int.not_lt] at*);simp_all [digC, -Int.not_lt, -Int.not_le,← Int.not_lt]))
theorem lexLetter_at (c:Int) (w:World):Pure Tryz.prog 361 [.int .u8 c] w (.bool (letC c)):=by
 refine fn_at Tryz.func361 rfl Tryz.ntmps361 rfl ?_
 repeat' (first|refine sT ?_|refine sM fun _=> ?_|(refine sC ?_ ?_<;>intro hb<;>try omega)|fail)
 all_goals ((refine rT1 ?_);(try simp only [← Int.not_lt] at*);simp_all [letC, -Int.not_lt, -Int.not_le,← Int.not_lt];try omega)
theorem lexWrd_at (c:Int) (w:World):Pure Tryz.prog 393 [.int .u8 c] w (.bool (wrdC c)):=by
 refine fn_at Tryz.func393 rfl Tryz.ntmps393 rfl ?_
 repeat' (first|((with_reducible apply wl_callp);exact rfl;exact rfl;(intro w hm;exact lexLetter_at c w))|((with_reducible apply wl_callp);exact rfl;exact rfl;(intro w hm;exact lexDigit_at c w))|refine sT ?_|refine sM fun _=> ?_|(refine sC ?_ ?_<;>intro hb<;>try omega)|fail)
 all_goals ((refine rT1 ?_);simp_all [wrdC])
def pieceL (p:Int→Bool) (l:List Int):List Int:=l.take (runL p l)
theorem pieceL_cons {p:Int→Bool} {c:Int} {r:List Int} (h:p c=true):pieceL p (c::r)=c::pieceL p r:=by simp [pieceL,runL,h]
theorem pieceL_stop {p:Int→Bool} {c:Int} {r:List Int} (h:p c=false):pieceL p (c::r)= []:=by simp [pieceL,runL,h]
theorem pieceL_length (p:Int→Bool) (l:List Int):(pieceL p l).length=runL p l:=by
 simp [pieceL,Nat.min_eq_left (runL_le p l)]
set_option maxHeartbeats 1000000 in
theorem piece_seq (a:ByteArray) (ha:a.size≤1000000) (i0:Nat) (hi0:i0≤a.size) (fis:FuncId) [Callable Tryz.prog fis] (p:Int→Bool) (hf: ∀ c w,Pure Tryz.prog fis [.int .u8 c] w (.bool (p c))) (w0:World) (g4 g3 g5:Nat):
  Seqs Tryz.prog 406 [.pointer (some ⟨g4,0,none⟩),.pointer (some ⟨g3,0,none⟩),.pointer (some ⟨g5,0,none⟩)] w0 [.box g4 3 [.int .i64 (i0:Int)],.box g3 9 [.string a],.box g5 460 [.func (.func fis) #[] #[]]] (pieceL p ((ints a).drop i0)) (fun c=> [.int .u8 c]):=by
 intro l I J H0 hy h0
 refine FnIn.msub (H' := [.box g4 3 [.int .i64 (i0:Int)],.box g3 9 [.string a],.box g5 460 [.func (.func fis) #[] #[]]]++H0) ?_ MSub.swap
 refine fn_in Tryz.func406 rfl Tryz.ntmps406 rfl ?_
 repeat' (first|refine sT ?_|refine sT2 ?_|refine sM fun _=> ?_|(refine sC ?_ ?_<;>intro hb<;>try omega)|fail)
 refine w_loop (fun y:Nat × List Int × List Blk=> [(0,.func (.yield l) #[] #[]),(1,.pointer (some ⟨g4,0,none⟩)),(2,.pointer (some ⟨g3,0,none⟩)),(3,.pointer (some ⟨g5,0,none⟩)),(5,.int .i64 (y.1:Int))])
  (fun y=> [.box g4 3 [.int .i64 (i0:Int)],.box g3 9 [.string a],.box g5 460 [.func (.func fis) #[] #[]]]++y.2.2)
  (fun y=>y.1≤a.size∧pieceL p ((ints a).drop i0)=y.2.1++pieceL p ((ints a).drop y.1)∧I y.2.1 y.2.2) (fun y=>a.size - y.1) (i0,[],H0) ⟨hi0,rfl,h0⟩ sB (MSub.refl _) ?_
 rintro ⟨i,pre,H1⟩ ⟨hi,hus,hI⟩
 dsimp only at hi hus hI ⊢
 by_cases hlt:i<a.size
 ·
  rw [bat_drop hlt] at hus
  have hfc:=fun w=>hf (bat a i) w
  cases hp:p (bat a i)
  ·
   rw [hp] at hfc
   rw [pieceL_stop hp,List.append_nil] at hus
   repeat' (first|((with_reducible apply wq_callvp);exact rfl;exact rfl;infer_instance;exact rfl;(intro w' _;exact hfc w'))|refine sT ?_|refine sI ?_|refine sQ ?_|refine sT2 ?_|refine sQ2 ?_|refine sN ?_|refine sNQ ?_|refine sD ?_|refine sM fun _=> ?_|(refine sC ?_ ?_<;>intro hb<;>try omega)|(refine sCQ ?_ ?_<;>intro hb<;>try omega)|fail)
   exact ret0 (.inr rfl) rfl (.refl _) ⟨H1,.inl (hus ▸ hI),MSub.swap⟩
  ·
   rw [hp] at hfc
   rw [pieceL_cons hp] at hus
   repeat' (first|((with_reducible apply wq_callvp);exact rfl;exact rfl;infer_instance;exact rfl;(intro w' _;exact hfc w'))|((with_reducible apply w_regionI (id:=3)))|((with_reducible apply wli_v);exact rfl;exact rfl;(with_reducible apply v_idx);exact rfl;exact rfl;exact hlt)|refine sT ?_|refine sI ?_|refine sQ ?_|refine sT2 ?_|refine sQ2 ?_|refine sN ?_|refine sNQ ?_|refine sD ?_|refine sM fun _=> ?_|(refine sC ?_ ?_<;>intro hb<;>try omega)|(refine sCQ ?_ ?_<;>intro hb<;>try omega)|fail)
   (with_reducible apply wli_yieldB)
   ·
    exact rfl
   ·
    exact rfl
   ·
    exact rfl
   ·
    exact MSub.swapN
   ·
    exact fun w hm=>hy pre (bat a i) _ hus H1 [] hI w hm
   intro bb H2 hq
   cases bb
   ·
    repeat' (first|refine sT ?_|refine sI ?_|refine sT2 ?_|refine sM fun _=> ?_|(refine sC ?_ ?_<;>intro hb<;>try omega)|fail)
    exact ret0 eIO rfl (.refl _) ⟨H2,.inr ⟨_,hq⟩,by rw [List.append_nil];exact .refl _⟩
   ·
    repeat' (first|refine sT ?_|refine sI ?_|refine sT2 ?_|refine sN ?_|refine sM fun _=> ?_|(refine sC ?_ ?_<;>intro hb<;>try omega)|fail)
    refine ⟨(i+1,_,H2),⟨hlt,hus.trans (by rw [List.append_assoc];rfl),hq⟩,(by dsimp only;omega),sB,?_⟩
    exact MSub.swapN'
 ·
  have e:i=a.size:=by omega
  subst e
  have hl:=ints_length a
  rw [List.drop_of_length_le (i:=a.size) (by omega),show pieceL p []= [] from rfl,List.append_nil] at hus
  repeat' (first|refine sT ?_|refine sI ?_|refine sQ ?_|refine sT2 ?_|refine sQ2 ?_|refine sN ?_|refine sNQ ?_|refine sD ?_|refine sM fun _=> ?_|(refine sC ?_ ?_<;>intro hb<;>try omega)|(refine sCQ ?_ ?_<;>intro hb<;>try omega)|fail)
  exact ret0 (.inr rfl) rfl (.refl _) ⟨H1,.inl (hus ▸ hI),MSub.swap⟩
theorem piece_at (a:ByteArray) (i0:Nat) (fis:FuncId) (w:World):
  FnAt Tryz.prog 392 [.string a,.int .i64 (i0:Int),.func (.func fis) #[] #[]] w fun v H=> ∃ g4 g3 g5,v= .func (.func 406) #[] #[.pointer (some ⟨g4,0,none⟩),.pointer (some ⟨g3,0,none⟩),.pointer (some ⟨g5,0,none⟩)]∧H= [.box g4 3 [.int .i64 (i0:Int)],.box g3 9 [.string a],.box g5 460 [.func (.func fis) #[] #[]]]:=by
 refine fn_at Tryz.func392 rfl Tryz.ntmps392 rfl ?_
 repeat' (first|refine sT ?_|refine sM fun _=> ?_|(refine sC ?_ ?_<;>intro hb<;>try omega)|fail)
 rename_i g3 g4 g5
 exact ret1 (.inl rfl) rfl rfl (H' := [.box g4 3 [.int .i64 (i0:Int)],.box g3 9 [.string a],.box g5 460 [.func (.func fis) #[] #[]]]) mS ⟨g4,g3,g5,rfl,rfl⟩
set_option maxHeartbeats 1000000 in
theorem length_at (a:ByteArray) (ha:a.size≤1000000) (i0:Nat) (hi0:i0≤a.size) (fis:FuncId) [Callable Tryz.prog fis] (p:Int→Bool) (hf: ∀ c w,Pure Tryz.prog fis [.int .u8 c] w (.bool (p c))) (w:World):
  Pure Tryz.prog 358 [.string a,.int .i64 (i0:Int),.func (.func fis) #[] #[]] w (.int .i64 (runL p ((ints a).drop i0):Int)):=by
 refine fn_range_at Tryz.func358 rfl Tryz.ntmps358 (by rfl) ?_
 refine wt_seq_r ?_
 repeat' (first|((with_reducible apply wl_call);exact rfl;exact rfl;(intro w' hm;exact piece_at a i0 fis w');(rintro v H' ⟨g4,g3,g5,rfl,rfl⟩))|refine sT ?_|refine sR ?_|refine sM fun _=> ?_|(refine sC ?_ ?_<;>intro hb<;>try omega)|(refine sCR ?_ ?_<;>intro hb<;>try omega)|fail)
 rename_i gn
 have hpl:=pieceL_length p ((ints a).drop i0)
 have hll:=ints_length a
 have hrl:=runL_le p ((ints a).drop i0)
 rw [List.length_drop] at hrl
 rw [← hpl]
 refine wt_range (ps:= [12]) (us:=pieceL p ((ints a).drop i0)) (encs:=fun c=> [.int .u8 c]) (Hc:= [.box g4 3 [.int .i64 (i0:Int)],.box g3 9 [.string a],.box g5 460 [.func (.func fis) #[] #[]]]) (HU0:= [.box gn 3 [.int .i64 0]]) rfl (fun _=>rfl) rfl (piece_seq a ha i0 hi0 fis p hf w g4 g3 g5)
  (fun pre HU=>HU= [.box gn 3 [.int .i64 (pre.length:Int)]]) (fun _=>False) MSub.swap rfl ?_ ?_ ?_
 ·
  rintro l pre u post hus _ rfl F F'
  have hlu:=congrArg List.length hus
  simp only [List.length_append,List.length_cons] at hlu
  change WR _ _ _ l _ _ ((12,Value.int .u8 u)::_) (.box gn 3 [.int .i64 (pre.length:Int)]::F)
  repeat' (first|refine sT ?_|refine sR ?_|refine sM fun _=> ?_|(refine sC ?_ ?_<;>intro hb<;>try omega)|(refine sCR ?_ ?_<;>intro hb<;>try omega)|fail)
  refine assign_n ⟨[.box gn 3 [.int .i64 (pre.length:Int)]],MSub.refl _,?_⟩
  change WR _ _ _ l _ _ _ (.box gn 3 [.int .i64 (pre.length:Int)]::F')
  repeat' (first|refine sT ?_|refine sR ?_|refine sN ?_|refine sM fun _=> ?_|(refine sC ?_ ?_<;>intro hb<;>try omega)|(refine sCR ?_ ?_<;>intro hb<;>try omega)|fail)
  refine round_n [.box gn 3 [.int .i64 ((pre.length+1:Nat):Int)]] ?_ (by rw [List.length_append];rfl)
  change MSub (_::F') _
  exact mS
 ·
  rintro D _ rfl
  change endB _ _ _ _ _ (dObj D:: .box gn 3 [.int .i64 ((pieceL p ((ints a).drop i0)).length:Int)]::_)
  repeat' (first|refine sT ?_|refine sR ?_|refine sM fun _=> ?_|(refine sC ?_ ?_<;>intro hb<;>try omega)|(refine sCR ?_ ?_<;>intro hb<;>try omega)|fail)
  refine end_mark .hd ?_
  exact ret1 (.inl rfl) rfl rfl (MSub.nil _) rfl
 ·
  rintro D HU h
  exact h.elim
def tokV:Option (Tk × Nat)→Value
 |some (t,n)=> .tuple #[.agg (encTk t).toArray,.int .i64 (n:Int)]
 |none=> .tuple #[.agg (encTk zeroTk).toArray,.int .i64 0]
def atT (i:Nat) (o:Option (Tk × Nat)):Option (Tk × Nat):=o.map fun x=>({ x.1 with at_:=(i:Int) },x.2)
def numberP (l:List Int):Option (Tk × Nat):=
 let w:=runL digC l
 let p:=placesL (l.drop w)
 let n:=if p=0 then w else w+1+p
 if w=0∨4<p then none
 else if (decL (l.take n)).2≠0 then none else some (⟨1,(decL (l.take n)).1,emptyB,zeroR,0⟩,n)
theorem placesL_yes {c:Int} {r:List Int} (h:c=46):placesL (c::r)=runL digC r:=by subst h;rfl
theorem placesL_no {c:Int} {r:List Int} (h:c≠46):placesL (c::r)=0:=by
 unfold placesL
 split
 ·
  rename_i heq;injection heq with h1 h2;exact absurd h1 h
 ·
  rfl
set_option maxHeartbeats 1000000 in
theorem number_at (a:ByteArray) (ha:a.size≤100000) (i:Nat) (hi:i≤a.size) (g:Nat) (w:World) (hr:Ro w g 0 [.string a]):
  Pure Tryz.prog 306 [.pointer (some ⟨g,0,none⟩),.int .i64 (i:Int)] w (tokV (atT i (numberP ((ints a).drop i)))):=by
 refine fn_at Tryz.func306 rfl Tryz.ntmps306 rfl ?_
 have hl:=ints_length a
 have hL1:=length_at a (by omega) i hi 359 digC lexDigit_at
 have hwl:=runL_le digC ((ints a).drop i)
 rw [List.length_drop] at hwl
 generalize hw:runL digC ((ints a).drop i)=n at hL1 hwl
 generalize hpd:placesL ((ints a).drop (i+n))=p
 have hN:numberP ((ints a).drop i)=if n=0∨4<p then none else if (decL (((ints a).drop i).take (if p=0 then n else n+1+p))).2≠0 then none else some (⟨1,(decL (((ints a).drop i).take (if p=0 then n else n+1+p))).1,emptyB,zeroR,0⟩,if p=0 then n else n+1+p):=by
  simp only [numberP,hw,List.drop_drop,hpd]
 rw [hN]
 have hL2:=fun h=>length_at a (by omega) (i+n+1) h 359 digC lexDigit_at
 have hcut: ∀ m,ints (sub a i (i+m))=((ints a).drop i).take m:=fun m=>by rw [ints_sub,show i+m - i=m by omega]
 have hple:p≤a.size - (i+n) - 1:=by
  rw [← hpd]
  by_cases h:i+n<a.size
  ·
   rw [bat_drop h]
   by_cases h46:bat a (i+n)=46
   ·
    rw [placesL_yes h46]
    have:=runL_le digC ((ints a).drop (i+n+1))
    rw [List.length_drop] at this
    omega
   ·
    rw [placesL_no h46];omega
  ·
   rw [List.drop_of_length_le (by omega)];simp [placesL]
 have hend: ∀ h:i+n+1<a.size,bat a (i+n)=46→(p=runL digC ((ints a).drop (i+n+1))):=fun h h46=>by
  rw [← hpd,bat_drop (by omega),placesL_yes h46]
 have hno: ¬ (i+n+1<a.size∧bat a (i+n)=46∧digC (bat a (i+n+1))=true)→p=0:=fun h=>by
  by_cases h1:i+n<a.size
  ·
   by_cases h46:bat a (i+n)=46
   ·
    by_cases h2:i+n+1<a.size
    ·
     rw [hend h2 h46,bat_drop h2,runL,if_neg fun h3=>h ⟨h2,h46,h3⟩]
    ·
     rw [← hpd,bat_drop h1,placesL_yes h46,List.drop_of_length_le (by omega)];rfl
   ·
    rw [← hpd,bat_drop h1,placesL_no h46]
  ·
   rw [← hpd,List.drop_of_length_le (by omega)];rfl
 have hyes:i+n+1<a.size→bat a (i+n)=46→digC (bat a (i+n+1))=true→0<p:=fun h h46 h3=>by
  rw [hend h h46,bat_drop h,runL,if_pos h3];omega
 repeat' (first|((with_reducible apply wl_v);exact rfl;(with_reducible apply v_load_ro (o:=0) (off:=0));exact hr;exact rfl;exact rfl)|((with_reducible apply wl_callp);exact rfl;exact rfl;(intro w hm;exact hL1 w))|((with_reducible apply wl_callp);exact rfl;exact rfl;(intro w hm;exact lexDigit_at _ w))|(refine w_cutRH (id:=7) [0,1,4] rfl (ι:=Nat × Nat) (fun x=> [(7,.int .i64 (x.1:Int)),(5,.int .i64 (x.2:Int))]) (fun x=>x.1=p∧x.2=if p=0 then n else n+1+p) ?_ ?_)|((with_reducible apply wl_callp);exact rfl;exact rfl;(intro w hm;exact hL2 (by omega) w))|refine sT ?_|refine sT2 ?_|refine sN ?_|refine sM fun _=> ?_|(refine sC ?_ ?_<;>intro hb<;>try omega)|exact cT|fail)
 ·
  (refine eRCT ?_)
  rw [if_pos (.inl (by omega))];rfl
 ·
  rename_i h1 h2 h3
  refine cut_n ((runL digC ((ints a).drop (i+n+1)),n+(1+runL digC ((ints a).drop (i+n+1))))) ?_ sB mS
  have h5:=hyes (by omega) h3 hb
  have h6:=hend (by omega) h3
  rw [← h6]
  exact ⟨rfl,by rw [if_neg (by omega)];omega⟩
 ·
  rename_i h1 h2 h3
  refine cut_n ((0,n)) ?_ sB mS
  have:=hno fun h=>by rw [hb] at h;cases h.2.2
  exact ⟨this.symm,by rw [if_pos this]⟩
 ·
  refine cut_n ((0,n)) ?_ sB mS
  have:=hno fun h=>hb h.2.1
  exact ⟨this.symm,by rw [if_pos this]⟩
 ·
  refine cut_n ((0,n)) ?_ sB mS
  have:=hno fun h=>by omega
  exact ⟨this.symm,by rw [if_pos this]⟩
 rintro ⟨p',m⟩ ⟨rfl,hm⟩
 have hn0:n≠0:=by omega
 dsimp only at hm ⊢
 rw [← hm]
 by_cases h4:4<p'
 ·
  rw [if_pos (.inr h4)]
  repeat' (first|refine sT ?_|refine sT2 ?_|refine sM fun _=> ?_|(refine sC ?_ ?_<;>intro hb<;>try omega)|exact cT|fail)
  all_goals first|(exfalso;omega)|((refine eRCT ?_);rfl)
 ·
  rw [if_neg (by omega)]
  have him:i+m≤a.size:=by rw [hm];split<;>omega
  have hP:=decParse_at (sub a i (i+m)) (by rw [sub_size _ him];omega)
  rw [hcut m] at hP
  generalize decL (((ints a).drop i).take m)=q at hP
  repeat' (first|((with_reducible apply wl_v);exact rfl;(with_reducible apply v_load_ro (o:=0) (off:=0));exact hr;exact rfl;exact rfl)|((with_reducible apply wl_callp);exact rfl;exact rfl;(intro w hm;exact hP w))|refine sT ?_|refine sT2 ?_|refine sN ?_|refine sM fun _=> ?_|(refine sC ?_ ?_<;>intro hb<;>try omega)|exact cT|fail)
  ·
   (refine eRCT ?_)
   rw [if_pos hb];rfl
  ·
   (refine eRCT ?_)
   rw [if_neg hb];rfl
theorem headD_at (a:ByteArray) (j:Nat):((ints a).drop j).headD 0=bat a j:=by
 rw [bat,List.headD_eq_head?_getD,List.head?_drop,List.getD_eq_getElem?_getD]
theorem next_at (a:ByteArray) (ha:a.size≤100000) (j:Nat) (g:Nat) (w:World) (hr:Ro w g 0 [.string a]):
  Pure Tryz.prog 363 [.pointer (some ⟨g,0,none⟩),.int .i64 (j:Int)] w (.int .u8 (bat a j)):=by
 refine fn_at Tryz.func363 rfl Tryz.ntmps363 rfl ?_
 have hl:=ints_length a
 repeat' (first|((with_reducible apply wl_v);exact rfl;(with_reducible apply v_load_ro (o:=0) (off:=0));exact hr;exact rfl;exact rfl)|refine sT ?_|refine sT2 ?_|refine sN ?_|refine sM fun _=> ?_|(refine sC ?_ ?_<;>intro hb<;>try omega)|exact cT|fail)
 ·
  (refine rT1 ?_)
  rfl
 ·
  (refine rT1 ?_)
  have e:bat a j=0:=by rw [bat,List.getD_eq_getElem?_getD,List.getElem?_eq_none (by omega)];rfl
  rw [e]
def upW (l:List Int):List Int:=(l.take (runL wrdC l)).map upC
theorem upW_length (l:List Int):(upW l).length=runL wrdC l:=by
 have:=runL_le wrdC l
 simp [upW];omega
theorem upW_ok {l:List Int} (h:bytesOk l):bytesOk (upW l):=by
 intro c hc
 obtain ⟨d,hd,rfl⟩:=List.mem_map.1 hc
 have:=h d (List.mem_of_mem_take hd)
 unfold upC
 split<;>omega
theorem plain_at (a:ByteArray) (ha:a.size≤100000) (i:Nat) (hi:i≤a.size) (g:Nat) (w:World) (hr:Ro w g 0 [.string a]):
  Pure Tryz.prog 362 [.pointer (some ⟨g,0,none⟩),.int .i64 (i:Int)] w (.string (mkB (upW ((ints a).drop i)))):=by
 refine fn_at Tryz.func362 rfl Tryz.ntmps362 rfl ?_
 have hl:=ints_length a
 have hL:=length_at a (by omega) i hi 393 wrdC lexWrd_at
 have hwl:=runL_le wrdC ((ints a).drop i)
 rw [List.length_drop] at hwl
 unfold upW
 generalize runL wrdC ((ints a).drop i)=n at hL hwl
 have hU:=Upper_at (sub a i (i+n)) (by rw [sub_size _ (by omega)];omega)
 have e:upB (sub a i (i+n))=mkB ((((ints a).drop i).take n).map upC):=by rw [upB,ints_sub,show i+n - i=n by omega]
 rw [e] at hU
 repeat' (first|((with_reducible apply wl_v);exact rfl;(with_reducible apply v_load_ro (o:=0) (off:=0));exact hr;exact rfl;exact rfl)|((with_reducible apply wl_callp);exact rfl;exact rfl;(intro w hm;exact hL w))|((with_reducible apply wl_callp);exact rfl;exact rfl;(intro w hm;exact hU w))|refine sT ?_|refine sT2 ?_|refine sN ?_|refine sM fun _=> ?_|(refine sC ?_ ?_<;>intro hb<;>try omega)|exact cT|fail)
 (refine rT1 ?_)
 rfl
def closeQ:List Int→Option Nat
 | []=>none
 |c::r=>if c≠34 then (closeQ r).map (· +1) else match r with
  | []=>some 0
  |d::r' =>if d=34 then (closeQ r').map (· +2) else some 0
theorem closeQ_cons {c:Int} {r:List Int} (h:c≠34):closeQ (c::r)=(closeQ r).map (· +1):=by rw [closeQ.eq_def];simp [h]
def textP (l:List Int):Option (Tk × Nat):=
 if l.headD 0≠34 then none
 else match closeQ (l.drop 1) with
  |none=>none
  |some k=>if (unquoteL (l.take (k+2))).2≠0 then none else some (⟨2,0,mkB (unquoteL (l.take (k+2))).1,zeroR,0⟩,k+2)
set_option maxHeartbeats 1000000 in
theorem text_at (a:ByteArray) (ha:a.size≤100000) (i:Nat) (hi:i<a.size) (g:Nat) (w:World) (hr:Ro w g 0 [.string a]):
  Pure Tryz.prog 307 [.pointer (some ⟨g,0,none⟩),.int .i64 (i:Int)] w (tokV (atT i (textP ((ints a).drop i)))):=by
 refine fn_at Tryz.func307 rfl Tryz.ntmps307 rfl ?_
 have hl:=ints_length a
 unfold textP
 rw [headD_at,List.drop_drop]
 by_cases h34:bat a i=34
 ·
  rw [if_neg (by omega)]
  have hcut: ∀ m,ints (sub a i (i+m))=((ints a).drop i).take m:=fun m=>by rw [ints_sub,show i+m - i=m by omega]
  repeat' (first|((with_reducible apply wl_v);exact rfl;(with_reducible apply v_load_ro (o:=0) (off:=0));exact hr;exact rfl;exact rfl)|refine sT ?_|refine sT2 ?_|refine sN ?_|refine sM fun _=> ?_|(refine sC ?_ ?_<;>intro hb<;>try omega)|exact cT|fail)
  all_goals first|(exfalso;omega)|skip
  rename_i g4
  generalize hC:closeQ ((ints a).drop (i+1))=C
  refine w_loopK [0,1,4,5] rfl (fun j:Nat=> [(6,.int .i64 (j:Int))]) (fun _=> [.box g4 362 (encTk zeroTk)]) (fun j=>i+1≤j∧j≤a.size∧C=(closeQ ((ints a).drop j)).map (· +(j - (i+1)))) (fun j=>a.size - j) (i+1) ⟨by omega,by omega,by rw [hC];simp⟩ sB mS ?_
  rintro j ⟨hj1,hj2,hj3⟩
  by_cases hlt:j<a.size
  ·
   rw [bat_drop hlt] at hj3
   by_cases hq:bat a j=34
   ·
    by_cases hn:j+1<a.size∧bat a (j+1)=34
    ·
     rw [bat_drop hn.1,hq,hn.2] at hj3
     simp only [closeQ,ne_eq,not_true_eq_false,if_false,if_true,Option.map_map] at hj3
     have hn1:=hn.1
     repeat' (first|((with_reducible apply wl_v);exact rfl;(with_reducible apply v_load_ro (o:=0) (off:=0));exact hr;exact rfl;exact rfl)|refine sT ?_|refine sT2 ?_|refine sN ?_|refine sM fun _=> ?_|(refine sC ?_ ?_<;>intro hb<;>try omega)|exact cT|fail)
     all_goals first|(exfalso;omega)|skip
     refine ⟨j+2,?_,(by first|omega|(dsimp only;omega)),sB,sB,mS⟩
     refine ⟨by omega,by omega,?_⟩
     rw [hj3,show j+1+1=j+2 by omega]
     congr 1
     funext k
     simp only [Function.comp]
     omega
    ·
     have hC0:C=some (j - (i+1)):=by
      rw [hj3,hq]
      by_cases h1:j+1<a.size
      ·
       rw [bat_drop h1]
       have h2:bat a (j+1)≠34:=fun h=>hn ⟨h1,h⟩
       simp [closeQ,h2]
      ·
       rw [List.drop_of_length_le (i:=j+1) (by omega)]
       simp [closeQ]
     rw [hC0]
     dsimp only
     have hm:j - (i+1)+2=j+1 - i:=by omega
     rw [hm]
     have hc:=hcut (j+1 - i)
     rw [show i+(j+1 - i)=j+1 by omega] at hc
     have hP:=Unquote_at (sub a i (j+1)) (by rw [sub_size _ (by omega)];omega)
     rw [hc] at hP
     generalize unquoteL (((ints a).drop i).take (j+1 - i))=q at hP
     repeat' (first|((with_reducible apply wl_v);exact rfl;(with_reducible apply v_load_ro (o:=0) (off:=0));exact hr;exact rfl;exact rfl)|((with_reducible apply wl_callp);exact rfl;exact rfl;(intro w hm;exact hP w))|refine sT ?_|refine sT2 ?_|refine sN ?_|refine sM fun _=> ?_|(refine sC ?_ ?_<;>intro hb<;>try omega)|exact cT|fail)
     all_goals first|(exfalso;omega)|((refine eRCT ?_);first|(rw [if_pos hb];rfl)|(rw [if_neg hb];rfl))
   ·
    rw [closeQ_cons hq,Option.map_map] at hj3
    repeat' (first|((with_reducible apply wl_v);exact rfl;(with_reducible apply v_load_ro (o:=0) (off:=0));exact hr;exact rfl;exact rfl)|refine sT ?_|refine sT2 ?_|refine sN ?_|refine sM fun _=> ?_|(refine sC ?_ ?_<;>intro hb<;>try omega)|exact cT|fail)
    all_goals first|(exfalso;omega)|skip
    refine ⟨j+1,?_,(by first|omega|(dsimp only;omega)),sB,sB,mS⟩
    refine ⟨by omega,by omega,?_⟩
    rw [hj3]
    congr 1
    funext k
    simp only [Function.comp]
    omega
  ·
   rw [List.drop_of_length_le (by omega)] at hj3
   rw [hj3]
   dsimp only [closeQ,Option.map]
   repeat' (first|((with_reducible apply wl_v);exact rfl;(with_reducible apply v_load_ro (o:=0) (off:=0));exact hr;exact rfl;exact rfl)|refine sT ?_|refine sT2 ?_|refine sN ?_|refine sM fun _=> ?_|(refine sC ?_ ?_<;>intro hb<;>try omega)|exact cT|fail)
   all_goals first|(exfalso;omega)|skip
   (refine eRCT ?_)
   rfl
 ·
  rw [if_pos (by omega)]
  repeat' (first|((with_reducible apply wl_v);exact rfl;(with_reducible apply v_load_ro (o:=0) (off:=0));exact hr;exact rfl;exact rfl)|refine sT ?_|refine sT2 ?_|refine sN ?_|refine sM fun _=> ?_|(refine sC ?_ ?_<;>intro hb<;>try omega)|exact cT|fail)
  all_goals first|(exfalso;omega)|skip
  (refine eRCT ?_)
  rfl
end Go.SL
