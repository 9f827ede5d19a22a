/-
  Lemmas and walks, put together: W27 A2 A3 A4 B1.
-/
import Derived.Test.YtljeomidcjpfmaaGreatDoorKf09
set_option linter.unusedSimpArgs false
set_option linter.unusedVariables false
set_option maxRecDepth 20000
namespace Go.SL
open Go Go.Proofs
attribute [local irreducible] W WL WQ WG WA VOp thn blk cutP retP FnAt FnIn
def rangesF (n:Nd):Bool:=decide (n.kind=2)||decide (n.kind=3)
theorem ranges_at (n:Nd) (w:World):Pure Tryz.prog 261 [.agg (encN n).toArray] w (.bool (rangesF n)):=by
 refine fn_at Tryz.func261 rfl Tryz.ntmps261 rfl ?_
 repeat' (first|refine sT ?_|refine sM fun _=> ?_|(refine sC ?_ ?_<;>intro hb<;>try omega)|fail)
 all_goals
  (refine rT1 ?_)
  simp [rangesF, *]
theorem encR_len (r:Rct):(encR r).length=4:=rfl
theorem all_at (L:List Rct) (lv:Value) (w:World) (hl:Reads w lv L.length (L.flatMap encR)):Pure Tryz.prog 141 [lv] w (.bool (L.all rectOk)):=by
 obtain ⟨Al,cl,rfl,hl1,hl2,hl3⟩:=hl
 refine fn_at Tryz.func141 rfl Tryz.ntmps141 rfl ?_
 repeat' (first|refine sT ?_|refine sM fun _=> ?_|(refine sC ?_ ?_<;>intro hb<;>try omega)|fail)
 refine w_loop (fun i:Nat=> [(5,.slice Al L.length cl),(6,.int .i64 (L.length:Int)),(7,.int .i64 (i:Int))]) (fun _=> []) (fun i=>i≤L.length∧L.all rectOk=(L.drop i).all rectOk) (fun i=>L.length - i) 0 ⟨by omega,rfl⟩ ?_ ?_ ?_
 ·
  exact sB
 ·
  exact mS
 ·
  rintro i ⟨hi,hrec⟩
  by_cases hlt:i<L.length
  ·
   obtain ⟨gl,ol,rfl,hrl⟩:=hl3 (by omega)
   have he1:=hrl.elem encR_len i hlt
   rw [List.drop_eq_getElem_cons hlt,List.all_cons] at hrec
   generalize L[i]=r at hrec he1
   repeat' (first|((with_reducible apply wl_callp);exact rfl;exact rfl;(intro w hm;exact rect_at r w))|refine sT ?_|refine sN ?_|refine sO ?_|refine sM fun _=> ?_|(refine sC ?_ ?_<;>intro hb<;>try omega)|fail)
   ·
    (refine rT1 ?_)
    rw [hrec]
    cases hq:rectOk r<;>simp [rectE,hq] at hb ⊢
   ·
    refine ⟨i+1,⟨by omega,?_⟩,by omega,?_,?_⟩
    ·
     rw [hrec]
     cases hq:rectOk r<;>simp [rectE,hq] at hb ⊢
    ·
     exact sB
    ·
     exact mS
  ·
   have e:i=L.length:=by omega
   subst e
   repeat' (first|refine sT ?_|refine sM fun _=> ?_|(refine sC ?_ ?_<;>intro hb<;>try omega)|fail)
   (refine rT1 ?_)
   rw [hrec,List.drop_length]
   rfl
def meetM (a b:Rct):Rct:=⟨if a.c1<b.c1 then b.c1 else a.c1,if a.r1<b.r1 then b.r1 else a.r1,if b.c2<a.c2 then b.c2 else a.c2,if b.r2<a.r2 then b.r2 else a.r2⟩
def meetR (a b:Rct):Rct × Bool:=if [a,b,meetM a b].all rectOk=true then (meetM a b,true) else (zeroR,false)
theorem Meet_at (a b:Rct) (w:World):Pure Tryz.prog 68 [.agg (encR a).toArray,.agg (encR b).toArray] w (.tuple #[.agg (encR (meetR a b).1).toArray,.bool (meetR a b).2]):=by
 refine fn_at Tryz.func68 rfl Tryz.ntmps68 rfl ?_
 have hall:=fun (lv:Value) (w:World)=>all_at [a,b,meetM a b] lv w
 unfold meetR
 generalize [a,b,meetM a b].all rectOk=q at hall
 repeat' (first|((with_reducible apply wl_callp);exact rfl;exact rfl;(intro w hm;exact hall _ w (Reads.of_row hm pK)))|refine sT ?_|refine sM fun _=> ?_|(refine sC ?_ ?_<;>intro hb<;>try omega)|fail)
 ·
  refine retct (.inl rfl) Tryz.results68 rfl pK rfl rfl (MSub.nil _) ?_
  simp [hb,zeroR,encR]
 ·
  refine retct (.inl rfl) Tryz.results68 rfl pK rfl rfl (MSub.nil _) ?_
  simp [hb,meetM,encR]
structure Pc where
 m0:Int
 m1:Int
 v0:Int
 v1:Int
 ok:Bool
def encPc (p:Pc):List Value:= [.int .i64 p.m0,.int .i64 p.m1,.int .i64 p.v0,.int .i64 p.v1,.bool p.ok]
def pcLet (p:Pc) (c:Int):Pc:=⟨p.m0+1,p.m1,min (26*p.v0+(c - 65)+1) 1025,p.v1,p.ok && decide (p.m1=0)⟩
def pcDig (p:Pc) (c:Int):Pc:=⟨p.m0,p.m1+1,p.v0,min (10*p.v1+(c - 48)) 1025,p.ok && (decide (c≠48)||decide (0<p.m1))⟩
structure Pc.Fit (p:Pc) (n:Int):Prop where
 m0:0≤p.m0∧p.m0≤n
 m1:0≤p.m1∧p.m1≤n
 v0:0≤p.v0∧p.v0≤1025
 v1:0≤p.v1∧p.v1≤1025
theorem min_if (a b:Int):(if b<a then b else a)=min a b:=by omega
theorem addLet_at (p:Pc) (c:Int) (n:Int) (hf:p.Fit n) (hn:n≤1000000) (h1:65≤c) (h2:c≤90) (g:Nat) (R:List Blk) (w0:World):
  FnIn Tryz.prog 407 [.pointer (some ⟨g,0,none⟩),.int .u8 c,.bool true] w0 (.box g 494 (encPc p)::R) fun v H=>v= .tuple #[]∧H= .box g 494 (encPc (pcLet p c))::R:=by
 refine fn_in Tryz.func407 rfl Tryz.ntmps407 rfl ?_
 obtain ⟨a1,a2⟩:=hf.m0
 obtain ⟨a3,a4⟩:=hf.m1
 obtain ⟨a5,a6⟩:=hf.v0
 obtain ⟨a7,a8⟩:=hf.v1
 have hwc:IntKind.u8.wrap (c - 65)=c - 65:=wrap_u8 (by omega) (by omega)
 have hwc2:IntKind.i64.wrap (c - 65)=c - 65:=I64.wrap ⟨by omega,by omega⟩
 repeat' (first|(refine w_cutG (id:=1) (ι:=Bool) (fun _=> [(0,.pointer (some ⟨g,0,none⟩)),(1,.int .u8 c)]) (fun b=> .box g 494 [.int .i64 p.m0,.int .i64 p.m1,.int .i64 p.v0,.int .i64 p.v1,.bool b]::R) (fun b=>b=(p.ok && decide (p.m1=0))) ?_ ?_)|refine sT ?_|refine sT2 ?_|refine sG2 ?_|refine sJ ?_|refine sJG ?_|refine sG ?_|refine sM fun _=> ?_|(refine sC ?_ ?_<;>intro hb<;>try omega)|exact cT|fail)
 ·
  (apply cut_n;rotate_left 1;exact sB;exact mS)
  rw [hb];rfl
 ·
  (apply cut_n;rotate_left 1;exact sB;exact mS)
  rw [hb];rfl
 rintro _ rfl
 repeat' (first|(refine w_drawL (id:=2) 9 (.box g 494 [.int .i64 (p.m0+1),.int .i64 p.m1,.int .i64 p.v0,.int .i64 p.v1,.bool (p.ok && decide (p.m1=0))]::R) (by kernel_rfl) (by kernel_rfl) rfl ?_)|(refine w_drawL (id:=3) 16 (.box g 494 [.int .i64 (p.m0+1),.int .i64 p.m1,.int .i64 (min (26*p.v0+(c - 65)+1) 1025),.int .i64 p.v1,.bool (p.ok && decide (p.m1=0))]::R) (by kernel_rfl) (by kernel_rfl) rfl ?_)|((with_reducible apply wg_l (f:=60));exact rfl;decide+kernel;exact rfl;(with_reducible apply v_subw_id);exact rfl;exact rfl;exact hwc)|((with_reducible apply wg_l (f:=60));exact rfl;decide+kernel;exact rfl;(with_reducible apply v_conv_to);exact rfl;exact hwc2)|((with_reducible apply wg_lset_box);exact rfl;exact rfl;exact .hd;exact rfl;exact rfl;(try rw [min_if]);exact .refl _)|refine sT ?_|refine sT2 ?_|refine sG2 ?_|refine sJ ?_|refine sJG ?_|refine sG ?_|refine sM fun _=> ?_|(refine sC ?_ ?_<;>intro hb<;>try omega)|exact cT|fail)
 exact ret0 (.inl rfl) rfl (.refl _) ⟨rfl,rfl⟩
theorem addDig_at (p:Pc) (c:Int) (n:Int) (hf:p.Fit n) (hn:n≤1000000) (h1:48≤c) (h2:c≤57) (g:Nat) (R:List Blk) (w0:World):
  FnIn Tryz.prog 407 [.pointer (some ⟨g,0,none⟩),.int .u8 c,.bool false] w0 (.box g 494 (encPc p)::R) fun v H=>v= .tuple #[]∧H= .box g 494 (encPc (pcDig p c))::R:=by
 refine fn_in Tryz.func407 rfl Tryz.ntmps407 rfl ?_
 obtain ⟨a1,a2⟩:=hf.m0
 obtain ⟨a3,a4⟩:=hf.m1
 obtain ⟨a5,a6⟩:=hf.v0
 obtain ⟨a7,a8⟩:=hf.v1
 have hwc:IntKind.u8.wrap (c - 48)=c - 48:=wrap_u8 (by omega) (by omega)
 have hwc2:IntKind.i64.wrap (c - 48)=c - 48:=I64.wrap ⟨by omega,by omega⟩
 repeat' (first|(refine w_cutG (id:=4) (ι:=Bool) (fun _=> [(0,.pointer (some ⟨g,0,none⟩)),(1,.int .u8 c)]) (fun b=> .box g 494 [.int .i64 p.m0,.int .i64 p.m1,.int .i64 p.v0,.int .i64 p.v1,.bool b]::R) (fun b=>b=(p.ok && (decide (c≠48)||decide (0<p.m1)))) ?_ ?_)|refine sT ?_|refine sT2 ?_|refine sG2 ?_|refine sJ ?_|refine sJG ?_|refine sG ?_|refine sM fun _=> ?_|(refine sC ?_ ?_<;>intro hb<;>try omega)|exact cT|fail)
 ·
  (apply cut_n;rotate_left 1;exact sB;exact mS)
  rename_i h3
  rw [h3,decide_eq_true hb];rfl
 ·
  (apply cut_n;rotate_left 1;exact sB;exact mS)
  rename_i h3
  rw [h3,decide_eq_false hb];rfl
 ·
  (apply cut_n;rotate_left 1;exact sB;exact mS)
  rw [hb];rfl
 rintro _ rfl
 repeat' (first|(refine w_drawL (id:=5) 9 (.box g 494 [.int .i64 p.m0,.int .i64 (p.m1+1),.int .i64 p.v0,.int .i64 p.v1,.bool (p.ok && (decide (c≠48)||decide (0<p.m1)))]::R) (by kernel_rfl) (by kernel_rfl) rfl ?_)|(refine w_drawL (id:=6) 15 (.box g 494 [.int .i64 p.m0,.int .i64 (p.m1+1),.int .i64 p.v0,.int .i64 (min (10*p.v1+(c - 48)) 1025),.bool (p.ok && (decide (c≠48)||decide (0<p.m1)))]::R) (by kernel_rfl) (by kernel_rfl) rfl ?_)|((with_reducible apply wg_l (f:=60));exact rfl;decide+kernel;exact rfl;(with_reducible apply v_subw_id);exact rfl;exact rfl;exact hwc)|((with_reducible apply wg_l (f:=60));exact rfl;decide+kernel;exact rfl;(with_reducible apply v_conv_to);exact rfl;exact hwc2)|((with_reducible apply wg_lset_box);exact rfl;exact rfl;exact .hd;exact rfl;exact rfl;(try rw [min_if]);exact .refl _)|refine sT ?_|refine sT2 ?_|refine sG2 ?_|refine sJ ?_|refine sJG ?_|refine sG ?_|refine sM fun _=> ?_|(refine sC ?_ ?_<;>intro hb<;>try omega)|exact cT|fail)
 exact ret0 (.inr rfl) rfl (.refl _) ⟨rfl,rfl⟩
def pcStep (p:Pc) (c:Int):Pc:=if 65≤upC c∧upC c≤90 then pcLet p (upC c) else if 48≤c∧c≤57 then pcDig p c else ⟨p.m0,p.m1,p.v0,p.v1,false⟩
def pc0:Pc:=⟨0,0,0,0,true⟩
theorem pcStep_low {p:Pc} {c:Int} (h1:97≤c) (h2:c≤122):pcStep p c=pcLet p (c - 32):=by
 have e:upC c=c - 32:=by rw [upC,if_pos ⟨h1,h2⟩]
 rw [pcStep,e,if_pos (by omega)]
theorem pcStep_up {p:Pc} {c:Int} (h1:65≤c) (h2:c≤90):pcStep p c=pcLet p c:=by
 have e:upC c=c:=by rw [upC,if_neg (by omega)]
 rw [pcStep,e,if_pos (by omega)]
theorem upC_not {c:Int} (h: ¬ (97≤c∧c≤122)):upC c=c:=by rw [upC,if_neg h]
theorem pcStep_dig {p:Pc} {c:Int} (h1:48≤c) (h2:c≤57):pcStep p c=pcDig p c:=by
 rw [pcStep,upC_not (by omega),if_neg (by omega),if_pos ⟨h1,h2⟩]
theorem pcStep_no {p:Pc} {c:Int} (h: ¬ (97≤c∧c≤122)) (h2: ¬ (65≤c∧c≤90)) (h3: ¬ (48≤c∧c≤57)):pcStep p c=⟨p.m0,p.m1,p.v0,p.v1,false⟩:=by
 rw [pcStep,upC_not h,if_neg h2,if_neg h3]
theorem pcStep_fit {p:Pc} {n:Int} (h:p.Fit n) (c:Int):(pcStep p c).Fit (n+1):=by
 obtain ⟨⟨a1,a2⟩,⟨a3,a4⟩,⟨a5,a6⟩,⟨a7,a8⟩⟩:=h
 unfold pcStep
 split
 ·
  exact ⟨⟨by simp only [pcLet];omega,by simp only [pcLet];omega⟩,⟨a3,by simp only [pcLet];omega⟩,⟨by simp only [pcLet];omega,by simp only [pcLet];omega⟩,⟨a7,a8⟩⟩
 ·
  split
  ·
   exact ⟨⟨a1,by simp only [pcDig];omega⟩,⟨by simp only [pcDig];omega,by simp only [pcDig];omega⟩,⟨a5,a6⟩,⟨by simp only [pcDig];omega,by simp only [pcDig];omega⟩⟩
  ·
   exact ⟨⟨a1,by dsimp only;omega⟩,⟨a3,by dsimp only;omega⟩,⟨a5,a6⟩,⟨a7,a8⟩⟩
def pcOf (l:List Int):Pc:=l.foldl pcStep pc0
theorem addrRead_at (a:ByteArray) (ha:a.size≤100000) (w:World):Pure Tryz.prog 394 [.string a] w (.agg (encPc (pcOf (ints a))).toArray):=by
 refine fn_at Tryz.func394 rfl Tryz.ntmps394 rfl ?_
 have hl:=ints_length a
 repeat' (first|refine sT ?_|refine sT2 ?_|refine sM fun _=> ?_|(refine sC ?_ ?_<;>intro hb<;>try omega)|exact cT|fail)
 rename_i g2 g3
 refine w_loopK [0,2,3,9] rfl (fun x:Nat × Pc=> [(10,.int .i64 (x.1:Int))]) (fun x=> [.box g3 494 (encPc x.2),.box g2 494 [.int .i64 0,.int .i64 0,.int .i64 0,.int .i64 0,.bool false]]) (fun x=>x.1≤a.size∧x.2.Fit x.1∧pcOf (ints a)=((ints a).drop x.1).foldl pcStep x.2) (fun x=>a.size - x.1) (0,pc0) ⟨Nat.zero_le _,⟨⟨by decide,by decide⟩,⟨by decide,by decide⟩,⟨by decide,by decide⟩,⟨by decide,by decide⟩⟩,rfl⟩ sB mS ?_
 rintro ⟨i,p⟩ ⟨hi,hf,hr⟩
 dsimp only at hi hf hr ⊢
 by_cases hlt:i<a.size
 ·
  rw [bat_drop hlt,List.foldl_cons] at hr
  have hc:=bat_ok a i
  generalize hcd:bat a i=c at hr hc
  have hf2:=pcStep_fit hf c
  repeat' (first|((with_reducible apply wl_v (d:=15));exact rfl;exact hcd ▸ v_idx rfl rfl hlt)|((with_reducible apply wl_v (d:=38));exact rfl;(with_reducible apply v_subw_id);exact rfl;exact rfl;exact wrap_u8 (by omega) (by omega))|((with_reducible apply wl_callin (d:=41));exact rfl;exact rfl;(first|exact FnIn.msub (addLet_at p _ _ hf (by omega) (by omega) (by omega) _ _ _) (.pick pK (.refl _))|exact FnIn.msub (addDig_at p _ _ hf (by omega) (by omega) (by omega) _ _ _) (.pick pK (.refl _)));rintro _ _ ⟨rfl,rfl⟩)|refine sT ?_|refine sT2 ?_|refine sN ?_|refine sM fun _=> ?_|(refine sC ?_ ?_<;>intro hb<;>try omega)|exact cT|fail)
  all_goals
   refine ⟨(i+1,pcStep p c),⟨hlt,by have:=hf2;simpa using this,hr⟩,(by dsimp only;omega),sB,sB,?_⟩
   dsimp only
   first
   |(rw [pcStep_low (by omega) (by omega)];exact mS;done)
   |(rw [pcStep_up (by omega) (by omega)];exact mS;done)
   |(rw [pcStep_dig (by omega) (by omega)];exact mS;done)
   |(rw [pcStep_no (by omega) (by omega) (by omega)];exact mS;done)
 ·
  have e:i=a.size:=by omega
  subst e
  rw [List.drop_of_length_le (by omega),List.foldl_nil] at hr
  rw [hr]
  repeat' (first|refine sT ?_|refine sT2 ?_|refine sM fun _=> ?_|(refine sC ?_ ?_<;>intro hb<;>try omega)|exact cT|fail)
  exact retc (.inl rfl) rfl rfl .hd rfl (MSub.nil _) rfl
def addrP (l:List Int):Int × Int × Int:=
 if (pcOf l).ok=false∨(pcOf l).m0=0∨(pcOf l).m1=0 then (0,0,4)
 else if valid (pcOf l).v0 (pcOf l).v1 then ((pcOf l).v0,(pcOf l).v1,0) else (0,0,3)
theorem addrParse_at (a:ByteArray) (ha:a.size≤100000) (w:World):Pure Tryz.prog 364 [.string a] w (.tuple #[.agg #[.int .i64 (addrP (ints a)).1,.int .i64 (addrP (ints a)).2.1],.int .i64 (addrP (ints a)).2.2]):=by
 refine fn_at Tryz.func364 rfl Tryz.ntmps364 rfl ?_
 unfold addrP
 generalize hp:pcOf (ints a)=p
 have hR:=addrRead_at a ha
 rw [hp] at hR
 repeat' (first|((with_reducible apply wl_callp);exact rfl;exact rfl;(intro w hm;exact hR w))|((with_reducible apply wl_callp);exact rfl;exact rfl;(intro w hm;exact valid_at p.v0 p.v1 w))|refine sT ?_|refine sT2 ?_|refine sM fun _=> ?_|(refine sC ?_ ?_<;>intro hb<;>try omega)|exact cT|fail)
 all_goals
  (refine eRCT ?_)
  simp_all
def lessF (a b:Rf):Bool:=decide (a.row<b.row)||(decide (a.row=b.row) && decide (a.col<b.col))
theorem Less_at (a b:Rf) (w:World):Pure Tryz.prog 81 [.agg (encF a).toArray,.agg (encF b).toArray] w (.bool (lessF a b)):=by
 refine fn_at Tryz.func81 rfl Tryz.ntmps81 rfl ?_
 repeat' (first|refine sT ?_|refine sM fun _=> ?_|(refine sC ?_ ?_<;>intro hb<;>try omega)|exact cT|fail)
 all_goals ((refine rT1 ?_);((try simp only [← Int.not_lt] at*);simp_all [lessF, -Int.not_lt, -Int.not_le,← Int.not_lt]))
theorem One_at (a:Rf) (w:World):Pure Tryz.prog 54 [.agg (encF a).toArray] w (.agg (encR (oneA a.col a.row)).toArray):=by
 refine fn_at Tryz.func54 rfl Tryz.ntmps54 rfl ?_
 repeat' (first|refine sT ?_|refine sM fun _=> ?_|(refine sC ?_ ?_<;>intro hb<;>try omega)|exact cT|fail)
 (refine eRC ?_)
 rfl
def hasR (r:Rct) (a:Rf):Bool:=decide (r.c1≤a.col) && decide (a.col≤r.c2) && decide (r.r1≤a.row) && decide (a.row≤r.r2)
theorem Has_at (r:Rct) (a:Rf) (w:World):Pure Tryz.prog 71 [.agg (encR r).toArray,.agg (encF a).toArray] w (.bool (hasR r a)):=by
 refine fn_at Tryz.func71 rfl Tryz.ntmps71 rfl ?_
 repeat' (first|refine sT ?_|refine sM fun _=> ?_|(refine sC ?_ ?_<;>intro hb<;>try omega)|exact cT|fail)
 all_goals ((refine rT1 ?_);((try simp only [← Int.not_lt] at*);simp_all [hasR, -Int.not_lt, -Int.not_le,← Int.not_lt]))
end Go.SL
namespace Go.SL
open Go Go.Proofs
attribute [local irreducible] W WL WQ WG WA VOp thn blk cutP scp retP FnAt FnIn
set_option maxRecDepth 10000 in
theorem changedC_at (f:FuncId) [Callable Tryz.prog f] (caps:List Value) (g:Int→Int) (a:ByteArray) (ha:a.size≤1000000) (w:World) (hf: ∀ c w' H,0≤c→c<256→Mem w w' H→Pure Tryz.prog f ([.int .u8 c]++caps) w' (.int .u8 (g c))):
  FnAt Tryz.prog 294 [.string a,.func (.func f) #[] caps.toArray] w fun v H=> ∃ gb cap,v= .slice (some ⟨gb,0,none⟩) a.size cap∧H= [.byt gb 5 a.size cap (((ints a).map g).map (Value.int .u8))]:=by
 refine fn_at Tryz.func294 rfl Tryz.ntmps294 rfl ?_
 repeat' (first|((with_reducible apply wl_toBytes);exact rfl;exact rfl;intro gb cap)|refine sT ?_|refine sM fun _=> ?_|(refine sC ?_ ?_<;>intro hb<;>try omega)|fail)
 refine w_loop (fun i:Nat=> [(5,.slice (some ⟨gb,0,none⟩) a.size cap),(10,.slice (some ⟨gb,0,none⟩) a.size cap),(11,.int .i64 (a.size:Int)),(12,.int .i64 (i:Int)),(1,.func (.func f) #[] caps.toArray)])
  (fun i=> [.byt gb 5 a.size cap ((((ints a).take i).map g++(ints a).drop i).map (Value.int .u8))]) (fun i=>i≤a.size) (fun i=>a.size - i) 0 (by omega) ?_ ?_ ?_
 ·
  exact sB
 ·
  rw [bytesV_eq];simp only [List.take_zero,List.map_nil,List.nil_append,List.drop_zero];exact mS
 ·
  intro i hi
  have hl:=ints_length a
  by_cases hlt:i<a.size
  ·
   have hil:i<(ints a).length:=by omega
   have hok:=ints_ok a (ints a)[i] (List.getElem_mem hil)
   have hget:((((ints a).take i).map g++(ints a).drop i).map (Value.int .u8))[0+i*1]? =some (.int .u8 (ints a)[i]):=by
    rw [List.getElem?_map,show 0+i*1=i by omega,List.getElem?_append_right (by simp;omega)]
    simp [Nat.min_eq_left (Nat.le_of_lt hil),List.getElem?_drop]
   repeat' (first|((with_reducible apply wl_v);exact rfl;(with_reducible apply v_indexAddr);exact rfl;exact rfl;exact hlt)|((with_reducible apply wl_v);exact rfl;(with_reducible apply v_load_byt);exact rfl;exact .hd;exact hget)|((with_reducible apply wl_callvp);exact rfl;exact rfl;infer_instance;exact rfl;(intro w' hm;exact hf _ w' _ hok.1 hok.2 hm))|((with_reducible apply wl_store_byt);exact rfl;exact rfl;exact .hd;exact rfl;(simp;omega))|((with_reducible apply wl_v);exact rfl;(with_reducible apply v_add);exact rfl;exact rfl;(constructor<;>omega))|refine sT ?_|refine sM fun _=> ?_|(refine sC ?_ ?_<;>intro hb<;>try omega)|fail)
   refine ⟨i+1,by omega,by omega,?_,?_⟩
   ·
    exact sB
   ·
    rw [show 0+i*1=i by omega,upd_step g (Value.int .u8) (ints a) i hil]
    exact mS
  ·
   have e:i=a.size:=by omega
   subst e
   repeat' (first|refine sT ?_|refine sM fun _=> ?_|(refine sC ?_ ?_<;>intro hb<;>try omega)|fail)
   refine ret1 (.inl rfl) rfl rfl (.refl _) ⟨gb,cap,rfl,?_⟩
   rw [List.take_of_length_le (by omega),List.drop_of_length_le (by omega),List.append_nil]
set_option maxRecDepth 10000 in
theorem moved1_at (c:Int) (h0:0≤c) (h1:c<256) (ga gb:Nat) (w:World) (ha:Ro w ga 0 [.int .u8 97]) (hb' :Ro w gb 0 [.int .i64 (-32)]):Pure Tryz.prog 391 [.int .u8 c,.pointer (some ⟨ga,0,none⟩),.pointer (some ⟨gb,0,none⟩)] w (.int .u8 (upC c)):=by
 refine fn_at Tryz.func391 rfl Tryz.ntmps391 rfl ?_
 have hwc:IntKind.i64.wrap c=c:=I64.wrap ⟨by omega,by omega⟩
 have h122:IntKind.u8.wrap (97+25)=122:=by decide
 repeat' (first|((with_reducible apply wl_v);exact rfl;(with_reducible apply v_load_ro (off:=0));exact ha;exact rfl;exact rfl)|((with_reducible apply wl_v);exact rfl;(with_reducible apply v_load_ro (off:=0));exact hb';exact rfl;exact rfl)|((with_reducible apply wl_v);exact rfl;(with_reducible apply v_addw_id);exact rfl;exact rfl;exact h122)|((with_reducible apply wl_v (d:=15));exact rfl;(with_reducible apply v_conv_to);exact rfl;exact hwc)|((with_reducible apply wl_v (d:=17));exact rfl;(with_reducible apply v_add);exact rfl;exact rfl;exact ⟨by omega,by omega⟩)|((with_reducible apply wl_v (d:=18));exact rfl;(with_reducible apply v_conv_to (c:=c - 32));exact rfl;(rw [show c+ -32=c - 32 by omega];exact wrap_u8 (by omega) (by omega)))|refine sT ?_|refine sM fun _=> ?_|(refine sC ?_ ?_<;>intro hb<;>try omega)|fail)
 all_goals ((refine rT1 ?_);unfold upC;first|rw [if_pos (by omega)]|rw [if_neg (by omega)])
def upB (a:ByteArray):ByteArray:=mkB ((ints a).map upC)
theorem ints_upB (a:ByteArray):ints (upB a)=(ints a).map upC:=by
 refine ints_mkB ?_
 intro c hc
 obtain ⟨d,hd,rfl⟩:=List.mem_map.1 hc
 have:=ints_ok a d hd
 unfold upC
 split<;>omega
set_option maxRecDepth 10000 in
theorem moved_at (a:ByteArray) (ha:a.size≤1000000) (w:World):Pure Tryz.prog 357 [.string a,.int .u8 97,.int .i64 (-32)] w (.string (upB a)):=by
 refine fn_at Tryz.func357 rfl Tryz.ntmps357 rfl ?_
 repeat' (first|((with_reducible apply wl_call (R:=fun v H=> ∃ gb cap,v= .slice (some ⟨gb,0,none⟩) a.size cap∧H= [.byt gb 5 a.size cap (((ints a).map upC).map (Value.int .u8))]));exact rfl;exact rfl;(intro w' hm;exact changedC_at 391 [_,_] upC a ha w' (fun c w2 H2 h0 h1 hm2=>moved1_at c h0 h1 _ _ w2 ((Ro.of_box hm pK).next hm2) ((Ro.of_box hm pK).next hm2)));(rintro v H' ⟨gb,cap,rfl,rfl⟩))|((with_reducible apply wl_v);exact rfl;(with_reducible apply v_ofBytes);exact rfl;exact .hd;simp [ints_length])|refine sT ?_|refine sM fun _=> ?_|(refine sC ?_ ?_<;>intro hb<;>try omega)|fail)
 (refine rT1 ?_)
 rfl
set_option maxRecDepth 10000 in
theorem Upper_at (a:ByteArray) (ha:a.size≤1000000) (w:World):Pure Tryz.prog 303 [.string a] w (.string (upB a)):=by
 refine fn_at Tryz.func303 rfl Tryz.ntmps303 rfl ?_
 repeat' (first|((with_reducible apply wl_callp);exact rfl;exact rfl;(intro w hm;exact moved_at a ha w))|refine sT ?_|refine sM fun _=> ?_|(refine sC ?_ ?_<;>intro hb<;>try omega)|fail)
 (refine rT1 ?_)
 rfl
def unqL:List Int→Option (List Int)
 | []=>some []
 |c::r=>if c≠34 then (unqL r).map (c:: ·) else match r with
  | []=>none
  |d::r' =>if d=34 then (unqL r').map (34:: ·) else none
def unquoteL (l:List Int):List Int × Int:=
 if l.length<2∨l.head? ≠some 34∨l.getLast? ≠some 34∨l.all (fun c=>plainC c)=false then ([],4)
 else match unqL ((l.drop 1).dropLast) with
  |none=>([],4)
  |some r=>if 256<r.length then ([],5) else (r,0)
theorem plainB_ints (a:ByteArray):plainB a=(ints a).all fun c=>plainC c:=by
 simp only [plainB,ints,List.all_map]
 congr 1
 funext c
 simp only [Function.comp,plainC]
 rw [Bool.eq_iff_iff];simp;omega
theorem last_bat (a:ByteArray) (c:Int) (h:0<a.size):((ints a).getLast? =some c)↔bat a (a.size - 1)=c:=by
 rw [List.getLast?_eq_getElem?,ints_length,bat_get (by omega)]
 simp
theorem unq_drop {a:ByteArray} {i:Nat} (h0:1≤i) (h:i<a.size - 1):(((ints a).drop 1).dropLast).drop (i - 1)=bat a i::(((ints a).drop 1).dropLast).drop i:=by
 have hl:=ints_length a
 obtain ⟨j,rfl⟩: ∃ j,i=j+1:=⟨i - 1,by omega⟩
 rw [Nat.add_sub_cancel]
 have hlen:(((ints a).drop 1).dropLast).length=a.size - 2:=by simp;omega
 have hlt:j<(((ints a).drop 1).dropLast).length:=by omega
 rw [List.drop_eq_getElem_cons hlt]
 congr 1
 have h1:=bat_get (a:=a) (i:=j+1) (by omega)
 have h2:(((ints a).drop 1).dropLast)[j]? =some (bat a (j+1)):=by
  rw [List.getElem?_dropLast,if_pos (by simp;omega),List.getElem?_drop,Nat.add_comm 1 j,h1]
 rw [List.getElem?_eq_getElem hlt] at h2
 exact Option.some.inj h2
theorem unqL_cons {c:Int} {r:List Int} (h:c≠34):unqL (c::r)=(unqL r).map (c:: ·):=by
 rw [unqL.eq_def];simp [h]
theorem Unquote_at (a:ByteArray) (ha:a.size≤1000000) (w:World):Pure Tryz.prog 360 [.string a] w (.tuple #[.string (mkB (unquoteL (ints a)).1),.int .i64 (unquoteL (ints a)).2]):=by
 refine fn_at Tryz.func360 rfl Tryz.ntmps360 rfl ?_
 have hl:=ints_length a
 have hp:=printable_at a ha
 rw [plainB_ints] at hp
 have hh:=head_bat a 34
 have hg:=last_bat a 34
 by_cases hbad:(ints a).length<2∨(ints a).head? ≠some 34∨(ints a).getLast? ≠some 34∨(ints a).all (fun c=>plainC c)=false
 ·
  rw [unquoteL,if_pos hbad]
  repeat' (first|((with_reducible apply wl_callp);exact rfl;exact rfl;(intro w hm;exact hp w))|refine sT ?_|refine sS ?_|refine sT2 ?_|refine sN ?_|refine sM fun _=> ?_|(refine sC ?_ ?_<;>intro hb<;>try omega)|fail)
  iterate 4 (focus ((refine rT2 ?_);rfl))
  exfalso
  rename_i h1 h2 h3
  rcases hbad with h|h|h|h
  ·
   omega
  ·
   exact h (hh.2 ⟨by omega,Decidable.not_not.1 h2⟩)
  ·
   exact h ((hg (by omega)).2 (Decidable.not_not.1 h3))
  ·
   rw [hb] at h;cases h
 ·
  have hun:unquoteL (ints a)=match unqL (((ints a).drop 1).dropLast) with
    |none=>([],4)
    |some r=>if 256<r.length then ([],5) else (r,0):=by rw [unquoteL,if_neg hbad]
  rw [hun]
  simp only [not_or,Decidable.not_not,Bool.not_eq_false] at hbad
  obtain ⟨b1,b2,b3,b4⟩:=hbad
  have b5:=(hh.1 b2).2
  have b6:=(hg (by omega)).1 b3
  rw [b4] at hp
  have hn:(a.size:Int) - 1=((a.size - 1:Nat):Int):=by omega
  generalize hB:((ints a).drop 1).dropLast=B
  have hBl:B.length=a.size - 2:=by rw [← hB];simp;omega
  repeat' (first|((with_reducible apply wl_callp);exact rfl;exact rfl;(intro w hm;exact hp w))|refine sT ?_|refine sS ?_|refine sT2 ?_|refine sN ?_|refine sM fun _=> ?_|(refine sC ?_ ?_<;>intro hb<;>try omega)|fail)
  all_goals first|(exfalso;omega)|skip
  refine w_nilrow 5 1 ?_
  refine w_loopK [0,4] rfl (fun x:Nat × List Int × Option Nat × Nat=> [(5,sl x.2.2.1 x.2.1.length x.2.2.2),(6,.int .i64 (x.1:Int))]) (fun x=> [.own x.2.2.1 5 1 x.2.1.length x.2.2.2 (x.2.1.map (Value.int .u8))]) (fun x=>1≤x.1∧x.1≤a.size - 1∧x.2.1.length≤x.1∧unqL B=(unqL (B.drop (x.1 - 1))).map (x.2.1++ ·)) (fun x=>a.size - x.1) (1,[],none,0) ⟨by omega,by omega,by simp,by simp⟩ sB mS ?_
  rintro ⟨i,out,A,cap⟩ ⟨i1,i2,i3,i4⟩
  dsimp only at i1 i2 i3 i4 ⊢
  by_cases hend:i=a.size - 1
  ·
   have hBd:B.drop (i - 1)= []:=List.drop_of_length_le (by omega)
   rw [hBd] at i4
   simp only [unqL,Option.map_some,List.append_nil] at i4
   rw [i4]
   dsimp only
   by_cases hlen:256<out.length
   ·
    rw [if_pos hlen]
    repeat' (first|refine sT ?_|refine sS ?_|refine sT2 ?_|refine sN ?_|refine sM fun _=> ?_|(refine sC ?_ ?_<;>intro hb<;>try omega)|fail)
    all_goals first|(exfalso;omega)|((refine rT2 ?_);rfl)
   ·
    rw [if_neg hlen]
    repeat' (first|((with_reducible apply wl_v);exact rfl;(with_reducible apply v_ofBytesO);exact rfl;exact pK;exact rfl)|refine sT ?_|refine sS ?_|refine sT2 ?_|refine sN ?_|refine sM fun _=> ?_|(refine sC ?_ ?_<;>intro hb<;>try omega)|fail)
    all_goals first|(exfalso;omega)|((refine rT2 ?_);rfl)
  ·
   have hdr:=unq_drop (a:=a) i1 (by omega)
   rw [hB] at hdr
   rw [hdr] at i4
   by_cases hq:bat a i=34
   ·
    rw [hq] at i4
    by_cases h1:i+1=a.size - 1
    ·
     have hBd:B.drop i= []:=List.drop_of_length_le (by omega)
     rw [hBd] at i4
     simp only [unqL,ne_eq,not_true_eq_false,if_false,Option.map_none] at i4
     rw [i4]
     repeat' (first|refine sT ?_|refine sS ?_|refine sT2 ?_|refine sN ?_|refine sM fun _=> ?_|(refine sC ?_ ?_<;>intro hb<;>try omega)|fail)
     all_goals first|(exfalso;omega)|((refine rT2 ?_);rfl)
    ·
     have hdr2:=unq_drop (a:=a) (i:=i+1) (by omega) (by omega)
     rw [hB,Nat.add_sub_cancel] at hdr2
     rw [hdr2] at i4
     by_cases h2:bat a (i+1)=34
     ·
      simp only [unqL,ne_eq,not_true_eq_false,if_false,h2,if_true,Option.map_map] at i4
      repeat' (first|((with_reducible apply wl_append1);(iterate 3 exact rfl);exact pK;exact pK;exact rfl;(simp [Value.oneCell']);omega;(simp only [maxLen];omega);intro g8 c8)|((with_reducible apply wl_v (d:=63));exact rfl;(with_reducible apply v_addN (b:=2));exact rfl;exact rfl;(simp only [maxLen];omega))|refine sT ?_|refine sS ?_|refine sT2 ?_|refine sN ?_|refine sM fun _=> ?_|(refine sC ?_ ?_<;>intro hb<;>try omega)|fail)
      all_goals first|(exfalso;omega)|skip
      refine ⟨(i+2,out++ [34],some g8,c8),⟨by dsimp only;omega,by dsimp only;omega,by simp;omega,?_⟩,(by dsimp only;omega),?_,sB,?_⟩
      ·
       dsimp only
       rw [i4,show i+2 - 1=i+1 by omega]
       congr 1
       funext l
       simp
      ·
       simp only [List.length_append,List.length_singleton]
       exact sB
      ·
       simp only [List.length_append,List.length_singleton,List.map_append,List.map_cons,List.map_nil]
       exact mS
     ·
      simp only [unqL,ne_eq,not_true_eq_false,if_false,h2,Option.map_none] at i4
      rw [i4]
      repeat' (first|refine sT ?_|refine sS ?_|refine sT2 ?_|refine sN ?_|refine sM fun _=> ?_|(refine sC ?_ ?_<;>intro hb<;>try omega)|fail)
      all_goals first|(exfalso;omega)|((refine rT2 ?_);rfl)
   ·
    rw [unqL_cons hq,Option.map_map] at i4
    repeat' (first|((with_reducible apply wl_append1);(iterate 3 exact rfl);exact pK;exact pK;exact rfl;(simp [Value.oneCell']);omega;(simp only [maxLen];omega);intro g8 c8)|refine sT ?_|refine sS ?_|refine sT2 ?_|refine sN ?_|refine sM fun _=> ?_|(refine sC ?_ ?_<;>intro hb<;>try omega)|fail)
    all_goals first|(exfalso;omega)|skip
    refine ⟨(i+1,out++ [bat a i],some g8,c8),⟨by dsimp only;omega,by dsimp only;omega,by simp;omega,?_⟩,(by dsimp only;omega),?_,sB,?_⟩
    ·
     dsimp only
     rw [i4,show i+1 - 1=i by omega]
     congr 1
     funext l
     simp
    ·
     simp only [List.length_append,List.length_singleton]
     exact sB
    ·
     simp only [List.length_append,List.length_singleton,List.map_append,List.map_cons,List.map_nil]
     exact mS
def wordsB:List ByteArray:= [⟨#[]⟩,⟨#[35,68,73,86,47,48,33]⟩,⟨#[35,86,65,76,85,69,33]⟩,⟨#[35,78,85,77,33]⟩,⟨#[35,78,47,65]⟩,⟨#[35,82,69,70,33]⟩,⟨#[35,67,89,67,76,69,33]⟩,⟨#[35,68,69,78,73,69,68]⟩]
def Words (w:World):Prop:=Ro w 0 0 (wordsB.map Value.string)
theorem Words.next {w0 w:World} {H:List Blk} (h:Words w0) (hm:Mem w0 w H):Words w:=Ro.next h hm
def failV (c:Int):Vl:=⟨4,if c<1∨7<c then 2 else c,emptyB⟩
def makeV (n:Int):Vl:=if n= -9223372036854775808 then failV 3 else ⟨1,n,emptyB⟩
def truthV (b:Bool):Vl:=⟨2,if b then 1 else 0,emptyB⟩
def trueB:ByteArray:=⟨#[84,82,85,69]⟩
def falseB:ByteArray:=⟨#[70,65,76,83,69]⟩
def namedV (a:ByteArray):Vl:=if upB a=trueB then truthV true else if upB a=falseB then truthV false else failV 2
theorem Fail_at (c:Int) (w:World):Pure Tryz.prog 249 [.int .i64 c] w (.agg (encV (failV c)).toArray):=by
 refine fn_at Tryz.func249 rfl Tryz.ntmps249 rfl ?_
 repeat' (first|refine sT ?_|refine sM fun _=> ?_|(refine sC ?_ ?_<;>intro hb<;>try omega)|exact cT|fail)
 all_goals ((refine eRC ?_);simp only [failV];(first|rw [if_pos (by omega)]|rw [if_neg (by omega)]);rfl)
theorem Make_at (n:Int) (w:World):Pure Tryz.prog 252 [.int .i64 n] w (.agg (encV (makeV n)).toArray):=by
 refine fn_at Tryz.func252 rfl Tryz.ntmps252 rfl ?_
 repeat' (first|((with_reducible apply wl_callp);exact rfl;exact rfl;(intro w hm;exact Fail_at 3 w))|refine sT ?_|refine sM fun _=> ?_|(refine sC ?_ ?_<;>intro hb<;>try omega)|exact cT|fail)
 all_goals ((refine eRC ?_);simp_all [makeV,encV,failV,emptyB])
theorem Truth_at (b:Bool) (w:World):Pure Tryz.prog 356 [.bool b] w (.agg (encV (truthV b)).toArray):=by
 refine fn_at Tryz.func356 rfl Tryz.ntmps356 rfl ?_
 repeat' (first|refine sT ?_|refine sM fun _=> ?_|(refine sC ?_ ?_<;>intro hb<;>try omega)|exact cT|fail)
 all_goals ((refine eRC ?_);simp_all [truthV,encV,emptyB])
theorem named_at (v:Vl) (ha:v.text.size≤1000000) (w:World):Pure Tryz.prog 302 [.agg (encV v).toArray] w (.agg (encV (namedV v.text)).toArray):=by
 refine fn_at Tryz.func302 rfl Tryz.ntmps302 rfl ?_
 repeat' (first|((with_reducible apply wl_callp);exact rfl;exact rfl;(intro w hm;exact Upper_at v.text ha w))|((with_reducible apply wl_callp);exact rfl;exact rfl;(intro w hm;exact Truth_at _ w))|((with_reducible apply wl_callp);exact rfl;exact rfl;(intro w hm;exact Fail_at 2 w))|refine sT ?_|refine sM fun _=> ?_|(refine sC ?_ ?_<;>intro hb<;>try omega)|exact cT|fail)
 all_goals ((refine eRC ?_);simp_all [namedV,trueB,falseB];rfl)
theorem Show_at (c:Int) (h1:1≤c) (h2:c≤5) (w:World) (hw:Words w):Pure Tryz.prog 366 [.agg (encV ⟨4,c,emptyB⟩).toArray] w (.string (wordsB.getD c.toNat emptyB)):=by
 refine fn_at Tryz.func366 rfl Tryz.ntmps366 rfl ?_
 have he:eqV ⟨4,c,emptyB⟩ (failV 7)=false:=by simp [eqV,failV];omega
 have hv:valE ⟨4,c,emptyB⟩=0:=by
  have h6:decide (c≤6)=true:=decide_eq_true (by omega)
  simp [valE,valOk,h1,h6]
 have hc:=val_at ⟨4,c,emptyB⟩
 rw [hv] at hc
 obtain ⟨k,rfl⟩: ∃ k:Nat,c=(k:Int):=⟨c.toNat,by omega⟩
 have hcell:(wordsB.map Value.string)[k*1]? =some (.string (wordsB.getD k emptyB)):=by
  rcases (by omega:k=1∨k=2∨k=3∨k=4∨k=5) with rfl|rfl|rfl|rfl|rfl<;>rfl
 repeat' (first|((with_reducible apply wq_callp);exact rfl;exact rfl;(intro w hm;exact Fail_at 7 w))|((with_reducible apply wq_callp);exact rfl;exact rfl;(intro w hm;exact hc w))|((with_reducible apply wq_v);exact rfl;exact he ▸ v_eqlV (b:=failV 7) rfl rfl)|((with_reducible apply wl_v);exact rfl;(with_reducible apply v_ia_arr (j:=k));exact rfl;exact rfl;omega)|((with_reducible apply wl_v);exact rfl;(with_reducible apply v_load_ro (o:=0));exact hw;exact rfl;exact hcell)|refine sT ?_|refine sQ ?_|refine sD ?_|refine sM fun _=> ?_|(refine sC ?_ ?_<;>intro hb<;>try omega)|(refine sCQ ?_ ?_<;>intro hb<;>try omega)|exact cT|fail)
 (refine rT1 ?_)
 rfl
instance:KLaw Tryz.prog 5 (fun z:Int=>Value.int .u8 z):=klaw_int
theorem wl_mapIns_to {P:Program} {n:Fr} {w0:World} {Q:Post} {s:Slots} {H:List Blk} {rest:List Oper} {ty:TypeId} {p:String} {af:Array Edge} {κ:Type} [DecidableEq κ] {enc:κ→Value} {t K E g clock:Nat} {m x kx:Operand} {k:κ} {v:Value} {es:List (κ × Value × Nat)} {es' :List (κ × Value × Nat)} {c' :Nat} {R:List Blk} {ops:Array Oper} [ht:Und P t (.map K E)] [hk:KLaw P K enc] (hm:ev s m=some (.map (some g))) (hkx:ev s kx=some (enc k)) (hx:ev s x=some v) (hsel:Sel (.obj g (mobj enc es clock)) H R)
  (he:kput k v clock es=(es',c')) (h:WL P n w0 ops rest Q s (.obj g (mobj enc es' c')::R)):WL P n w0 ops (⟨none,.insert t m kx x,ty,p,af,none⟩::rest) Q s H:=by
 refine wl_mapIns hm hkx hx hsel ?_
 rw [he];exact h
theorem kput_new {κ:Type} [DecidableEq κ] {k:κ} {v:Value} {clock:Nat} {es:List (κ × Value × Nat)} (h:kfind k es 0=none):kput k v clock es=(es++ [(k,v,clock)],clock+1):=by
 simp [kput,h]
def boolMap (v:Vl):List (Int × Value × Nat):=
 [(0,.func (.func 300) #[.agg (encV v).toArray] #[],0),(1,.func (.func 300) #[.agg (encV v).toArray] #[],1),(2,.func (.func 301) #[.agg (encV v).toArray] #[],2),(3,.func (.func 302) #[.agg (encV v).toArray] #[],3),(4,.func (.func 301) #[.agg (encV v).toArray] #[],4)]
theorem toBool1_at (v:Vl) (w:World):FnAt Tryz.prog 299 [.agg (encV v).toArray] w fun u H=> ∃ g,u= .map (some g)∧H= [.obj g (mobj (fun z:Int=>Value.int .u8 z) (boolMap v) 5)]:=by
 refine fn_at Tryz.func299 rfl Tryz.ntmps299 rfl ?_
 repeat' (first|((with_reducible apply wl_makeMap (enc:=fun z:Int=>Value.int .u8 z));exact rfl;intro g)|((with_reducible apply wl_v);exact rfl;(with_reducible apply v_makeMeth);exact rfl)|((with_reducible apply wl_mapIns_to (enc:=fun z:Int=>Value.int .u8 z));(iterate 3 exact rfl);exact pK;exact kput_new rfl)|refine sT ?_|refine sM fun _=> ?_|(refine sC ?_ ?_<;>intro hb<;>try omega)|exact cT|fail)
 exact ret1 (H' := [.obj g (mobj (fun z:Int=>Value.int .u8 z) (boolMap v) 5)]) (.inl rfl) rfl rfl (.pick .hd (.nil _)) ⟨g,rfl,rfl⟩
def boolTextV (v:Vl):Vl:=if valE v=0 then namedV v.text else failV 2
set_option maxHeartbeats 1000000 in
theorem convText_at (v:Vl) (hk:v.kind=3) (ha:v.text.size≤1000000) (w:World):Pure Tryz.prog 298 [.agg (encV v).toArray,.func (.func 299) #[] #[]] w (.agg (encV (boolTextV v)).toArray):=by
 refine fn_at Tryz.func298 rfl Tryz.ntmps298 rfl ?_
 obtain ⟨k,num,text⟩:=v
 dsimp only at hk ha
 subst hk
 have hv:=val_at ⟨3,num,text⟩
 have hn:=named_at ⟨3,num,text⟩ ha
 repeat' (first|refine sT ?_|refine sM fun _=> ?_|(refine sC ?_ ?_<;>intro hb<;>try omega)|exact cT|fail)
 rename_i g2 g4
 refine w_cutG (id:=1) (ι:=Unit) (fun _=> [(5,.func (.func 302) #[.agg (encV ⟨3,num,text⟩).toArray] #[]),(6,.bool true),(2,.pointer (some ⟨g2,0,none⟩)),(4,.pointer (some ⟨g4,0,none⟩))]) (fun _=> [.box g2 173 (encV ⟨3,num,text⟩),.box g4 173 (encV zeroV)]) (fun _=>True) ?_ ?_
 ·
  refine w_drawA 11 rfl (by kernel_rfl) ?_
  ((with_reducible apply wa_pure (i:=0));exact rfl;exact rfl;decide+kernel;decide+kernel;decide+kernel;exact nP;(intro _ _;exact vP))
  ((with_reducible apply wa_pure (i:=3));exact rfl;exact rfl;decide+kernel;decide+kernel;decide+kernel;exact nP;(intro _ _;exact vP))
  repeat' (first|((with_reducible apply wa_two (i:=1) (j:=4));exact rfl;exact rfl;decide+kernel)|((with_reducible apply wa_two (i:=2) (j:=4));exact rfl;exact rfl;decide+kernel)|((with_reducible apply wa_one (i:=1));exact rfl;decide+kernel)|((with_reducible apply wa_one (i:=2));exact rfl;decide+kernel)|((with_reducible apply wa_one (i:=4));exact rfl;decide+kernel)|((with_reducible apply wa_one (i:=5));exact rfl;decide+kernel)|((with_reducible apply wa_pure (i:=6));exact rfl;exact rfl;decide+kernel;decide+kernel;decide+kernel;exact nP;(intro _ _;exact vP))|((with_reducible apply wa_pure (i:=7));exact rfl;exact rfl;decide+kernel;decide+kernel;decide+kernel;exact nP;(intro _ _;exact vP))|((with_reducible apply wa_pure (i:=8));exact rfl;exact rfl;decide+kernel;decide+kernel;decide+kernel;exact nP;(intro _ _;exact vP))|((with_reducible apply wa_pure (i:=9));exact rfl;exact rfl;decide+kernel;decide+kernel;decide+kernel;exact nP;(intro _ _;exact vP))|((with_reducible apply wa_pure (i:=10));exact rfl;exact rfl;decide+kernel;decide+kernel;decide+kernel;exact nP;(intro _ _;exact vP))|((with_reducible apply wa_done);decide+kernel)|((with_reducible apply wl_callv);exact rfl;exact rfl;infer_instance;exact rfl;exact FnIn.of_at (fun w' _=>toBool1_at ⟨3,num,text⟩ w');(rintro _ _ ⟨H1,⟨g5,rfl,rfl⟩,rfl⟩))|((with_reducible apply wl_v);exact rfl;(with_reducible apply v_lookupOk (enc:=fun z:Int=>Value.int .u8 z));exact rfl;exact rfl;exact pK;exact rfl)|refine sT ?_|refine sM fun _=> ?_|(refine sC ?_ ?_<;>intro hb<;>try omega)|exact cT|fail)
  all_goals ((apply cut_n;rotate_left 1;exact sB;exact mS);trivial)
 ·
  rintro _ -
  simp only [boolTextV]
  generalize valE ⟨3,num,text⟩=e at hv
  repeat' (first|((with_reducible apply wl_callp);exact rfl;exact rfl;(intro w hm;exact hv w))|((with_reducible apply wl_callp);exact rfl;exact rfl;(intro w hm;exact Fail_at 2 w))|((with_reducible apply wl_callmp);exact rfl;exact rfl;infer_instance;exact rfl;(intro w' _;exact hn w'))|refine sT ?_|refine sM fun _=> ?_|(refine sC ?_ ?_<;>intro hb<;>try omega)|exact cT|fail)
  all_goals
   (refine eRC ?_)
   simp_all
   rfl
theorem ToBool_at (v:Vl) (hk:v.kind=3) (ha:v.text.size≤1000000) (w:World):Pure Tryz.prog 246 [.agg (encV v).toArray] w (.agg (encV (boolTextV v)).toArray):=by
 refine fn_at Tryz.func246 rfl Tryz.ntmps246 rfl ?_
 repeat' (first|((with_reducible apply wl_callp);exact rfl;exact rfl;(intro w hm;exact convText_at v hk ha w))|refine sT ?_|refine sM fun _=> ?_|(refine sC ?_ ?_<;>intro hb<;>try omega)|exact cT|fail)
 (refine eRC ?_)
 rfl
def codeFrom (u:ByteArray):List ByteArray→Int→Int × Int
 | [],_=>(0,4)
 |x::r,i=>if x=u then (i,0) else codeFrom u r (i+1)
def codeE (a:ByteArray):Int × Int:=codeFrom (upB a) (wordsB.drop 1) 1
theorem wordsB_get {i:Nat} (h:i<8):(wordsB.map Value.string)[i]? =some (.string (wordsB.getD i emptyB)):=by
 rcases (by omega:i=0∨i=1∨i=2∨i=3∨i=4∨i=5∨i=6∨i=7) with rfl|rfl|rfl|rfl|rfl|rfl|rfl|rfl<;>rfl
theorem wordsB_drop {i:Nat} (h:i<8):wordsB.drop i=wordsB.getD i emptyB::wordsB.drop (i+1):=by
 rcases (by omega:i=0∨i=1∨i=2∨i=3∨i=4∨i=5∨i=6∨i=7) with rfl|rfl|rfl|rfl|rfl|rfl|rfl|rfl<;>rfl
theorem Code_at (a:ByteArray) (ha:a.size≤1000000) (w:World) (hw:Words w):Pure Tryz.prog 248 [.string a] w (.tuple #[.int .i64 (codeE a).1,.int .i64 (codeE a).2]):=by
 refine fn_at Tryz.func248 rfl Tryz.ntmps248 rfl ?_
 have hload:(((wordsB.map Value.string).drop 0).take 8)=wordsB.map Value.string:=rfl
 have hU:=Upper_at a ha
 generalize hu:upB a=u at hU
 repeat' (first|((with_reducible apply wl_callp);exact rfl;exact rfl;(intro w hm;exact hU w))|((with_reducible apply wl_v);exact rfl;(with_reducible apply v_loads_ro (o:=0) (off:=0));exact hw;exact rfl;exact hload;exact rfl)|refine sT ?_|refine sT2 ?_|refine sM fun _=> ?_|(refine sC ?_ ?_<;>intro hb<;>try omega)|exact cT|fail)
 refine w_loopK [0,8] rfl (fun i:Nat=> [(9,.int .i64 (i:Int))]) (fun _=> []) (fun i=>i≤8∧codeE a=codeFrom u (wordsB.drop (max i 1)) (max i 1:Nat)) (fun i=>8 - i) 0 ⟨by omega,by rw [codeE,hu];rfl⟩ sB mS ?_
 rintro i ⟨hi,hr⟩
 by_cases hlt:i<8
 ·
  have hx:=wordsB_get hlt
  have hd:=wordsB_drop hlt
  generalize wordsB.getD i emptyB=x at hx hd
  repeat' (first|((with_reducible apply wl_v);exact rfl;(with_reducible apply v_index_arr);exact rfl;exact rfl;exact hlt;exact hx)|refine sT ?_|refine sT2 ?_|refine sN ?_|refine sM fun _=> ?_|(refine sC ?_ ?_<;>intro hb<;>try omega)|exact cT|fail)
  ·
   rename_i h0
   rw [show max i 1=i by omega,hd,codeFrom,if_pos hb] at hr
   rw [hr]
   (refine rT2 ?_)
   rfl
  ·
   rename_i h0
   rw [show max i 1=i by omega,hd,codeFrom,if_neg hb] at hr
   refine ⟨i+1,?_,(by first|omega|(dsimp only;omega)),sB,sB,mS⟩
   refine ⟨hlt,?_⟩
   rw [hr,show max (i+1) 1=i+1 by omega]
   rfl
  ·
   have h0:i=0:=by omega
   subst h0
   refine ⟨0+1,?_,(by first|omega|(dsimp only;omega)),sB,sB,mS⟩
   exact ⟨by omega,hr⟩
 ·
  have e:i=8:=by omega
  subst e
  rw [hr]
  repeat' (first|refine sT ?_|refine sT2 ?_|refine sM fun _=> ?_|(refine sC ?_ ?_<;>intro hb<;>try omega)|exact cT|fail)
  all_goals first|(exfalso;omega)|((refine rT2 ?_);rfl)
end Go.SL
namespace Go.SL
open Go Go.Proofs
attribute [local irreducible] W WL WQ WG WA WX WLI WR WT VOp thn blk cutP scp retP endB FnAt FnIn
theorem lexDigit_at (c:Int) (w:World):Pure Tryz.prog 359 [.int .u8 c] w (.bool (digC c)):=by
 refine fn_at Tryz.func359 rfl Tryz.ntmps359 rfl ?_
 repeat' (first|refine sT ?_|refine sM fun _=> ?_|(refine sC ?_ ?_<;>intro hb<;>try omega)|fail)
 all_goals ((refine rT1 ?_);((try simp only [← Int.not_lt] at*);simp_all [digC, -Int.not_lt, -Int.not_le,← Int.not_lt]))
theorem lexLetter_at (c:Int) (w:World):Pure Tryz.prog 361 [.int .u8 c] w (.bool (letC c)):=by
 refine fn_at Tryz.func361 rfl Tryz.ntmps361 rfl ?_
 repeat' (first|refine sT ?_|refine sM fun _=> ?_|(refine sC ?_ ?_<;>intro hb<;>try omega)|fail)
 all_goals ((refine rT1 ?_);(try simp only [← Int.not_lt] at*);simp_all [letC, -Int.not_lt, -Int.not_le,← Int.not_lt];try omega)
theorem lexWrd_at (c:Int) (w:World):Pure Tryz.prog 393 [.int .u8 c] w (.bool (wrdC c)):=by
 refine fn_at Tryz.func393 rfl Tryz.ntmps393 rfl ?_
 repeat' (first|((with_reducible apply wl_callp);exact rfl;exact rfl;(intro w hm;exact lexLetter_at c w))|((with_reducible apply wl_callp);exact rfl;exact rfl;(intro w hm;exact lexDigit_at c w))|refine sT ?_|refine sM fun _=> ?_|(refine sC ?_ ?_<;>intro hb<;>try omega)|fail)
 all_goals ((refine rT1 ?_);simp_all [wrdC])
def pieceL (p:Int→Bool) (l:List Int):List Int:=l.take (runL p l)
theorem pieceL_cons {p:Int→Bool} {c:Int} {r:List Int} (h:p c=true):pieceL p (c::r)=c::pieceL p r:=by simp [pieceL,runL,h]
theorem pieceL_stop {p:Int→Bool} {c:Int} {r:List Int} (h:p c=false):pieceL p (c::r)= []:=by simp [pieceL,runL,h]
theorem pieceL_length (p:Int→Bool) (l:List Int):(pieceL p l).length=runL p l:=by
 simp [pieceL,Nat.min_eq_left (runL_le p l)]
set_option maxHeartbeats 1000000 in
theorem piece_seq (a:ByteArray) (ha:a.size≤1000000) (i0:Nat) (hi0:i0≤a.size) (fis:FuncId) [Callable Tryz.prog fis] (p:Int→Bool) (hf: ∀ c w,Pure Tryz.prog fis [.int .u8 c] w (.bool (p c))) (w0:World) (g4 g3 g5:Nat):
  Seqs Tryz.prog 406 [.pointer (some ⟨g4,0,none⟩),.pointer (some ⟨g3,0,none⟩),.pointer (some ⟨g5,0,none⟩)] w0 [.box g4 3 [.int .i64 (i0:Int)],.box g3 9 [.string a],.box g5 460 [.func (.func fis) #[] #[]]] (pieceL p ((ints a).drop i0)) (fun c=> [.int .u8 c]):=by
 intro l I J H0 hy h0
 refine FnIn.msub (H' := [.box g4 3 [.int .i64 (i0:Int)],.box g3 9 [.string a],.box g5 460 [.func (.func fis) #[] #[]]]++H0) ?_ MSub.swap
 refine fn_in Tryz.func406 rfl Tryz.ntmps406 rfl ?_
 repeat' (first|refine sT ?_|refine sT2 ?_|refine sM fun _=> ?_|(refine sC ?_ ?_<;>intro hb<;>try omega)|fail)
 refine w_loop (fun y:Nat × List Int × List Blk=> [(0,.func (.yield l) #[] #[]),(1,.pointer (some ⟨g4,0,none⟩)),(2,.pointer (some ⟨g3,0,none⟩)),(3,.pointer (some ⟨g5,0,none⟩)),(5,.int .i64 (y.1:Int))])
  (fun y=> [.box g4 3 [.int .i64 (i0:Int)],.box g3 9 [.string a],.box g5 460 [.func (.func fis) #[] #[]]]++y.2.2)
  (fun y=>y.1≤a.size∧pieceL p ((ints a).drop i0)=y.2.1++pieceL p ((ints a).drop y.1)∧I y.2.1 y.2.2) (fun y=>a.size - y.1) (i0,[],H0) ⟨hi0,rfl,h0⟩ sB (MSub.refl _) ?_
 rintro ⟨i,pre,H1⟩ ⟨hi,hus,hI⟩
 dsimp only at hi hus hI ⊢
 by_cases hlt:i<a.size
 ·
  rw [bat_drop hlt] at hus
  have hfc:=fun w=>hf (bat a i) w
  cases hp:p (bat a i)
  ·
   rw [hp] at hfc
   rw [pieceL_stop hp,List.append_nil] at hus
   repeat' (first|((with_reducible apply wq_callvp);exact rfl;exact rfl;infer_instance;exact rfl;(intro w' _;exact hfc w'))|refine sT ?_|refine sI ?_|refine sQ ?_|refine sT2 ?_|refine sQ2 ?_|refine sN ?_|refine sNQ ?_|refine sD ?_|refine sM fun _=> ?_|(refine sC ?_ ?_<;>intro hb<;>try omega)|(refine sCQ ?_ ?_<;>intro hb<;>try omega)|fail)
   exact ret0 (.inr rfl) rfl (.refl _) ⟨H1,.inl (hus ▸ hI),MSub.swap⟩
  ·
   rw [hp] at hfc
   rw [pieceL_cons hp] at hus
   repeat' (first|((with_reducible apply wq_callvp);exact rfl;exact rfl;infer_instance;exact rfl;(intro w' _;exact hfc w'))|((with_reducible apply w_regionI (id:=3)))|((with_reducible apply wli_v);exact rfl;exact rfl;(with_reducible apply v_idx);exact rfl;exact rfl;exact hlt)|refine sT ?_|refine sI ?_|refine sQ ?_|refine sT2 ?_|refine sQ2 ?_|refine sN ?_|refine sNQ ?_|refine sD ?_|refine sM fun _=> ?_|(refine sC ?_ ?_<;>intro hb<;>try omega)|(refine sCQ ?_ ?_<;>intro hb<;>try omega)|fail)
   (with_reducible apply wli_yieldB)
   ·
    exact rfl
   ·
    exact rfl
   ·
    exact rfl
   ·
    exact MSub.swapN
   ·
    exact fun w hm=>hy pre (bat a i) _ hus H1 [] hI w hm
   intro bb H2 hq
   cases bb
   ·
    repeat' (first|refine sT ?_|refine sI ?_|refine sT2 ?_|refine sM fun _=> ?_|(refine sC ?_ ?_<;>intro hb<;>try omega)|fail)
    exact ret0 eIO rfl (.refl _) ⟨H2,.inr ⟨_,hq⟩,by rw [List.append_nil];exact .refl _⟩
   ·
    repeat' (first|refine sT ?_|refine sI ?_|refine sT2 ?_|refine sN ?_|refine sM fun _=> ?_|(refine sC ?_ ?_<;>intro hb<;>try omega)|fail)
    refine ⟨(i+1,_,H2),⟨hlt,hus.trans (by rw [List.append_assoc];rfl),hq⟩,(by dsimp only;omega),sB,?_⟩
    exact MSub.swapN'
 ·
  have e:i=a.size:=by omega
  subst e
  have hl:=ints_length a
  rw [List.drop_of_length_le (i:=a.size) (by omega),show pieceL p []= [] from rfl,List.append_nil] at hus
  repeat' (first|refine sT ?_|refine sI ?_|refine sQ ?_|refine sT2 ?_|refine sQ2 ?_|refine sN ?_|refine sNQ ?_|refine sD ?_|refine sM fun _=> ?_|(refine sC ?_ ?_<;>intro hb<;>try omega)|(refine sCQ ?_ ?_<;>intro hb<;>try omega)|fail)
  exact ret0 (.inr rfl) rfl (.refl _) ⟨H1,.inl (hus ▸ hI),MSub.swap⟩
theorem piece_at (a:ByteArray) (i0:Nat) (fis:FuncId) (w:World):
  FnAt Tryz.prog 392 [.string a,.int .i64 (i0:Int),.func (.func fis) #[] #[]] w fun v H=> ∃ g4 g3 g5,v= .func (.func 406) #[] #[.pointer (some ⟨g4,0,none⟩),.pointer (some ⟨g3,0,none⟩),.pointer (some ⟨g5,0,none⟩)]∧H= [.box g4 3 [.int .i64 (i0:Int)],.box g3 9 [.string a],.box g5 460 [.func (.func fis) #[] #[]]]:=by
 refine fn_at Tryz.func392 rfl Tryz.ntmps392 rfl ?_
 repeat' (first|refine sT ?_|refine sM fun _=> ?_|(refine sC ?_ ?_<;>intro hb<;>try omega)|fail)
 rename_i g3 g4 g5
 exact ret1 (.inl rfl) rfl rfl (H' := [.box g4 3 [.int .i64 (i0:Int)],.box g3 9 [.string a],.box g5 460 [.func (.func fis) #[] #[]]]) mS ⟨g4,g3,g5,rfl,rfl⟩
set_option maxHeartbeats 1000000 in
theorem length_at (a:ByteArray) (ha:a.size≤1000000) (i0:Nat) (hi0:i0≤a.size) (fis:FuncId) [Callable Tryz.prog fis] (p:Int→Bool) (hf: ∀ c w,Pure Tryz.prog fis [.int .u8 c] w (.bool (p c))) (w:World):
  Pure Tryz.prog 358 [.string a,.int .i64 (i0:Int),.func (.func fis) #[] #[]] w (.int .i64 (runL p ((ints a).drop i0):Int)):=by
 refine fn_range_at Tryz.func358 rfl Tryz.ntmps358 (by rfl) ?_
 refine wt_seq_r ?_
 repeat' (first|((with_reducible apply wl_call);exact rfl;exact rfl;(intro w' hm;exact piece_at a i0 fis w');(rintro v H' ⟨g4,g3,g5,rfl,rfl⟩))|refine sT ?_|refine sR ?_|refine sM fun _=> ?_|(refine sC ?_ ?_<;>intro hb<;>try omega)|(refine sCR ?_ ?_<;>intro hb<;>try omega)|fail)
 rename_i gn
 have hpl:=pieceL_length p ((ints a).drop i0)
 have hll:=ints_length a
 have hrl:=runL_le p ((ints a).drop i0)
 rw [List.length_drop] at hrl
 rw [← hpl]
 refine wt_range (ps:= [12]) (us:=pieceL p ((ints a).drop i0)) (encs:=fun c=> [.int .u8 c]) (Hc:= [.box g4 3 [.int .i64 (i0:Int)],.box g3 9 [.string a],.box g5 460 [.func (.func fis) #[] #[]]]) (HU0:= [.box gn 3 [.int .i64 0]]) rfl (fun _=>rfl) rfl (piece_seq a ha i0 hi0 fis p hf w g4 g3 g5)
  (fun pre HU=>HU= [.box gn 3 [.int .i64 (pre.length:Int)]]) (fun _=>False) MSub.swap rfl ?_ ?_ ?_
 ·
  rintro l pre u post hus _ rfl F F'
  have hlu:=congrArg List.length hus
  simp only [List.length_append,List.length_cons] at hlu
  change WR _ _ _ l _ _ ((12,Value.int .u8 u)::_) (.box gn 3 [.int .i64 (pre.length:Int)]::F)
  repeat' (first|refine sT ?_|refine sR ?_|refine sM fun _=> ?_|(refine sC ?_ ?_<;>intro hb<;>try omega)|(refine sCR ?_ ?_<;>intro hb<;>try omega)|fail)
  refine assign_n ⟨[.box gn 3 [.int .i64 (pre.length:Int)]],MSub.refl _,?_⟩
  change WR _ _ _ l _ _ _ (.box gn 3 [.int .i64 (pre.length:Int)]::F')
  repeat' (first|refine sT ?_|refine sR ?_|refine sN ?_|refine sM fun _=> ?_|(refine sC ?_ ?_<;>intro hb<;>try omega)|(refine sCR ?_ ?_<;>intro hb<;>try omega)|fail)
  refine round_n [.box gn 3 [.int .i64 ((pre.length+1:Nat):Int)]] ?_ (by rw [List.length_append];rfl)
  change MSub (_::F') _
  exact mS
 ·
  rintro D _ rfl
  change endB _ _ _ _ _ (dObj D:: .box gn 3 [.int .i64 ((pieceL p ((ints a).drop i0)).length:Int)]::_)
  repeat' (first|refine sT ?_|refine sR ?_|refine sM fun _=> ?_|(refine sC ?_ ?_<;>intro hb<;>try omega)|(refine sCR ?_ ?_<;>intro hb<;>try omega)|fail)
  refine end_mark .hd ?_
  exact ret1 (.inl rfl) rfl rfl (MSub.nil _) rfl
 ·
  rintro D HU h
  exact h.elim
end Go.SL
