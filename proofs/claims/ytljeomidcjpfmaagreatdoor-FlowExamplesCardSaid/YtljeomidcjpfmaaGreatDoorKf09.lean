/-
  Lemmas and walks, put together: A1 W1 W3 W4 W5 W6 W7 W8 W9 W10.
-/
import Derived.Test.YtljeomidcjpfmaaGreatDoorKf08
set_option linter.unusedSimpArgs false
set_option linter.unusedVariables false
set_option maxRecDepth 20000
namespace Go.SL
open Go Go.Proofs
attribute [local irreducible] W WL WQ WG WA VOp thn blk cutP retP FnAt FnIn
theorem digC_yes {c:Int} (h1:48≤c) (h2:c≤57):digC c=true:=by simp [digC,h1,h2]
theorem digC_lt {c:Int} (h:c<48):digC c=false:=by simp [digC];omega
theorem digC_gt {c:Int} (h:57<c):digC c=false:=by simp [digC];omega
set_option maxRecDepth 10000 in
theorem digits_at (a:ByteArray) (ha:a.size≤1000000) (w:World):Pure Tryz.prog 304 [.string a] w (.int .i64 (runL digC (ints a):Int)):=by
 refine fn_at Tryz.func304 rfl Tryz.ntmps304 rfl ?_
 have hl:=ints_length a
 repeat' (first|refine sT ?_|refine sT2 ?_|refine sM fun _=> ?_|(refine sC ?_ ?_<;>intro hb<;>try omega)|exact cT|fail)
 refine w_loop (fun i:Nat=> [(0,.string a),(5,.int .i64 (a.size:Int)),(6,.int .i64 (i:Int))]) (fun _=> []) (fun i=>i≤a.size∧runL digC (ints a)=i+runL digC ((ints a).drop i)) (fun i=>a.size - i) 0 ⟨by omega,by simp⟩ sB mS ?_
 rintro i ⟨hi,hr⟩
 by_cases hlt:i<a.size
 ·
  have hs1:=bat_drop hlt
  rw [hs1] at hr
  simp only [runL] at hr
  repeat' (first|refine sT ?_|refine sT2 ?_|refine sN ?_|refine sM fun _=> ?_|(refine sC ?_ ?_<;>intro hb<;>try omega)|exact cT|fail)
  ·
   (refine rT1 ?_)
   rw [hr,digC_lt hb];simp
  ·
   (refine rT1 ?_)
   rw [hr,digC_gt hb];simp
  ·
   rename_i h1
   rw [digC_yes h1 hb] at hr
   exact ⟨i+1,⟨hlt,by rw [hr];simp;omega⟩,by omega,by exact sB,by exact mS⟩
 ·
  have e:i=a.size:=by omega
  subst e
  repeat' (first|refine sT ?_|refine sT2 ?_|refine sM fun _=> ?_|(refine sC ?_ ?_<;>intro hb<;>try omega)|exact cT|fail)
  (refine rT1 ?_)
  rw [hr,List.drop_of_length_le (by omega)];simp [runL]
def signedE (hi lo:Int) (neg:Bool):Int × Bool:=if hi≠0∨mostI<lo then (0,false) else (if neg then -lo else lo,true)
theorem wrap_u64_i64 {v:Int} (h1:0≤v) (h2:v≤mostI):IntKind.i64.wrap v=v:=I64.wrap ⟨by omega,by simpa [mostI] using h2⟩
set_option maxRecDepth 10000 in
theorem signed_at (hi lo:Int) (neg:Bool) (h0:0≤lo) (w:World):Pure Tryz.prog 305 [.int .u64 hi,.int .u64 lo,.bool neg] w (.tuple #[.int .i64 (signedE hi lo neg).1,.bool (signedE hi lo neg).2]):=by
 refine fn_at Tryz.func305 rfl Tryz.ntmps305 rfl ?_
 by_cases hh:hi=0
 ·
  by_cases hl:lo≤mostI
  ·
   have hw:=wrap_u64_i64 h0 hl
   have hm:mostI=9223372036854775807:=rfl
   have e:signedE hi lo neg=(if neg then -lo else lo,true):=by rw [signedE,if_neg (by omega)]
   rw [e]
   subst hh
   cases neg
   ·
    repeat' (first|((with_reducible apply wl_v);exact rfl;(with_reducible apply v_conv_to);exact rfl;exact hw)|refine sT ?_|refine sM fun _=> ?_|(refine sC ?_ ?_<;>intro hb<;>try omega)|exact cT|fail)
    all_goals first|(exfalso;omega)|((refine rT2 ?_);rfl)
   ·
    repeat' (first|((with_reducible apply wl_v);exact rfl;(with_reducible apply v_conv_to);exact rfl;exact hw)|((with_reducible apply wl_v);exact rfl;(with_reducible apply v_neg);exact rfl;exact ⟨by omega,by omega⟩)|refine sT ?_|refine sM fun _=> ?_|(refine sC ?_ ?_<;>intro hb<;>try omega)|exact cT|fail)
    all_goals first|(exfalso;omega)|((refine rT2 ?_);rfl)
  ·
   have hm:mostI=9223372036854775807:=rfl
   have e:signedE hi lo neg=(0,false):=by rw [signedE,if_pos (by omega)]
   rw [e]
   repeat' (first|refine sT ?_|refine sM fun _=> ?_|(refine sC ?_ ?_<;>intro hb<;>try omega)|exact cT|fail)
   all_goals first|(exfalso;omega)|((refine rT2 ?_);rfl)
 ·
  have e:signedE hi lo neg=(0,false):=by rw [signedE,if_pos (.inl hh)]
  rw [e]
  repeat' (first|refine sT ?_|refine sM fun _=> ?_|(refine sC ?_ ?_<;>intro hb<;>try omega)|exact cT|fail)
  all_goals first|(exfalso;omega)|((refine rT2 ?_);rfl)
theorem signed_one (u:Int) (neg:Bool) (h0:0≤u) (h1:u≤mostI) (w:World):Pure Tryz.prog 305 [.int .u64 0,.int .u64 u,.bool neg] w (.tuple #[.int .i64 (if neg then -u else u),.bool true]):=by
 have h:=signed_at 0 u neg h0 w
 rwa [signedE,if_neg (by omega)] at h
theorem natOf_snoc: ∀ (l:List Int) (v c:Int),natOf (l++ [c]) v=10*natOf l v+(c - 48)
 | [],_,_=>rfl
 |d::r,v,c=>by simp only [List.cons_append,natOf];exact natOf_snoc r _ c
theorem natOf_ge: ∀ (l:List Int) {v:Int},(∀ c∈l,48≤c)→0≤v→v≤natOf l v
 | [],_,_,_=>Int.le_refl _
 |c::r,v,h,h0=>by
  have h1:=h c List.mem_cons_self
  have:=natOf_ge r (v:=10*v+(c - 48)) (fun d hd=>h d (List.mem_cons_of_mem _ hd)) (by omega)
  simp only [natOf];omega
theorem natOf_append (l m:List Int) (v:Int):natOf (l++m) v=natOf m (natOf l v):=by
 induction l generalizing v with
 |nil=>rfl
 |cons c l ih=>simp only [List.cons_append,natOf,ih]
def decL (l0:List Int):Int × Int:=
 let neg:=decide (l0.head? =some 45)
 let l:=if neg then l0.tail else l0
 let n:=runL digC l
 let rest:=l.drop n
 let frac:=decide (1<rest.length) && (decide (rest.head? =some 46) && decide (runL digC rest.tail+1=rest.length))
 let p5:=(if frac then rest.tail else [])++ [48,48,48,48,48]
 if n=0∨(frac=false∧rest≠ []) then (0,4)
 else
  let v:=natOf (l.take n++p5.take 4) 0+(if 53≤p5.getD 4 0 then 1 else 0)
  if mostI<v then (0,3) else (if neg then -v else v,0)
theorem head_bat (a:ByteArray) (c:Int):((ints a).head? =some c)↔(0<a.size∧bat a 0=c):=by
 by_cases h:0<a.size
 ·
  have:=bat_drop h
  rw [List.drop_zero] at this
  rw [this];simp [h]
 ·
  have:ints a= []:=by rw [← List.length_eq_zero_iff,ints_length];omega
  rw [this];simp;omega
set_option maxRecDepth 10000 in
theorem decParse_at (a:ByteArray) (ha:a.size≤1000000) (w:World):Pure Tryz.prog 251 [.string a] w (.tuple #[.int .i64 (decL (ints a)).1,.int .i64 (decL (ints a)).2]):=by
 refine fn_at Tryz.func251 rfl Tryz.ntmps251 rfl ?_
 have hl:=ints_length a
 generalize hneg:decide ((ints a).head? =some 45)=neg
 generalize hls:(if neg then (ints a).tail else ints a)=ls
 have hb0:=head_bat a 45
 repeat' (first|(refine w_cutG (id:=1) (ι:=Bool) (fun b=> [(0,.string a),(4,.bool b)]) (fun _=> []) (fun b=>neg=b) ?_ ?_)|refine sT ?_|refine sT2 ?_|refine sM fun _=> ?_|(refine sC ?_ ?_<;>intro hb<;>try omega)|exact cT|fail)
 ·
  (apply cut_n;rotate_left 1;exact sB;exact mS)
  rw [← hneg,decide_eq_decide,hb0]
  simp;omega
 ·
  (apply cut_n;rotate_left 1;exact sB;exact mS)
  rw [← hneg,decide_eq_false_iff_not,hb0]
  omega
 rintro _ rfl
 repeat' (first|(refine w_cutR (id:=2) (ι:=ByteArray) (fun b=> [(0,.string b),(4,.bool neg)]) (fun _=> []) (fun b=>ints b=ls∧b.size≤a.size) ?_ ?_)|refine sT ?_|refine sT2 ?_|refine sM fun _=> ?_|(refine sC ?_ ?_<;>intro hb<;>try omega)|exact cT|fail)
 ·
  have h1:0<a.size:=(hb0.1 (of_decide_eq_true (hneg.trans hb))).1
  repeat' (first|refine sT ?_|refine sT2 ?_|refine sM fun _=> ?_|(refine sC ?_ ?_<;>intro hb<;>try omega)|exact cT|fail)
  (apply cut_n;rotate_left 1;exact sB;exact mS)
  rw [← hls,hb,ints_from,sub_size _ (Nat.le_refl _)]
  simp
 ·
  (apply cut_n;rotate_left 1;exact sB;exact mS)
  rw [← hls,hb]
  simp
 rintro b ⟨hbl,hbs⟩
 have hlb:=ints_length b
 rw [hbl] at hlb
 have hdl:=runL_le digC ls
 generalize hn:runL digC ls=n at hdl
 generalize hrest:ls.drop n=rest
 generalize hfr:(decide (1<rest.length) && (decide (rest.head? =some 46) && decide (runL digC rest.tail+1=rest.length)))=fr
 have hcd:=digits_at b (by omega)
 rw [hbl,hn] at hcd
 have hb1:=head_bat (sub b n b.size) 46
 have hs1:=sub_size b (lo:=n) (Nat.le_refl b.size)
 have hr1:ints (sub b n b.size)=rest:=by rw [ints_from,hbl,hrest]
 generalize hz:sub b n b.size=z at hb1 hs1 hr1
 have hrl:rest.length=z.size:=by rw [← hr1,ints_length]
 have e1:ints (sub z 1 z.size)=rest.tail:=by rw [ints_from,hr1,List.drop_one]
 rw [hr1] at hb1
 have hcd2:=fun h=>digits_at (sub z 1 z.size) h
 repeat' (first|(refine w_cutG (id:=7) (ι:=Bool) (fun x=> [(4,.bool neg),(5,.int .i64 (n:Int)),(6,.string (sub b 0 n)),(7,.string z),(8,.string emptyB),(50,.bool x)]) (fun _=> []) (fun x=>fr=x) ?_ ?_)|((with_reducible apply wl_callp);exact rfl;exact rfl;(intro w hm;exact hcd w))|((with_reducible apply wl_callp);exact rfl;exact rfl;(intro w hm;exact hcd2 (by rw [sub_size _ (Nat.le_refl _)];omega) w))|(rw [hz])|refine sT ?_|refine sQ ?_|refine sT2 ?_|refine sQ2 ?_|refine sN ?_|refine sNQ ?_|refine sD ?_|refine sM fun _=> ?_|(refine sC ?_ ?_<;>intro hb<;>try omega)|(refine sCQ ?_ ?_<;>intro hb<;>try omega)|exact cT|fail)
 ·
  (apply cut_n;rotate_left 1;exact sB;exact mS)
  rename_i h1
  rw [e1,← hfr,decide_eq_true (by omega:1<rest.length),decide_eq_true (hb1.2 ⟨by omega,hb⟩)]
  simp only [Bool.true_and,decide_eq_decide]
  omega
 ·
  (apply cut_n;rotate_left 1;exact sB;exact mS)
  rw [← hfr,decide_eq_false (fun h=>hb (hb1.1 h).2)]
  simp
 ·
  (apply cut_n;rotate_left 1;exact sB;exact mS)
  rw [← hfr,decide_eq_false (by omega)]
  rfl
 rintro _ rfl
 have hf1:fr=true→1≤z.size:=fun h=>by
  rw [← hfr] at h
  simp at h
  omega
 have hf2:fr=false→((z=emptyB)↔rest= []):=fun _=>by rw [← ints_nil,hr1]
 have hbl2:b.size≤1000000:=by omega
 refine w_cut' (ι:=ByteArray × ByteArray) (fun x=> [(4,.bool neg),(5,.int .i64 (n:Int)),(6,.string (sub b 0 n)),(7,.string x.1),(8,.string x.2)]) (fun _=> []) (fun x=>ints x.2=(if fr then rest.tail else [])∧((x.1=emptyB)↔(fr=true∨rest= []))∧x.2.size≤a.size) ?_ ?_
 ·
  cases fr
  ·
   repeat' (first|refine sT ?_|refine sT2 ?_|refine sM fun _=> ?_|(refine sC ?_ ?_<;>intro hb<;>try omega)|exact cT|fail)
   refine cut_n ((z,emptyB)) ?_ sB mS
   exact ⟨rfl,by rw [hf2 rfl];simp,Nat.zero_le _⟩
  ·
   have h1:=hf1 rfl
   repeat' (first|refine sT ?_|refine sT2 ?_|refine sM fun _=> ?_|(refine sC ?_ ?_<;>intro hb<;>try omega)|exact cT|fail)
   refine cut_n ((emptyB,sub z 1 z.size)) ?_ sB mS
   exact ⟨by rw [e1];rfl,by simp [emptyB],by rw [sub_size _ (Nat.le_refl _)];omega⟩
 rintro ⟨z',pl⟩ ⟨h1,h2,h3⟩
 dsimp only at*
 generalize hp5:(if fr then rest.tail else [])++ [48,48,48,48,48]=p5
 have hpl:ints (pl++⟨#[48,48,48,48,48]⟩)=p5:=by rw [ints_append,h1,← hp5];rfl
 have hpz:(pl++⟨#[48,48,48,48,48]⟩:ByteArray).size=pl.size+5:=by rw [ByteArray.size_append];rfl
 generalize hqd:(pl++⟨#[48,48,48,48,48]⟩:ByteArray)=q at hpl hpz
 have hres:decL (ints a)=if n=0∨(fr=false∧rest≠ []) then (0,4) else if mostI<natOf (ls.take n++p5.take 4) 0+(if 53≤p5.getD 4 0 then 1 else 0) then (0,3) else (if neg then -(natOf (ls.take n++p5.take 4) 0+(if 53≤p5.getD 4 0 then 1 else 0)) else natOf (ls.take n++p5.take 4) 0+(if 53≤p5.getD 4 0 then 1 else 0),0):=by
  unfold decL
  rw [hneg]
  dsimp only
  rw [hls,hn,hrest,hfr,hp5]
 rw [hres]
 by_cases herr:n=0∨(fr=false∧rest≠ [])
 ·
  rw [if_pos herr]
  repeat' (first|refine sT ?_|refine sT2 ?_|refine sM fun _=> ?_|(refine sC ?_ ?_<;>intro hb<;>try omega)|exact cT|fail)
  ·
   (refine rT2 ?_)
   rfl
  ·
   (refine rT2 ?_)
   rfl
  ·
   exfalso
   have hz' :z' =emptyB:=Decidable.not_not.1 hb
   have:=h2.1 hz'
   rcases herr with h|⟨h,h'⟩
   ·
    omega
   ·
    rcases this with h4|h4
    ·
     rw [h] at h4;cases h4
    ·
     exact h' h4
 ·
  rw [if_neg herr]
  generalize hL:ls.take n++p5.take 4=L
  have hp5l:p5.length=pl.size+5:=by rw [← hpl,ints_length,hpz]
  have hy:ints (sub b 0 n++sub q 0 4)=L:=by rw [ints_append,ints_to,ints_to,hbl,hpl,hL]
  have hyz:(sub b 0 n++sub q 0 4:ByteArray).size=n+4:=by rw [ByteArray.size_append,sub_size _ (by omega),sub_size _ (by omega)];omega
  generalize hyd:(sub b 0 n++sub q 0 4:ByteArray)=y at hy hyz
  have hyl:L.length=y.size:=by rw [← hy,ints_length]
  have hdig: ∀ c∈L,48≤c∧c≤57:=by
   have hall: ∀ (l:List Int) (c:Int),c∈l.take (runL digC l)→48≤c∧c≤57:=fun l c hc=>by
    obtain ⟨j,hj,rfl⟩:=List.getElem_of_mem hc
    simp only [List.length_take] at hj
    have h:=runL_all (p:=digC) l j (l[j]'(by omega)) (by omega) (List.getElem?_eq_getElem _)
    simp only [List.getElem_take]
    simpa [digC] using h
   intro c hc
   rw [← hL] at hc
   rcases List.mem_append.1 hc with hc|hc
   ·
    rw [← hn] at hc;exact hall ls c hc
   ·
    have hc:=List.mem_of_mem_take hc
    rw [← hp5] at hc
    rcases List.mem_append.1 hc with hc|hc
    ·
     cases hc1:fr
     ·
      rw [hc1] at hc;cases hc
     ·
      rw [hc1] at hc
      simp only [if_true] at hc
      have h7:runL digC rest.tail=rest.tail.length:=by
       rw [hc1] at hfr
       simp only [Bool.and_eq_true,decide_eq_true_eq] at hfr
       rw [List.length_tail];omega
      have:=hall rest.tail c (by rw [h7,List.take_length];exact hc)
      exact this
    ·
     simp at hc;omega
  have hq4:bat q 4=p5.getD 4 0:=by rw [bat,hpl]
  have hm0:mostI=9223372036854775807:=rfl
  repeat' (first|((with_reducible apply wl_v (d:=60));exact rfl;(with_reducible apply v_adds_to);exact rfl;exact rfl;exact hqd;(show pl.size+5≤_;omega))|((with_reducible apply wl_v (d:=64));exact rfl;(with_reducible apply v_adds_to);exact rfl;exact rfl;exact hyd;(rw [sub_size _ (by omega),sub_size _ (by omega)];omega))|((with_reducible apply wl_toBytes);exact rfl;exact rfl;intro gb cap)|refine sT ?_|refine sT2 ?_|refine sM fun _=> ?_|(refine sC ?_ ?_<;>intro hb<;>try omega)|exact cT|fail)
  ·
   exfalso
   refine herr (.inr ?_)
   have h4: ¬ (fr=true∨rest= []):=fun h=>hb (h2.2 h)
   cases hc:fr
   ·
    exact ⟨rfl,fun h=>h4 (.inr h)⟩
   ·
    exact absurd (.inl hc) h4
  have hup: ∀ i,i≤L.length→mostI<natOf (L.take i) 0→mostI<natOf L 0:=fun i hi h=>by
   have e:L=L.take i++L.drop i:=(List.take_append_drop i L).symm
   rw [e,natOf_append]
   have h0:0≤natOf (L.take i) 0:=natOf_ge _ (fun c hc=>(hdig c (List.mem_of_mem_take hc)).1) (Int.le_refl _)
   have:=natOf_ge (L.drop i) (v:=natOf (L.take i) 0) (fun c hc=>(hdig c (List.mem_of_mem_drop hc)).1) h0
   omega
  refine w_loopK [4,8,65,66] rfl (fun x:Nat × Int × Bool=> [(9,.int .u64 x.2.1),(10,.bool x.2.2),(67,.int .i64 (x.1:Int))]) (fun _=> [.byt gb 5 y.size cap (bytesV y)]) (fun x=>x.1≤L.length∧0≤x.2.1∧x.2.1<18446744073709551616∧(x.2.2=false→x.2.1=natOf (L.take x.1) 0∧x.2.1≤mostI)∧(x.2.2=true→mostI<natOf (L.take x.1) 0)) (fun x=>L.length - x.1) (0,0,false) ⟨Nat.zero_le _,Int.le_refl _,by decide,fun _=>⟨rfl,by decide⟩,fun h=>by cases h⟩ sB mS ?_
  rintro ⟨i,v,gr⟩ ⟨hi,hv0,hv1,hg0,hg1⟩
  dsimp only at hi hv0 hv1 hg0 hg1 ⊢
  by_cases hlt:i<L.length
  ·
   have hiy:i<y.size:=by omega
   have hge:L[i]? =some L[i]:=List.getElem?_eq_getElem hlt
   have hci:=hdig L[i] (List.getElem_mem hlt)
   have hsn:natOf (L.take (i+1)) 0=10*natOf (L.take i) 0+(L[i] - 48):=by rw [List.take_succ_eq_append_getElem hlt,natOf_snoc]
   generalize L[i]=c at hge hci hsn
   have hget:(bytesV y)[0+i*1]? =some (.int .u8 c):=by rw [bytesV_eq,hy,List.getElem?_map,show 0+i*1=i by omega,hge];rfl
   have hwc:IntKind.u8.wrap (c - 48)=c - 48:=wrap_u8 (by omega) (by omega)
   have hwc2:IntKind.u64.wrap (c - 48)=c - 48:=by simp [IntKind.wrap,IntKind.bits,IntKind.signed];omega
   obtain ⟨v',hadd,hv2,hv3,hv4⟩: ∃ v',IntKind.u64.wrap (IntKind.u64.wrap (10*v)+(c - 48))=v' ∧0≤v' ∧v' <18446744073709551616∧(v≤922337203685477580→v' =10*v+(c - 48)):=by
    refine ⟨_,rfl,?_⟩
    simp only [IntKind.wrap,IntKind.bits,IntKind.signed]
    simp
    omega
   have hn0:0≤natOf (L.take i) 0:=natOf_ge _ (fun c hc=>(hdig c (List.mem_of_mem_take hc)).1) (Int.le_refl _)
   cases gr
   ·
    obtain ⟨hg2,hg3⟩:=hg0 rfl
    repeat' (first|((with_reducible apply wl_v);exact rfl;(with_reducible apply v_indexAddr);exact rfl;exact rfl;exact hiy)|((with_reducible apply wl_v);exact rfl;(with_reducible apply v_load_byt);exact rfl;exact .hd;exact hget)|((with_reducible apply wl_v (d:=74));exact rfl;(with_reducible apply v_mulw);exact rfl;exact rfl)|((with_reducible apply wl_v (d:=76));exact rfl;(with_reducible apply v_subw_id);exact rfl;exact rfl;exact hwc)|((with_reducible apply wl_v (d:=77));exact rfl;(with_reducible apply v_conv_to);exact rfl;exact hwc2)|((with_reducible apply wl_v (d:=78));exact rfl;(with_reducible apply v_addw_id);exact rfl;exact rfl;exact hadd)|refine sT ?_|refine sT2 ?_|refine sN ?_|refine sM fun _=> ?_|(refine sC ?_ ?_<;>intro hb<;>try omega)|exact cT|fail)
    ·
     refine ⟨(i+1,v',true),?_,(by first|omega|(dsimp only;omega)),sB,sB,mS⟩
     exact ⟨hlt,hv2,hv3,(fun h=>by cases h),fun _=>by dsimp only;omega⟩
    ·
     have h5:=hv4 (by omega)
     refine ⟨(i+1,v',decide (mostI<v')),⟨hlt,hv2,hv3,fun h=> ?_,fun h=> ?_⟩,(by dsimp only;omega),sB,sB,mS⟩
     ·
      have h6:=of_decide_eq_false h
      exact ⟨by dsimp only;omega,by dsimp only;omega⟩
     ·
      have h6:=of_decide_eq_true h
      dsimp only;omega
   ·
    have hg2:=hg1 rfl
    repeat' (first|((with_reducible apply wl_v);exact rfl;(with_reducible apply v_indexAddr);exact rfl;exact rfl;exact hiy)|((with_reducible apply wl_v);exact rfl;(with_reducible apply v_load_byt);exact rfl;exact .hd;exact hget)|((with_reducible apply wl_v (d:=74));exact rfl;(with_reducible apply v_mulw);exact rfl;exact rfl)|((with_reducible apply wl_v (d:=76));exact rfl;(with_reducible apply v_subw_id);exact rfl;exact rfl;exact hwc)|((with_reducible apply wl_v (d:=77));exact rfl;(with_reducible apply v_conv_to);exact rfl;exact hwc2)|((with_reducible apply wl_v (d:=78));exact rfl;(with_reducible apply v_addw_id);exact rfl;exact rfl;exact hadd)|refine sT ?_|refine sT2 ?_|refine sN ?_|refine sM fun _=> ?_|(refine sC ?_ ?_<;>intro hb<;>try omega)|exact cT|fail)
    all_goals
     refine ⟨(i+1,v',true),?_,(by first|omega|(dsimp only;omega)),sB,sB,mS⟩
     exact ⟨hlt,hv2,hv3,(fun h=>by cases h),fun _=>by dsimp only;omega⟩
  ·
   have e:i=L.length:=by omega
   subst e
   rw [List.take_of_length_le (Nat.le_refl _)] at hg0 hg1
   generalize natOf L 0=N at hg0 hg1 hup ⊢
   have hadd:v≤mostI→IntKind.u64.wrap (v+1)=v+1:=fun h=>by simp [IntKind.wrap,IntKind.bits,IntKind.signed];omega
   by_cases h5:53≤p5.getD 4 0
   ·
    rw [if_pos h5]
    cases gr
    ·
     obtain ⟨hg2,hg3⟩:=hg0 rfl
     subst hg2
     by_cases h6:mostI<v+1
     ·
      rw [if_pos h6]
      repeat' (first|((with_reducible apply wl_v (d:=89));exact rfl;(with_reducible apply v_addw_id);exact rfl;exact rfl;exact hadd hg3)|refine sT ?_|refine sT2 ?_|refine sM fun _=> ?_|(refine sC ?_ ?_<;>intro hb<;>try omega)|exact cT|fail)
      all_goals first|(exfalso;omega)|((refine rT2 ?_);rfl)
     ·
      rw [if_neg h6]
      repeat' (first|((with_reducible apply wl_v (d:=89));exact rfl;(with_reducible apply v_addw_id);exact rfl;exact rfl;exact hadd hg3)|((with_reducible apply wl_callp);exact rfl;exact rfl;(intro w' hm;exact (signed_one (v+1) neg (by omega) (by omega) w')))|refine sT ?_|refine sT2 ?_|refine sM fun _=> ?_|(refine sC ?_ ?_<;>intro hb<;>try omega)|exact cT|fail)
      all_goals first|(exfalso;omega)|((refine rT2 ?_);rfl)
    ·
     rw [if_pos (by have:=hg1 rfl;omega)]
     obtain ⟨u,hu⟩: ∃ u,IntKind.u64.wrap (v+1)=u:=⟨_,rfl⟩
     repeat' (first|((with_reducible apply wl_v (d:=89));exact rfl;(with_reducible apply v_addw_id);exact rfl;exact rfl;exact hu)|refine sT ?_|refine sT2 ?_|refine sM fun _=> ?_|(refine sC ?_ ?_<;>intro hb<;>try omega)|exact cT|fail)
     all_goals first|(exfalso;omega)|((refine rT2 ?_);rfl)
   ·
    rw [if_neg h5,Int.add_zero]
    cases gr
    ·
     obtain ⟨hg2,hg3⟩:=hg0 rfl
     subst hg2
     rw [if_neg (by omega)]
     repeat' (first|((with_reducible apply wl_callp);exact rfl;exact rfl;(intro w' hm;exact (signed_one v neg (by omega) hg3 w')))|refine sT ?_|refine sT2 ?_|refine sM fun _=> ?_|(refine sC ?_ ?_<;>intro hb<;>try omega)|exact cT|fail)
     all_goals first|(exfalso;omega)|((refine rT2 ?_);rfl)
    ·
     rw [if_pos (hg1 rfl)]
     repeat' (first|refine sT ?_|refine sT2 ?_|refine sM fun _=> ?_|(refine sC ?_ ?_<;>intro hb<;>try omega)|exact cT|fail)
     all_goals first|(exfalso;omega)|((refine rT2 ?_);rfl)
end Go.SL
namespace Go.SL
open Go Go.Proofs
attribute [local irreducible] W WL WQ WG VOp thn blk retP FnAt FnIn
set_option maxRecDepth 10000 in
theorem valid_at (c r:Int) (w:World):Pure Tryz.prog 87 [.agg #[.int .i64 c,.int .i64 r]] w (.bool (valid c r)):=by
 refine fn_at Tryz.func87 rfl Tryz.ntmps87 rfl ?_
 repeat' (first|refine sT ?_|refine sM fun _=> ?_|(refine sC ?_ ?_<;>intro hb<;>try omega)|fail)
 all_goals ((refine rT1 ?_);((try simp only [← Int.not_lt] at*);simp_all [valid, -Int.not_lt, -Int.not_le,← Int.not_lt]))
set_option maxRecDepth 10000 in
theorem corners_at (r:Rct) (w:World):Pure Tryz.prog 140 [.agg (encR r).toArray] w (.tuple #[.agg #[.int .i64 r.c1,.int .i64 r.r1],.agg #[.int .i64 r.c2,.int .i64 r.r2]]):=by
 refine fn_at Tryz.func140 rfl Tryz.ntmps140 rfl ?_
 repeat' (first|refine sT ?_|refine sM fun _=> ?_|(refine sC ?_ ?_<;>intro hb<;>try omega)|fail)
 rename_i g1 g2 g3
 refine w_drawG (fun D=> [.box g2 51 [.int .i64 (bif D 10 then r.c1 else 0),.int .i64 (bif D 10 then r.r1 else 0)],.box g3 51 [.int .i64 (bif D 11 then r.c2 else 0),.int .i64 (bif D 11 then r.r2 else 0)],.box g1 33 (encR r)]) (by kernel_rfl) (by kernel_rfl) (.pick (.tl .hd) (.pick .hd (.refl _))) ?_
 repeat' (first|refine sT ?_|refine sG ?_|refine sM fun _=> ?_|(refine sC ?_ ?_<;>intro hb<;>try omega)|fail)
 refine wg_put _ _ rfl rfl (fun D=> .tl .hd) rfl rfl rfl (fun _=>Nat.le_refl _) (fun D ht=> .pick (.tl .hd) (.pick .hd (.refl _))) ?_
 refine wg_nil fun D hD=> ?_
 have h10:=hD 10 (by decide)
 have h11:=hD 11 (by decide)
 simp only [h10,h11,cond_true]
 repeat' (first|refine sT ?_|refine sM fun _=> ?_|(refine sC ?_ ?_<;>intro hb<;>try omega)|fail)
 refine retcc (.inl rfl) Tryz.results140 rfl .hd rfl rfl (.tl .hd) rfl (MSub.nil _) ?_
 rfl
set_option maxRecDepth 10000 in
theorem rect_at (r:Rct) (w:World):Pure Tryz.prog 67 [.agg (encR r).toArray] w (.int .i64 (rectE r)):=by
 refine fn_at Tryz.func67 rfl Tryz.ntmps67 rfl ?_
 repeat' (first|((with_reducible apply wl_callp);exact rfl;exact rfl;(intro w hm;exact corners_at r w))|((with_reducible apply wl_callp);exact rfl;exact rfl;(intro w hm;exact valid_at r.c1 r.r1 w))|((with_reducible apply wl_callp);exact rfl;exact rfl;(intro w hm;exact valid_at r.c2 r.r2 w))|refine sT ?_|refine sM fun _=> ?_|(refine sC ?_ ?_<;>intro hb<;>try omega)|fail)
 all_goals ((refine rT1 ?_);((try simp only [← Int.not_lt] at*);simp_all [rectE,rectOk, -Int.not_lt, -Int.not_le,← Int.not_lt]))
set_option maxRecDepth 10000 in
theorem known_at (fn:Int) (w:World):Pure Tryz.prog 412 [.int .u8 fn] w (.bool (knownF fn)):=by
 refine fn_at Tryz.func412 rfl Tryz.ntmps412 rfl ?_
 repeat' (first|refine sT ?_|refine sM fun _=> ?_|(refine sC ?_ ?_<;>intro hb<;>try omega)|fail)
 all_goals ((refine rT1 ?_);((try simp only [← Int.not_lt] at*);simp_all [knownF, -Int.not_lt, -Int.not_le,← Int.not_lt]))
set_option maxRecDepth 10000 in
theorem released_at (fn:Int) (w:World):Pure Tryz.prog 400 [.int .u8 fn] w (.bool (releasedF fn)):=by
 refine fn_at Tryz.func400 rfl Tryz.ntmps400 rfl ?_
 repeat' (first|refine sT ?_|refine sM fun _=> ?_|(refine sC ?_ ?_<;>intro hb<;>try omega)|fail)
 all_goals ((refine rT1 ?_);((try simp only [← Int.not_lt] at*);simp_all [releasedF, -Int.not_lt, -Int.not_le,← Int.not_lt]))
set_option maxRecDepth 10000 in
theorem below_at (n:Nd) (w:World):Pure Tryz.prog 375 [.agg (encN n).toArray] w (.int .i64 (below n)):=by
 refine fn_at Tryz.func375 rfl Tryz.ntmps375 rfl ?_
 repeat' (first|refine sT ?_|refine sM fun _=> ?_|(refine sC ?_ ?_<;>intro hb<;>try omega)|fail)
 all_goals ((refine rT1 ?_);simp_all [below])
set_option maxRecDepth 10000 in
theorem arity_at (fn:Int) (w:World):Pure Tryz.prog 398 [.int .u8 fn] w (.tuple #[.int .i64 (arity fn).1,.int .i64 (arity fn).2.1,.int .i64 (arity fn).2.2]):=by
 refine fn_at Tryz.func398 rfl Tryz.ntmps398 rfl ?_
 repeat' (first|((with_reducible apply wl_callp);exact rfl;exact rfl;(intro w hm;exact known_at fn w))|refine sT ?_|refine sM fun _=> ?_|(refine sC ?_ ?_<;>intro hb<;>try omega)|fail)
 all_goals ((refine rT3 ?_);simp_all [arity])
set_option maxRecDepth 10000 in
theorem wide_at (fn i:Int) (w:World):Pure Tryz.prog 399 [.int .u8 fn,.int .i64 i] w (.tuple #[.bool (wideF fn i).1,.int .i64 (wideF fn i).2]):=by
 refine fn_at Tryz.func399 rfl Tryz.ntmps399 rfl ?_
 repeat' (first|((with_reducible apply wl_callp);exact rfl;exact rfl;(intro w hm;exact arity_at fn w))|((with_reducible apply wl_callp);exact rfl;exact rfl;(intro w hm;exact released_at fn w))|refine sT ?_|refine sM fun _=> ?_|(refine sC ?_ ?_<;>intro hb<;>try omega)|fail)
 all_goals ((refine rT2 ?_);((try simp only [← Int.not_lt] at*);simp_all [wideF, -Int.not_lt, -Int.not_le,← Int.not_lt]))
set_option maxHeartbeats 1000000 in
theorem fields_at (n:Nd) (w:World):Pure Tryz.prog 374 [.agg (encN n).toArray] w (.int .i64 (fieldsE n)):=by
 refine fn_at Tryz.func374 rfl Tryz.ntmps374 rfl ?_
 repeat' (first|((with_reducible apply wl_callp);exact rfl;exact rfl;(intro w hm;exact val_at n.v w))|((with_reducible apply wl_callp);exact rfl;exact rfl;(intro w hm;exact rect_at n.rect w))|((with_reducible apply wl_callp);exact rfl;exact rfl;(intro w hm;exact arity_at n.fn w))|((with_reducible apply w_drawB (T:=368) (fun D=> [.int .u8 n.kind,.int .u8 0,.int .i64 0,.string emptyB,.int .i64 0,.int .i64 0,.int .i64 0,.int .i64 0,.int .i64 0,.int .u8 (bif D 5 then n.fn else 0),.int .i64 (bif D 7 then n.n else 0)]) (xs' := [.int .u8 n.kind,.int .u8 0,.int .i64 0,.string emptyB,.int .i64 0,.int .i64 0,.int .i64 0,.int .i64 0,.int .i64 0,.int .u8 n.fn,.int .i64 n.n]));kernel_rfl;kernel_rfl;(first|exact .hd|exact .tl .hd);exact rfl;(intro D hD;simp only [hD 5 (by decide),hD 7 (by decide),cond_true]))|((with_reducible apply wl_v);exact rfl;(first|((with_reducible apply v_neqN (b:=⟨n.kind,n.v,zeroR,0,0,0⟩));exact rfl;exact rfl)|((with_reducible apply v_neqN (b:=⟨n.kind,zeroV,n.rect,0,0,0⟩));exact rfl;exact rfl)|((with_reducible apply v_neqN (b:=⟨n.kind,zeroV,zeroR,0,0,0⟩));exact rfl;exact rfl)|((with_reducible apply v_neqN (b:=⟨n.kind,zeroV,zeroR,n.op,0,0⟩));exact rfl;exact rfl)|((with_reducible apply v_neqN (b:=⟨n.kind,zeroV,zeroR,0,n.fn,n.n⟩));exact rfl;exact rfl)))|refine sT ?_|refine sG ?_|refine sM fun _=> ?_|(refine sC ?_ ?_<;>intro hb<;>try omega)|fail)
 all_goals ((refine rT1 ?_);((try simp only [← Int.not_lt] at*);simp_all [fieldsE,kindOk,want,litOk,oneR, -Int.not_lt, -Int.not_le,← Int.not_lt]))
end Go.SL
namespace Go.SL
open Go Go.Proofs
attribute [local irreducible] W WL WQ WG WA VOp thn blk retP FnAt FnIn
theorem kindAt_get {L:List Nd} {i:Nat} (h:i<L.length):kindAt L i=L[i].kind:=by simp [kindAt,h]
set_option maxHeartbeats 1000000 in
theorem fits_at (L:List Nd) (n:Nd) (ps:List Pt) (tv lv:Value) (w:World) (ht:Reads w tv L.length (L.flatMap encN)) (hp:Reads w lv ps.length (ps.flatMap encP)) (hroot: ∀ p∈ps,p.root<L.length) (hlen:ps.length≤1000000):
  Pure Tryz.prog 376 [tv,.agg (encN n).toArray,lv] w (.bool (fitsFrom L n 0 ps)):=by
 obtain ⟨At,ct,rfl,ht1,ht2,ht3⟩:=ht
 obtain ⟨Al,cl,rfl,hl1,hl2,hl3⟩:=hp
 refine fn_at Tryz.func376 rfl Tryz.ntmps376 rfl ?_
 repeat' (first|refine sT ?_|refine sM fun _=> ?_|(refine sC ?_ ?_<;>intro hb<;>try omega)|fail)
 rename_i gn
 refine w_loop (fun i:Nat=> [(0,.slice At L.length ct),(4,.pointer (some ⟨gn,0,none⟩)),(11,.slice Al ps.length cl),(12,.int .i64 (ps.length:Int)),(13,.int .i64 (i:Int))])
  (fun i=> [.box gn 368 (encN n)]) (fun i=>i≤ps.length∧fitsFrom L n 0 ps=fitsFrom L n (i:Int) (ps.drop i)) (fun i=>ps.length - i) 0 ⟨by omega,rfl⟩ ?_ ?_ ?_
 ·
  exact sB
 ·
  exact mS
 ·
  rintro i ⟨hi,hrec⟩
  by_cases hlt:i<ps.length
  ·
   obtain ⟨g,o,rfl,hro⟩:=hl3 (by omega)
   have hrp:=hro.elem encP_len i hlt
   have hr0:=hroot ps[i] (List.getElem_mem hlt)
   obtain ⟨gt,ot,rfl,hrt⟩:=ht3 (by omega)
   have hrn:=hrt.elem encN_len ps[i].root hr0
   rw [List.drop_eq_getElem_cons hlt,fitsFrom,fitOne,kindAt_get hr0] at hrec
   repeat' (first|((with_reducible apply wl_v);exact rfl;(with_reducible apply v_indexAddr);exact rfl;exact rfl;first|exact hlt|exact hr0)|((with_reducible apply wl_v);exact rfl;(with_reducible apply v_loadw_ro);exact rfl;exact hrp;exact rfl)|((with_reducible apply wl_v);exact rfl;(with_reducible apply v_loadf_ro);exact rfl;exact hrn;exact rfl)|((with_reducible apply wl_v);exact rfl;(with_reducible apply v_add);exact rfl;exact rfl;(constructor<;>omega))|((with_reducible apply wl_callp);exact rfl;exact rfl;(intro w hm;exact wide_at n.fn (i:Int) w))|((with_reducible apply wl_callp);exact rfl;exact rfl;(intro w hm;exact released_at n.fn w))|refine sT ?_|refine sM fun _=> ?_|(refine sC ?_ ?_<;>intro hb<;>try omega)|fail)
   all_goals first
    |((refine rT1 ?_);rw [hrec];simp_all [mayAt];done)
    |(refine ⟨i+1,⟨by omega,?_⟩,by omega,?_,?_⟩;(focus (rw [hrec,Int.natCast_add];simp [mayAt, *]));(focus exact sB);(focus exact mS))
  ·
   have e:i=ps.length:=by omega
   subst e
   rw [List.drop_length,fitsFrom] at hrec
   repeat' (first|refine sT ?_|refine sM fun _=> ?_|(refine sC ?_ ?_<;>intro hb<;>try omega)|fail)
   (refine rT1 ?_)
   rw [hrec]
def Visits (N:Nat) (w0:World) (f:FuncId) (caps:List Value) (Inv:List Visit→List Blk→Prop):Prop:=
 ∀ (vs:List Visit) (kids:List Nat) (d:Nat) (A:Option Nat) (cap:Nat) (H F:List Blk),Inv vs H→kids.length≤1000→vs.length<N→(∀ k∈kids,k<vs.length)→
  FnIn Tryz.prog f ([.int .i64 (vs.length:Int),sl A kids.length cap,.int .i64 (d:Int)]++caps) w0 (.own A 3 1 kids.length cap (kids.map fun (k:Nat)=> .int .i64 (k:Int))::(H++F))
   fun _ H' => ∃ H1,Inv (vs++ [(kids,d)]) H1∧MSub (H1++F) H'
theorem fields_ok {n:Nd} (h:fieldsE n=0):0≤below n∧below n≤16:=by
 unfold fieldsE at h
 split at h
 ·
  cases h
 ·
  rename_i hk
  split at h
  ·
   rename_i h7
   unfold below
   split
   ·
    omega
   ·
    split
    ·
     omega
    ·
     omega
  ·
   rename_i h7
   have h7' :n.kind=7:=by omega
   have hb:below n=n.n:=by simp [below,h7']
   have hk1:kindOk n=true:=by
    cases hh:kindOk n
    ·
     exact absurd (Or.inl hh) hk
    ·
     rfl
   simp [kindOk,h7'] at hk1
   split at h
   ·
    rename_i ha;omega
   ·
    split at h
    ·
     omega
    ·
     rename_i hc
     have hm:(arity n.fn).2.1≤16:=by
      unfold arity
      (repeat' split)<;>simp
     omega
theorem topOf_length (st:List Pt) (k:Nat) (h:k≤st.length):(topOf st k).length=k:=by simp [topOf];omega
theorem topOf_mem {st:List Pt} {k:Nat} {p:Pt} (h:p∈topOf st k):p∈st:=List.mem_of_mem_drop h
theorem top_reads {w0 w:World} {H:List Blk} {A:Option Nat} {st:List Pt} {cap k:Nat} (hm:Mem w0 w H) (hi:In (.own A 480 3 st.length cap (st.flatMap encP)) H) (h:k≤st.length):
  Reads w (.slice (if cap=st.length - k then A.map fun g=>⟨g,0,none⟩ else (A.map fun g=>(⟨g,0,none⟩:Addr)).map (·.add ((st.length - k)*3))) (st.length - (st.length - k)) (cap - (st.length - k))) (topOf st k).length ((topOf st k).flatMap encP):=by
 have h1:=(Reads.of_own hm hi).cut (lo:=st.length - k) (hi:=st.length) (sz:=3) (by omega) (Nat.le_refl _)
 have e1:st.length - (st.length - k)=(topOf st k).length:=by rw [topOf_length st k h];omega
 rw [flat_drop encP_len,e1] at h1
 have e2:((st.drop (st.length - k)).flatMap encP).take ((topOf st k).length*3)=(topOf st k).flatMap encP:=by
  rw [List.take_of_length_le (by rw [flat_length' encP_len];exact Nat.le_refl _)];rfl
 rw [e2] at h1
 rw [e1]
 exact h1
theorem depthOf_succ (top:List Pt) (j:Nat) (h:j<top.length):depthOf (top.take (j+1))=max (depthOf (top.take j)) (top[j].depth+1):=by
 unfold depthOf
 rw [List.take_succ_eq_append_getElem h,List.foldl_append]
 rfl
theorem depthOf_bound (top:List Pt) (h: ∀ p∈top,p.depth≤32):depthOf top≤33:=by
 have: ∀ (l:List Pt) (d:Nat),d≤33→(∀ p∈l,p.depth≤32)→l.foldl (fun d p=>max d (p.depth+1)) d≤33:=by
  intro l
  induction l with
  |nil=>intro d hd _;simpa using hd
  |cons p r ih=>
   intro d hd hp
   have:=hp p List.mem_cons_self
   exact ih _ (by show max d (p.depth+1)≤33;omega) fun q hq=>hp q (List.mem_cons_of_mem _ hq)
 exact this top 1 (by omega) h
structure WalkSt (L:List Nd) (Inv:List Visit→List Blk→Prop) (i:Nat) (st:List Pt) (vs:List Visit) (Hv:List Blk):Prop where
 le:i≤L.length
 len:vs.length=i
 inv:Inv vs Hv
 rest:walkT L L 0 [] []=walkT L (L.drop i) i st vs
 ok: ∀ p∈st,p.root<i∧p.depth≤32
 small:st.length≤i
set_option maxHeartbeats 2000000 in
theorem walkAt_in (L:List Nd) (hne:0<L.length) (hlen:L.length≤256) (tv:Value) (w0:World) (ht:Reads w0 tv L.length (L.flatMap encN)) (f:FuncId) [hf:Callable Tryz.prog f] (caps:List Value) (Inv:List Visit→List Blk→Prop) (hV:Visits L.length w0 f caps Inv)
  (H:List Blk) (hI:Inv [] H):FnIn Tryz.prog 312 [tv,.func (.func f) #[] caps.toArray] w0 H fun v H' =>v= .int .i64 (walkT L L 0 [] []).1∧Inv (walkT L L 0 [] []).2 H' :=by
 have ht' :=ht
 obtain ⟨At,ct,rfl,ht1,ht2,ht3⟩:=ht
 obtain ⟨gt,ot,rfl,hrt⟩:=ht3 hne
 refine fn_in Tryz.func312 rfl Tryz.ntmps312 rfl ?_
 repeat' (first|refine sT ?_|refine sM fun _=> ?_|(refine sC ?_ ?_<;>intro hb<;>try omega)|fail)
 refine w_nilrow 480 3 ?_
 refine w_loopR (fun (i:Nat) s H=> ∃ st vs A cap Hv,s= [(0,.slice (some ⟨gt,ot,none⟩) L.length ct),(1,.func (.func f) #[] caps.toArray),(5,sl A st.length cap),(14,.slice (some ⟨gt,ot,none⟩) L.length ct),(15,.int .i64 (L.length:Int)),(16,.int .i64 (i:Int))]∧
   H= .own A 480 3 st.length cap (st.flatMap encP)::Hv∧WalkSt L Inv i st vs Hv) (fun i=>L.length - i) 0 ?_ ?_
 ·
  refine ⟨_,_,?_,?_,⟨[],[],none,0,H,rfl,rfl,⟨Nat.zero_le _,rfl,hI,rfl,by simp,Nat.le_refl _⟩⟩⟩
  ·
   exact sB
  ·
   exact mS
 ·
  rintro i _ _ ⟨st,vs,A,cap,Hv,rfl,rfl,hst⟩
  obtain ⟨hle,hvl,hinv,hrest,hok,hsmall⟩:=hst
  by_cases hlt:i<L.length
  ·
   have hrn:=hrt.elem encN_len i hlt
   rw [List.drop_eq_getElem_cons hlt,walkT,stepT] at hrest
   generalize hn:L[i]=n at hrest hrn
   by_cases hfe:fieldsE n=0
   ·
    obtain ⟨hb0,hb16⟩:=fields_ok hfe
    obtain ⟨k,hk⟩:=Int.eq_ofNat_of_zero_le hb0
    rw [if_neg (by simp [hfe]),hk,Int.toNat_natCast] at hrest
    have hbel: ∀ w,Pure Tryz.prog 375 [.agg (encN n).toArray] w (.int .i64 (k:Int)):=fun w=>hk ▸ below_at n w
    have hfie: ∀ w,Pure Tryz.prog 374 [.agg (encN n).toArray] w (.int .i64 0):=fun w=>hfe ▸ fields_at n w
    refine w_row .hd fun hr1 hr2 hr3=> ?_
    repeat' (first|((with_reducible apply wl_v);exact rfl;(with_reducible apply v_indexAddr);exact rfl;exact rfl;exact hlt)|((with_reducible apply wl_v);exact rfl;(with_reducible apply v_loadw_ro);exact rfl;exact hrn;exact rfl)|((with_reducible apply wl_v);exact rfl;(with_reducible apply v_addN);exact rfl;exact rfl;(simp only [maxLen];omega))|((with_reducible apply wl_callp);exact rfl;exact rfl;(intro w hm;exact hfie w))|((with_reducible apply wl_callp);exact rfl;exact rfl;(intro w hm;exact hbel w))|((with_reducible apply w_draw (id:=9));kernel_rfl;kernel_rfl)|((with_reducible apply wq_v);exact rfl;(with_reducible apply v_subN);exact rfl;exact rfl;omega;omega)|((with_reducible apply wl_v);exact rfl;(with_reducible apply v_subN);exact rfl;exact rfl;omega;omega)|((with_reducible apply wq_v);exact rfl;(with_reducible apply v_slice (hi:=st.length));exact rfl;exact ⟨_,rfl⟩;exact rfl;omega;omega)|((with_reducible apply wq_callp);exact rfl;exact rfl;(intro w hm;exact fits_at L n (topOf st k) _ _ w (ht'.of_w0 hm) (top_reads hm pK (by omega)) (fun p hp=>Nat.lt_trans (hok p (topOf_mem hp)).1 hlt) (by rw [topOf_length st k (by omega)];omega)))|refine sT ?_|refine sQ ?_|refine sM fun _=> ?_|(refine sC ?_ ?_<;>intro hb<;>try omega)|(refine sCQ ?_ ?_<;>intro hb<;>try omega)|fail)
    ·
     refine ret1 (.inl rfl) Tryz.results312 rfl (.drop .hd (.drop .hd (.refl _))) ?_
     rw [hrest,if_pos (Or.inl (by omega))]
     exact ⟨rfl,hinv⟩
    ·
     refine ret1 (.inl rfl) Tryz.results312 rfl (.drop .hd (.drop .hd (.refl _))) ?_
     rw [hrest,if_pos (Or.inr hb)]
     exact ⟨rfl,hinv⟩
    have hkl:k≤st.length:=by omega
    rw [if_neg (by intro h;rcases h with h|h;(· omega);(· rw [hb] at h;cases h))] at hrest
    repeat' (first|((with_reducible apply wl_v);exact rfl;(with_reducible apply v_subN);exact rfl;exact rfl;omega;omega)|((with_reducible apply wl_slice (hi:=st.length));exact rfl;exact rfl;exact ⟨_,rfl⟩;exact rfl;omega;omega;(intro B hB))|refine sT ?_|refine sM fun _=> ?_|(refine sC ?_ ?_<;>intro hb<;>try omega)|fail)
    rename_i gn gp
    refine w_nilrow 3 1 ?_
    have htl:=topOf_length st k hkl
    refine w_loopR (fun (j:Nat) s H=> ∃ A2 cap2,s= [(0,.slice (some ⟨gt,ot,none⟩) L.length ct),(1,.func (.func f) #[] caps.toArray),(5,sl A st.length cap),(6,.int .i64 (i:Int)),(9,.int .i64 (k:Int)),(10,.pointer (some ⟨gp,0,none⟩)),(11,sl A2 j cap2),
      (14,.slice (some ⟨gt,ot,none⟩) L.length ct),(15,.int .i64 (L.length:Int)),(16,.int .i64 (i:Int)),(54,.slice B (st.length - (st.length - k)) (cap - (st.length - k))),(55,.int .i64 ((st.length - (st.length - k):Nat):Int)),(56,.int .i64 (j:Int))]∧
      H= .own A2 3 1 j cap2 (((topOf st k).take j).map fun p=> .int .i64 (p.root:Int)):: .box gp 480 [.int .i64 (i:Int),.int .i64 (depthOf ((topOf st k).take j):Int),.bool (decide (n.kind=3))]:: .own A 480 3 st.length cap (st.flatMap encP)::Hv∧j≤k) (fun j=>k - j) 0 ?_ ?_
    ·
     refine ⟨_,_,?_,?_,⟨none,0,rfl,rfl,by omega⟩⟩
     ·
      exact sB
     ·
      exact mS
    ·
     rintro j _ _ ⟨A2,cap2,rfl,rfl,hjk⟩
     by_cases hj:j<k
     ·
      refine w_some (.tl (.tl .hd)) (by omega) fun gs hA=> ?_
      subst hA
      obtain rfl:B=some ⟨gs,0+(st.length - k)*3,none⟩:=by rw [hB,if_neg (by omega)];simp [addr_add]
      have hjt:j<(topOf st k).length:=by omega
      have he:((st.flatMap encP).drop (0+(st.length - k)*3+j*3)).take 3=encP (topOf st k)[j]:=by
       rw [show 0+(st.length - k)*3+j*3=(st.length - k+j)*3 by rw [Nat.add_mul];omega,flat_elem encP_len st _ (by omega)]
       simp [topOf]
      have hd32:(topOf st k)[j].depth≤32:=(hok _ (topOf_mem (List.getElem_mem hjt))).2
      repeat' (first|((with_reducible apply wl_v);exact rfl;(with_reducible apply v_indexAddr);exact rfl;exact rfl;omega)|((with_reducible apply wl_v);exact rfl;(with_reducible apply v_loade_own);exact rfl;exact pK;exact he;exact rfl)|((with_reducible apply wl_v);exact rfl;(with_reducible apply v_succN);exact rfl;exact rfl;(simp only [maxLen];omega))|((with_reducible apply wl_v);exact rfl;(with_reducible apply v_maxN);exact rfl;exact rfl)|((with_reducible apply wl_append);(iterate 3 exact rfl);(repeat first|exact .hd|apply Sel.tl|apply In.tl);(intro w hm;exact hm.cells_own (by (repeat first|exact .hd|apply Sel.tl|apply In.tl)));exact rfl;(simp [Value.oneCell',sl]);omega;(simp only [maxLen];omega);(intro A' cap' hA'))|refine sT ?_|refine sM fun _=> ?_|(refine sC ?_ ?_<;>intro hb<;>try omega)|fail)
      have hk1:((topOf st k).take (j+1)).map (fun p=>Value.int .i64 (p.root:Int))=((topOf st k).take j).map (fun p=>Value.int .i64 (p.root:Int))++ [.int .i64 ((topOf st k)[j].root:Int)]:=by
       rw [List.take_succ_eq_append_getElem hjt,List.map_append];rfl
      refine ⟨j+1,_,_,?_,?_,?_,⟨A',cap',rfl,rfl,hj⟩⟩
      ·
       omega
      ·
       exact sB
      ·
       rw [hk1,depthOf_succ _ _ hjt]
       exact mS
     ·
      have e:j=k:=by omega
      subst e
      have htk:(topOf st j).take j=topOf st j:=List.take_of_length_le (by omega)
      rw [htk]
      have hd33:=depthOf_bound (topOf st j) fun p hp=>(hok p (topOf_mem hp)).2
      repeat' (first|refine sT ?_|refine sM fun _=> ?_|(refine sC ?_ ?_<;>intro hb<;>try omega)|fail)
      ·
       refine ret1 (.inl rfl) Tryz.results312 rfl (.drop .hd (.drop .hd (.drop .hd (.refl _)))) ?_
       rw [hrest,if_pos (by omega)]
       exact ⟨rfl,hinv⟩
      rw [if_neg (by omega)] at hrest
      refine w_shrink (.tl (.tl .hd)) (st.length - j) (by omega) ?_
      refine w_drawA 10 rfl (by kernel_rfl) ?_
      ((with_reducible apply wa_pure (i:=0));exact rfl;exact rfl;decide+kernel;decide+kernel;decide+kernel;exact nP;(intro _ _;exact vP))
      ((with_reducible apply wa_pure (i:=1));exact rfl;exact rfl;decide+kernel;decide+kernel;decide+kernel;exact nP;(intro _ _;exact vP))
      ((with_reducible apply wa_pure (i:=2));exact rfl;exact rfl;decide+kernel;decide+kernel;decide+kernel;exact nP;(intro _ _;exact vP))
      ((with_reducible apply wa_pure (i:=3));exact rfl;exact rfl;decide+kernel;decide+kernel;decide+kernel;exact nP;(intro _ _;exact vP))
      ((with_reducible apply wa_pure (i:=4));exact rfl;exact rfl;decide+kernel;decide+kernel;decide+kernel;exact nP;(intro _ _;exact vP))
      ((with_reducible apply wa_pure (i:=5));exact rfl;exact rfl;decide+kernel;decide+kernel;decide+kernel;exact nP;(intro _ _;exact vP))
      repeat' (first|((with_reducible apply wa_one (i:=6));exact rfl;decide+kernel)|((with_reducible apply wa_one (i:=7));exact rfl;decide+kernel)|((with_reducible apply wa_one (i:=8));exact rfl;decide+kernel)|((with_reducible apply wa_one (i:=9));exact rfl;decide+kernel)|((with_reducible apply wa_done);decide+kernel)|((with_reducible apply wl_append);(iterate 3 exact rfl);(repeat first|exact .hd|apply Sel.tl|apply In.tl);(intro w hm;exact hm.cells_own (by (repeat first|exact .hd|apply Sel.tl|apply In.tl)));exact rfl;(simp [Value.oneCell',sl]);omega;(simp only [maxLen];omega);(intro A' cap' hA'))|refine sT ?_|refine sM fun _=> ?_|(refine sC ?_ ?_<;>intro hb<;>try omega)|fail)
      have hcont:(st.flatMap encP).take ((st.length - j)*3)++ [.int .i64 (i:Int),.int .i64 (depthOf (topOf st j):Int),.bool (decide (n.kind=3))]=(st.take (st.length - j)++ [(⟨i,depthOf (topOf st j),decide (n.kind=3)⟩:Pt)]).flatMap encP:=by
       rw [flat_take encP_len,List.flatMap_append];rfl
      have hvis:=hV vs ((topOf st j).map Pt.root) (depthOf (topOf st j)) A2 cap2 Hv [.own A' 480 3 (st.length - j+1) cap' ((st.take (st.length - j)++ [(⟨i,depthOf (topOf st j),decide (n.kind=3)⟩:Pt)]).flatMap encP)] hinv (by rw [List.length_map];omega) (by omega) (by intro q hq;obtain ⟨p,hp,rfl⟩:=List.mem_map.1 hq;rw [hvl];exact (hok p (topOf_mem hp)).1)
      simp only [List.length_map,htl,hvl,List.map_map] at hvis
      rw [hcont]
      (with_reducible apply wl_callv)
      ·
       exact rfl
      ·
       exact rfl
      ·
       infer_instance
      ·
       exact rfl
      ·
       refine hvis.msub ?_
       refine MSub.pick (T:=_) pK (MSub.snoc pK ?_)
       exact mS
      rintro v H' ⟨H1,hI1,hM1⟩
      repeat' (first|((with_reducible apply wl_v);exact rfl;(with_reducible apply v_succN);exact rfl;exact rfl;(simp only [maxLen];omega))|refine sT ?_|refine sM fun _=> ?_|(refine sC ?_ ?_<;>intro hb<;>try omega)|fail)
      refine ⟨i+1,_,_,?_,?_,?_,⟨st.take (st.length - j)++ [(⟨i,depthOf (topOf st j),decide (n.kind=3)⟩:Pt)],vs++ [((topOf st j).map Pt.root,depthOf (topOf st j))],A',cap',H1,rfl,rfl,⟨?_,?_,?_,?_,?_,?_⟩⟩⟩
      ·
       omega
      ·
       have e1:(st.take (st.length - j)++ [(⟨i,depthOf (topOf st j),decide (n.kind=3)⟩:Pt)]).length=st.length - j+1:=by simp
       rw [e1]
       exact sB
      ·
       have e1:(st.take (st.length - j)++ [(⟨i,depthOf (topOf st j),decide (n.kind=3)⟩:Pt)]).length=st.length - j+1:=by simp
       rw [e1]
       exact hM1.rot
      ·
       omega
      ·
       simp [hvl]
      ·
       exact hI1
      ·
       exact hrest
      ·
       intro p hp
       rcases List.mem_append.1 hp with hp|hp
       ·
        exact ⟨Nat.lt_succ_of_lt (hok p (List.mem_of_mem_take hp)).1,(hok p (List.mem_of_mem_take hp)).2⟩
       ·
        have e:p=⟨i,depthOf (topOf st j),decide (n.kind=3)⟩:=by simpa using hp
        subst e
        exact ⟨Nat.lt_succ_self i,by show depthOf (topOf st j)≤32;omega⟩
      ·
       simp;omega
   ·
    have hfie: ∀ w,Pure Tryz.prog 374 [.agg (encN n).toArray] w (.int .i64 (fieldsE n)):=fun w=>fields_at n w
    rw [if_pos hfe] at hrest
    repeat' (first|((with_reducible apply wl_v);exact rfl;(with_reducible apply v_indexAddr);exact rfl;exact rfl;exact hlt)|((with_reducible apply wl_v);exact rfl;(with_reducible apply v_loadw_ro);exact rfl;exact hrn;exact rfl)|((with_reducible apply wl_callp);exact rfl;exact rfl;(intro w hm;exact hfie w))|refine sT ?_|refine sM fun _=> ?_|(refine sC ?_ ?_<;>intro hb<;>try omega)|fail)
    refine ret1 (.inl rfl) Tryz.results312 rfl (.drop .hd (.drop .hd (.refl _))) ?_
    rw [hrest]
    exact ⟨rfl,hinv⟩
  ·
   have e:i=L.length:=by omega
   subst e
   rw [List.drop_length,walkT] at hrest
   repeat' (first|refine sT ?_|refine sM fun _=> ?_|(refine sC ?_ ?_<;>intro hb<;>try omega)|fail)
   ·
    refine ret1 (.inl rfl) Tryz.results312 rfl (.drop .hd (.refl _)) ?_
    rw [hrest,if_neg (by omega)]
    exact ⟨rfl,hinv⟩
   ·
    refine ret1 (.inl rfl) Tryz.results312 rfl (.drop .hd (.refl _)) ?_
    rw [hrest,if_pos (by omega)]
    exact ⟨rfl,hinv⟩
def checkT (L:List Nd) (wide:Bool):Int × List Visit:=
 if 256<L.length then (5,[]) else if L.length=0 then (4,[])
 else if (walkT L L 0 [] []).1≠0 then walkT L L 0 [] []
 else if wide=false∧kindAt L (L.length - 1)=3 then (4,(walkT L L 0 [] []).2) else (0,(walkT L L 0 [] []).2)
set_option maxHeartbeats 2000000 in
theorem check_in (L:List Nd) (wide:Bool) (tv:Value) (w0:World) (ht:Reads w0 tv L.length (L.flatMap encN)) (f:FuncId) [hf:Callable Tryz.prog f] (caps:List Value) (Inv:List Visit→List Blk→Prop) (hV:Visits L.length w0 f caps Inv)
  (H:List Blk) (hI:Inv [] H):FnIn Tryz.prog 258 [tv,.bool wide,.func (.func f) #[] caps.toArray] w0 H fun v H' =>v= .int .i64 (checkT L wide).1∧Inv (checkT L wide).2 H' :=by
 have ht' :=ht
 obtain ⟨At,ct,rfl,ht1,ht2,ht3⟩:=ht
 refine fn_in Tryz.func258 rfl Tryz.ntmps258 rfl ?_
 by_cases h256:256<L.length
 ·
  repeat' (first|refine sT ?_|refine sM fun _=> ?_|(refine sC ?_ ?_<;>intro hb<;>try omega)|fail)
  refine ret1 (.inl rfl) Tryz.results258 rfl (.refl _) ?_
  rw [checkT,if_pos h256]
  exact ⟨rfl,hI⟩
 by_cases h0:L.length=0
 ·
  repeat' (first|refine sT ?_|refine sM fun _=> ?_|(refine sC ?_ ?_<;>intro hb<;>try omega)|fail)
  refine ret1 (.inl rfl) Tryz.results258 rfl (.refl _) ?_
  rw [checkT,if_neg h256,if_pos h0]
  exact ⟨rfl,hI⟩
 obtain ⟨gt,ot,rfl,hrt⟩:=ht3 (by omega)
 have hw:=walkAt_in L (by omega) (by omega) _ w0 ht' f caps Inv hV H hI
 have hrl:=hrt.elem encN_len (L.length - 1) (by omega)
 have hk:kindAt L (L.length - 1)=(L[L.length - 1]'(by omega)).kind:=kindAt_get _
 simp only [checkT,if_neg h256,if_neg h0,hk]
 generalize walkT L L 0 [] []=r at hw
 generalize (L[L.length - 1]'(by omega))=nl at hrl
 repeat' (first|((with_reducible apply wl_callin);exact rfl;exact rfl;exact hw;(rintro v H' ⟨rfl,hI'⟩))|((with_reducible apply wl_v);exact rfl;(with_reducible apply v_predN);exact rfl;exact rfl;omega;omega)|((with_reducible apply wl_v);exact rfl;(with_reducible apply v_indexAddr);exact rfl;exact rfl;omega)|((with_reducible apply wl_v);exact rfl;(with_reducible apply v_loadf_ro (off:=0));exact rfl;exact hrl;exact rfl)|refine sT ?_|refine sM fun _=> ?_|(refine sC ?_ ?_<;>intro hb<;>try omega)|fail)
 all_goals refine ret1 (.inl rfl) Tryz.results258 rfl (.refl _) ?_
 all_goals simp_all
theorem visits_nothing (N:Nat) (w0:World) (H0:List Blk):Visits N w0 259 [] fun _ H=>H=H0:=by
 rintro vs kids d A cap _ F rfl _ _ _
 refine fn_in Tryz.func259 rfl Tryz.ntmps259 rfl ?_
 repeat' (first|refine sT ?_|refine sM fun _=> ?_|(refine sC ?_ ?_<;>intro hb<;>try omega)|fail)
 refine ret0 (.inr rfl) Tryz.results259 (.drop .hd (.refl _)) ⟨_,rfl,.refl _⟩
def checkE (L:List Nd):Int:=(checkT L false).1
theorem Check_at (L:List Nd) (tv:Value) (w:World) (ht:Reads w tv L.length (L.flatMap encN)):Pure Tryz.prog 180 [tv] w (.int .i64 (checkE L)):=by
 have ht' :=ht
 obtain ⟨At,ct,rfl,ht1,ht2,ht3⟩:=ht
 refine fn_at Tryz.func180 rfl Tryz.ntmps180 rfl ?_
 have hw:=check_in L false _ w ht' 259 [] (fun _ H=>H= []) (visits_nothing _ w []) [] rfl
 repeat' (first|((with_reducible apply wl_callin);exact rfl;exact rfl;exact hw;(rintro v H' ⟨rfl,rfl⟩))|refine sT ?_|refine sM fun _=> ?_|(refine sC ?_ ?_<;>intro hb<;>try omega)|fail)
 (refine rT1 ?_)
 rfl
def intsV (ks:List Nat):List Value:=ks.map fun (k:Nat)=> .int .i64 (k:Int)
theorem eq_drop {α:Type} [DecidableEq α] {L M:List α} {i:Nat} (h1:i<L.length) (h2:i<M.length):decide (L.drop i=M.drop i)=(decide (L[i]=M[i]) && decide (L.drop (i+1)=M.drop (i+1))):=by
 rw [List.drop_eq_getElem_cons h1,List.drop_eq_getElem_cons h2]
 simp only [List.cons.injEq,Bool.decide_and]
def k1:Nd:=⟨1,⟨1,50000,emptyB⟩,zeroR,0,0,0⟩
def k2:Nd:=⟨2,zeroV,⟨1,1,1,1⟩,0,0,0⟩
def k3:Nd:=⟨3,zeroV,⟨1,1,2,2⟩,0,0,0⟩
def k6:Nd:=⟨6,zeroV,zeroR,1,0,0⟩
def j7:Nd:=⟨7,zeroV,zeroR,0,46,1⟩
theorem Reads.of_row {w0 w:World} {H:List Blk} {g t sz m c:Nat} {xs:List Value} (hm:Mem w0 w H) (hi:In (.own (some g) t sz m c xs) H):Reads w (.slice (some ⟨g,0,none⟩) m c) m xs:=Reads.of_own hm hi
end Go.SL
