/-
  Lemmas and walks, put together: B2 B3 A2p B4.
-/
import Derived.Test.YtljeomidcjpfmaaGreatDoorKf10
set_option linter.unusedSimpArgs false
set_option linter.unusedVariables false
set_option maxRecDepth 20000
namespace Go.SL
open Go Go.Proofs
attribute [local irreducible] W WL WQ WG WA WX WLI WR WT VOp thn blk cutP scp retP endB FnAt FnIn
def tokV:Option (Tk × Nat)→Value
 |some (t,n)=> .tuple #[.agg (encTk t).toArray,.int .i64 (n:Int)]
 |none=> .tuple #[.agg (encTk zeroTk).toArray,.int .i64 0]
def atT (i:Nat) (o:Option (Tk × Nat)):Option (Tk × Nat):=o.map fun x=>({ x.1 with at_:=(i:Int) },x.2)
def numberP (l:List Int):Option (Tk × Nat):=
 let w:=runL digC l
 let p:=placesL (l.drop w)
 let n:=if p=0 then w else w+1+p
 if w=0∨4<p then none
 else if (decL (l.take n)).2≠0 then none else some (⟨1,(decL (l.take n)).1,emptyB,zeroR,0⟩,n)
theorem placesL_yes {c:Int} {r:List Int} (h:c=46):placesL (c::r)=runL digC r:=by subst h;rfl
theorem placesL_no {c:Int} {r:List Int} (h:c≠46):placesL (c::r)=0:=by
 unfold placesL
 split
 ·
  rename_i heq;injection heq with h1 h2;exact absurd h1 h
 ·
  rfl
set_option maxHeartbeats 1000000 in
theorem number_at (a:ByteArray) (ha:a.size≤100000) (i:Nat) (hi:i≤a.size) (g:Nat) (w:World) (hr:Ro w g 0 [.string a]):
  Pure Tryz.prog 306 [.pointer (some ⟨g,0,none⟩),.int .i64 (i:Int)] w (tokV (atT i (numberP ((ints a).drop i)))):=by
 refine fn_at Tryz.func306 rfl Tryz.ntmps306 rfl ?_
 have hl:=ints_length a
 have hL1:=length_at a (by omega) i hi 359 digC lexDigit_at
 have hwl:=runL_le digC ((ints a).drop i)
 rw [List.length_drop] at hwl
 generalize hw:runL digC ((ints a).drop i)=n at hL1 hwl
 generalize hpd:placesL ((ints a).drop (i+n))=p
 have hN:numberP ((ints a).drop i)=if n=0∨4<p then none else if (decL (((ints a).drop i).take (if p=0 then n else n+1+p))).2≠0 then none else some (⟨1,(decL (((ints a).drop i).take (if p=0 then n else n+1+p))).1,emptyB,zeroR,0⟩,if p=0 then n else n+1+p):=by
  simp only [numberP,hw,List.drop_drop,hpd]
 rw [hN]
 have hL2:=fun h=>length_at a (by omega) (i+n+1) h 359 digC lexDigit_at
 have hcut: ∀ m,ints (sub a i (i+m))=((ints a).drop i).take m:=fun m=>by rw [ints_sub,show i+m - i=m by omega]
 have hple:p≤a.size - (i+n) - 1:=by
  rw [← hpd]
  by_cases h:i+n<a.size
  ·
   rw [bat_drop h]
   by_cases h46:bat a (i+n)=46
   ·
    rw [placesL_yes h46]
    have:=runL_le digC ((ints a).drop (i+n+1))
    rw [List.length_drop] at this
    omega
   ·
    rw [placesL_no h46];omega
  ·
   rw [List.drop_of_length_le (by omega)];simp [placesL]
 have hend: ∀ h:i+n+1<a.size,bat a (i+n)=46→(p=runL digC ((ints a).drop (i+n+1))):=fun h h46=>by
  rw [← hpd,bat_drop (by omega),placesL_yes h46]
 have hno: ¬ (i+n+1<a.size∧bat a (i+n)=46∧digC (bat a (i+n+1))=true)→p=0:=fun h=>by
  by_cases h1:i+n<a.size
  ·
   by_cases h46:bat a (i+n)=46
   ·
    by_cases h2:i+n+1<a.size
    ·
     rw [hend h2 h46,bat_drop h2,runL,if_neg fun h3=>h ⟨h2,h46,h3⟩]
    ·
     rw [← hpd,bat_drop h1,placesL_yes h46,List.drop_of_length_le (by omega)];rfl
   ·
    rw [← hpd,bat_drop h1,placesL_no h46]
  ·
   rw [← hpd,List.drop_of_length_le (by omega)];rfl
 have hyes:i+n+1<a.size→bat a (i+n)=46→digC (bat a (i+n+1))=true→0<p:=fun h h46 h3=>by
  rw [hend h h46,bat_drop h,runL,if_pos h3];omega
 repeat' (first|((with_reducible apply wl_v);exact rfl;(with_reducible apply v_load_ro (o:=0) (off:=0));exact hr;exact rfl;exact rfl)|((with_reducible apply wl_callp);exact rfl;exact rfl;(intro w hm;exact hL1 w))|((with_reducible apply wl_callp);exact rfl;exact rfl;(intro w hm;exact lexDigit_at _ w))|(refine w_cutRH (id:=7) [0,1,4] rfl (ι:=Nat × Nat) (fun x=> [(7,.int .i64 (x.1:Int)),(5,.int .i64 (x.2:Int))]) (fun x=>x.1=p∧x.2=if p=0 then n else n+1+p) ?_ ?_)|((with_reducible apply wl_callp);exact rfl;exact rfl;(intro w hm;exact hL2 (by omega) w))|refine sT ?_|refine sT2 ?_|refine sN ?_|refine sM fun _=> ?_|(refine sC ?_ ?_<;>intro hb<;>try omega)|exact cT|fail)
 ·
  (refine eRCT ?_)
  rw [if_pos (.inl (by omega))];rfl
 ·
  rename_i h1 h2 h3
  refine cut_n ((runL digC ((ints a).drop (i+n+1)),n+(1+runL digC ((ints a).drop (i+n+1))))) ?_ sB mS
  have h5:=hyes (by omega) h3 hb
  have h6:=hend (by omega) h3
  rw [← h6]
  exact ⟨rfl,by rw [if_neg (by omega)];omega⟩
 ·
  rename_i h1 h2 h3
  refine cut_n ((0,n)) ?_ sB mS
  have:=hno fun h=>by rw [hb] at h;cases h.2.2
  exact ⟨this.symm,by rw [if_pos this]⟩
 ·
  refine cut_n ((0,n)) ?_ sB mS
  have:=hno fun h=>hb h.2.1
  exact ⟨this.symm,by rw [if_pos this]⟩
 ·
  refine cut_n ((0,n)) ?_ sB mS
  have:=hno fun h=>by omega
  exact ⟨this.symm,by rw [if_pos this]⟩
 rintro ⟨p',m⟩ ⟨rfl,hm⟩
 have hn0:n≠0:=by omega
 dsimp only at hm ⊢
 rw [← hm]
 by_cases h4:4<p'
 ·
  rw [if_pos (.inr h4)]
  repeat' (first|refine sT ?_|refine sT2 ?_|refine sM fun _=> ?_|(refine sC ?_ ?_<;>intro hb<;>try omega)|exact cT|fail)
  all_goals first|(exfalso;omega)|((refine eRCT ?_);rfl)
 ·
  rw [if_neg (by omega)]
  have him:i+m≤a.size:=by rw [hm];split<;>omega
  have hP:=decParse_at (sub a i (i+m)) (by rw [sub_size _ him];omega)
  rw [hcut m] at hP
  generalize decL (((ints a).drop i).take m)=q at hP
  repeat' (first|((with_reducible apply wl_v);exact rfl;(with_reducible apply v_load_ro (o:=0) (off:=0));exact hr;exact rfl;exact rfl)|((with_reducible apply wl_callp);exact rfl;exact rfl;(intro w hm;exact hP w))|refine sT ?_|refine sT2 ?_|refine sN ?_|refine sM fun _=> ?_|(refine sC ?_ ?_<;>intro hb<;>try omega)|exact cT|fail)
  ·
   (refine eRCT ?_)
   rw [if_pos hb];rfl
  ·
   (refine eRCT ?_)
   rw [if_neg hb];rfl
theorem headD_at (a:ByteArray) (j:Nat):((ints a).drop j).headD 0=bat a j:=by
 rw [bat,List.headD_eq_head?_getD,List.head?_drop,List.getD_eq_getElem?_getD]
theorem next_at (a:ByteArray) (ha:a.size≤100000) (j:Nat) (g:Nat) (w:World) (hr:Ro w g 0 [.string a]):
  Pure Tryz.prog 363 [.pointer (some ⟨g,0,none⟩),.int .i64 (j:Int)] w (.int .u8 (bat a j)):=by
 refine fn_at Tryz.func363 rfl Tryz.ntmps363 rfl ?_
 have hl:=ints_length a
 repeat' (first|((with_reducible apply wl_v);exact rfl;(with_reducible apply v_load_ro (o:=0) (off:=0));exact hr;exact rfl;exact rfl)|refine sT ?_|refine sT2 ?_|refine sN ?_|refine sM fun _=> ?_|(refine sC ?_ ?_<;>intro hb<;>try omega)|exact cT|fail)
 ·
  (refine rT1 ?_)
  rfl
 ·
  (refine rT1 ?_)
  have e:bat a j=0:=by rw [bat,List.getD_eq_getElem?_getD,List.getElem?_eq_none (by omega)];rfl
  rw [e]
def upW (l:List Int):List Int:=(l.take (runL wrdC l)).map upC
theorem upW_length (l:List Int):(upW l).length=runL wrdC l:=by
 have:=runL_le wrdC l
 simp [upW];omega
theorem upW_ok {l:List Int} (h:bytesOk l):bytesOk (upW l):=by
 intro c hc
 obtain ⟨d,hd,rfl⟩:=List.mem_map.1 hc
 have:=h d (List.mem_of_mem_take hd)
 unfold upC
 split<;>omega
theorem plain_at (a:ByteArray) (ha:a.size≤100000) (i:Nat) (hi:i≤a.size) (g:Nat) (w:World) (hr:Ro w g 0 [.string a]):
  Pure Tryz.prog 362 [.pointer (some ⟨g,0,none⟩),.int .i64 (i:Int)] w (.string (mkB (upW ((ints a).drop i)))):=by
 refine fn_at Tryz.func362 rfl Tryz.ntmps362 rfl ?_
 have hl:=ints_length a
 have hL:=length_at a (by omega) i hi 393 wrdC lexWrd_at
 have hwl:=runL_le wrdC ((ints a).drop i)
 rw [List.length_drop] at hwl
 unfold upW
 generalize runL wrdC ((ints a).drop i)=n at hL hwl
 have hU:=Upper_at (sub a i (i+n)) (by rw [sub_size _ (by omega)];omega)
 have e:upB (sub a i (i+n))=mkB ((((ints a).drop i).take n).map upC):=by rw [upB,ints_sub,show i+n - i=n by omega]
 rw [e] at hU
 repeat' (first|((with_reducible apply wl_v);exact rfl;(with_reducible apply v_load_ro (o:=0) (off:=0));exact hr;exact rfl;exact rfl)|((with_reducible apply wl_callp);exact rfl;exact rfl;(intro w hm;exact hL w))|((with_reducible apply wl_callp);exact rfl;exact rfl;(intro w hm;exact hU w))|refine sT ?_|refine sT2 ?_|refine sN ?_|refine sM fun _=> ?_|(refine sC ?_ ?_<;>intro hb<;>try omega)|exact cT|fail)
 (refine rT1 ?_)
 rfl
def closeQ:List Int→Option Nat
 | []=>none
 |c::r=>if c≠34 then (closeQ r).map (· +1) else match r with
  | []=>some 0
  |d::r' =>if d=34 then (closeQ r').map (· +2) else some 0
theorem closeQ_cons {c:Int} {r:List Int} (h:c≠34):closeQ (c::r)=(closeQ r).map (· +1):=by rw [closeQ.eq_def];simp [h]
def textP (l:List Int):Option (Tk × Nat):=
 if l.headD 0≠34 then none
 else match closeQ (l.drop 1) with
  |none=>none
  |some k=>if (unquoteL (l.take (k+2))).2≠0 then none else some (⟨2,0,mkB (unquoteL (l.take (k+2))).1,zeroR,0⟩,k+2)
set_option maxHeartbeats 1000000 in
theorem text_at (a:ByteArray) (ha:a.size≤100000) (i:Nat) (hi:i<a.size) (g:Nat) (w:World) (hr:Ro w g 0 [.string a]):
  Pure Tryz.prog 307 [.pointer (some ⟨g,0,none⟩),.int .i64 (i:Int)] w (tokV (atT i (textP ((ints a).drop i)))):=by
 refine fn_at Tryz.func307 rfl Tryz.ntmps307 rfl ?_
 have hl:=ints_length a
 unfold textP
 rw [headD_at,List.drop_drop]
 by_cases h34:bat a i=34
 ·
  rw [if_neg (by omega)]
  have hcut: ∀ m,ints (sub a i (i+m))=((ints a).drop i).take m:=fun m=>by rw [ints_sub,show i+m - i=m by omega]
  repeat' (first|((with_reducible apply wl_v);exact rfl;(with_reducible apply v_load_ro (o:=0) (off:=0));exact hr;exact rfl;exact rfl)|refine sT ?_|refine sT2 ?_|refine sN ?_|refine sM fun _=> ?_|(refine sC ?_ ?_<;>intro hb<;>try omega)|exact cT|fail)
  all_goals first|(exfalso;omega)|skip
  rename_i g4
  generalize hC:closeQ ((ints a).drop (i+1))=C
  refine w_loopK [0,1,4,5] rfl (fun j:Nat=> [(6,.int .i64 (j:Int))]) (fun _=> [.box g4 362 (encTk zeroTk)]) (fun j=>i+1≤j∧j≤a.size∧C=(closeQ ((ints a).drop j)).map (· +(j - (i+1)))) (fun j=>a.size - j) (i+1) ⟨by omega,by omega,by rw [hC];simp⟩ sB mS ?_
  rintro j ⟨hj1,hj2,hj3⟩
  by_cases hlt:j<a.size
  ·
   rw [bat_drop hlt] at hj3
   by_cases hq:bat a j=34
   ·
    by_cases hn:j+1<a.size∧bat a (j+1)=34
    ·
     rw [bat_drop hn.1,hq,hn.2] at hj3
     simp only [closeQ,ne_eq,not_true_eq_false,if_false,if_true,Option.map_map] at hj3
     have hn1:=hn.1
     repeat' (first|((with_reducible apply wl_v);exact rfl;(with_reducible apply v_load_ro (o:=0) (off:=0));exact hr;exact rfl;exact rfl)|refine sT ?_|refine sT2 ?_|refine sN ?_|refine sM fun _=> ?_|(refine sC ?_ ?_<;>intro hb<;>try omega)|exact cT|fail)
     all_goals first|(exfalso;omega)|skip
     refine ⟨j+2,?_,(by first|omega|(dsimp only;omega)),sB,sB,mS⟩
     refine ⟨by omega,by omega,?_⟩
     rw [hj3,show j+1+1=j+2 by omega]
     congr 1
     funext k
     simp only [Function.comp]
     omega
    ·
     have hC0:C=some (j - (i+1)):=by
      rw [hj3,hq]
      by_cases h1:j+1<a.size
      ·
       rw [bat_drop h1]
       have h2:bat a (j+1)≠34:=fun h=>hn ⟨h1,h⟩
       simp [closeQ,h2]
      ·
       rw [List.drop_of_length_le (i:=j+1) (by omega)]
       simp [closeQ]
     rw [hC0]
     dsimp only
     have hm:j - (i+1)+2=j+1 - i:=by omega
     rw [hm]
     have hc:=hcut (j+1 - i)
     rw [show i+(j+1 - i)=j+1 by omega] at hc
     have hP:=Unquote_at (sub a i (j+1)) (by rw [sub_size _ (by omega)];omega)
     rw [hc] at hP
     generalize unquoteL (((ints a).drop i).take (j+1 - i))=q at hP
     repeat' (first|((with_reducible apply wl_v);exact rfl;(with_reducible apply v_load_ro (o:=0) (off:=0));exact hr;exact rfl;exact rfl)|((with_reducible apply wl_callp);exact rfl;exact rfl;(intro w hm;exact hP w))|refine sT ?_|refine sT2 ?_|refine sN ?_|refine sM fun _=> ?_|(refine sC ?_ ?_<;>intro hb<;>try omega)|exact cT|fail)
     all_goals first|(exfalso;omega)|((refine eRCT ?_);first|(rw [if_pos hb];rfl)|(rw [if_neg hb];rfl))
   ·
    rw [closeQ_cons hq,Option.map_map] at hj3
    repeat' (first|((with_reducible apply wl_v);exact rfl;(with_reducible apply v_load_ro (o:=0) (off:=0));exact hr;exact rfl;exact rfl)|refine sT ?_|refine sT2 ?_|refine sN ?_|refine sM fun _=> ?_|(refine sC ?_ ?_<;>intro hb<;>try omega)|exact cT|fail)
    all_goals first|(exfalso;omega)|skip
    refine ⟨j+1,?_,(by first|omega|(dsimp only;omega)),sB,sB,mS⟩
    refine ⟨by omega,by omega,?_⟩
    rw [hj3]
    congr 1
    funext k
    simp only [Function.comp]
    omega
  ·
   rw [List.drop_of_length_le (by omega)] at hj3
   rw [hj3]
   dsimp only [closeQ,Option.map]
   repeat' (first|((with_reducible apply wl_v);exact rfl;(with_reducible apply v_load_ro (o:=0) (off:=0));exact hr;exact rfl;exact rfl)|refine sT ?_|refine sT2 ?_|refine sN ?_|refine sM fun _=> ?_|(refine sC ?_ ?_<;>intro hb<;>try omega)|exact cT|fail)
   all_goals first|(exfalso;omega)|skip
   (refine eRCT ?_)
   rfl
 ·
  rw [if_pos (by omega)]
  repeat' (first|((with_reducible apply wl_v);exact rfl;(with_reducible apply v_load_ro (o:=0) (off:=0));exact hr;exact rfl;exact rfl)|refine sT ?_|refine sT2 ?_|refine sN ?_|refine sM fun _=> ?_|(refine sC ?_ ?_<;>intro hb<;>try omega)|exact cT|fail)
  all_goals first|(exfalso;omega)|skip
  (refine eRCT ?_)
  rfl
theorem mkB_inj {l m:List Int} (hl:bytesOk l) (hm:bytesOk m):mkB l=mkB m↔l=m:=⟨fun h=>by rw [← ints_mkB hl,← ints_mkB hm,h],fun h=>by rw [h]⟩
theorem hasPrefix2_at (a b:ByteArray) (w:World):Pure Tryz.prog 297 [.string a,.string b] w (.bool (decide ((ints a).take b.size=ints b))):=by
 refine fn_at Tryz.func297 rfl Tryz.ntmps297 rfl ?_
 have ha:=ints_length a
 have hb' :=ints_length b
 have e: ∀ h:b.size≤a.size,decide (sub a 0 b.size=b)=decide ((ints a).take b.size=ints b):=fun h=>by
  rw [decide_eq_decide,← ints_to]
  exact ⟨fun h=>by rw [h],fun h=>ints_inj h⟩
 repeat' (first|refine sT ?_|refine sT2 ?_|refine sM fun _=> ?_|(refine sC ?_ ?_<;>intro hb<;>try omega)|fail)
 ·
  rw [e (by omega)]
  (refine rT1 ?_)
  rfl
 ·
  (refine rT1 ?_)
  rw [decide_eq_false]
  intro h
  have:=congrArg List.length h
  rw [List.length_take] at this
  omega
theorem hasPrefix_at (a b:ByteArray) (w:World):Pure Tryz.prog 368 [.string a,.string b] w (.bool (decide ((ints a).take b.size=ints b))):=by
 refine fn_at Tryz.func368 rfl Tryz.ntmps368 rfl ?_
 repeat' (first|((with_reducible apply wl_callp);exact rfl;exact rfl;(intro w hm;exact hasPrefix2_at a b w))|refine sT ?_|refine sM fun _=> ?_|(refine sC ?_ ?_<;>intro hb<;>try omega)|fail)
 (refine rT1 ?_)
 rfl
theorem literal_at (c:Int) (w:World):Pure Tryz.prog 365 [.int .i64 c] w (.bool (decide (1≤c) && decide (c≤5))):=by
 refine fn_at Tryz.func365 rfl Tryz.ntmps365 rfl ?_
 repeat' (first|refine sT ?_|refine sM fun _=> ?_|(refine sC ?_ ?_<;>intro hb<;>try omega)|fail)
 all_goals ((refine rT1 ?_);simp_all<;>omega)
theorem errNames_get {k:Nat} (h1:1≤k) (h2:k≤5): ∃ s,errNames.drop (k - 1)=s::errNames.drop k∧wordsB.getD k emptyB=mkB s∧bytesOk s∧s.length≤10:=by
 rcases (by omega:k=1∨k=2∨k=3∨k=4∨k=5) with rfl|rfl|rfl|rfl|rfl<;>refine ⟨_,rfl,rfl,?_,by decide⟩<;>(intro c hc;simp at hc;omega)
theorem mkB_size (l:List Int):(mkB l).size=l.length:=by simp [mkB,ByteArray.size]
def failP (l:List Int):Option (Tk × Nat):=(failL l errNames 1).map fun x=>(⟨4,x.1,emptyB,zeroR,0⟩,x.2)
set_option maxHeartbeats 1000000 in
theorem fail_at (a:ByteArray) (ha:a.size≤100000) (i:Nat) (hi:i≤a.size) (g:Nat) (w:World) (hr:Ro w g 0 [.string a]) (hW:Words w):
  Pure Tryz.prog 309 [.pointer (some ⟨g,0,none⟩),.int .i64 (i:Int)] w (tokV (atT i (failP ((ints a).drop i)))):=by
 refine fn_at Tryz.func309 rfl Tryz.ntmps309 rfl ?_
 have hl:=ints_length a
 unfold failP
 generalize hF:failL ((ints a).drop i) errNames 1=F
 repeat' (first|refine sT ?_|refine sT2 ?_|refine sM fun _=> ?_|(refine sC ?_ ?_<;>intro hb<;>try omega)|fail)
 rename_i g4
 refine w_loopK [0,1,4,5] rfl (fun k:Nat=> [(6,.int .i64 (k:Int))]) (fun _=> [.box g4 362 (encTk zeroTk)]) (fun k=>1≤k∧k≤6∧F=failL ((ints a).drop i) (errNames.drop (k - 1)) k) (fun k=>6 - k) 1 ⟨by omega,by omega,hF.symm⟩ sB mS ?_
 rintro k ⟨hk1,hk2,hk3⟩
 by_cases hk:k≤5
 ·
  obtain ⟨s,e1,e2,e3,e4⟩:=errNames_get hk1 hk
  have e5:failV (k:Int)=⟨4,(k:Int),emptyB⟩:=by rw [failV,if_neg (by omega)]
  have hFa:=Fail_at (k:Int)
  rw [e5] at hFa
  have hSh:=fun w' h=>Show_at (k:Int) (by omega) (by omega) w' h
  rw [Int.toNat_natCast,e2] at hSh
  rw [e1,failL] at hk3
  have hlit:(decide (1≤(k:Int)) && decide ((k:Int)≤5))=true:=by simp;omega
  have hL:=literal_at (k:Int)
  rw [hlit] at hL
  have hms:=mkB_size s
  have hcut:ints (sub a i (i+s.length))=((ints a).drop i).take s.length:=by rw [ints_sub,show i+s.length - i=s.length by omega]
  have hU:=fun h=>Upper_at (sub a i (i+s.length)) h
  have hdec:upB (sub a i (i+s.length))=mkB s↔(((ints a).drop i).take s.length).map upC=s:=by
   rw [upB,hcut,mkB_inj _ e3]
   rw [← hcut,← ints_upB]
   exact ints_ok _
  rw [← hms] at hU hdec hk3
  repeat' (first|((with_reducible apply wl_v);exact rfl;(with_reducible apply v_load_ro (o:=0) (off:=0));exact hr;exact rfl;exact rfl)|((with_reducible apply wl_callp);exact rfl;exact rfl;(intro w hm;exact hL w))|((with_reducible apply wl_callp);exact rfl;exact rfl;(intro w hm;exact hFa w))|((with_reducible apply wl_callp);exact rfl;exact rfl;(intro w' hm;exact hSh w' (hW.next hm)))|((with_reducible apply wl_callp);exact rfl;exact rfl;(intro w hm;exact hU (by rw [sub_size _ (by omega)];omega) w))|refine sT ?_|refine sT2 ?_|refine sN ?_|refine sM fun _=> ?_|(refine sC ?_ ?_<;>intro hb<;>try omega)|fail)
  ·
   (refine eRCT ?_)
   rw [hk3,if_pos (hdec.1 hb)]
   rfl
  ·
   refine ⟨k+1,?_,(by first|omega|(dsimp only;omega)),sB,sB,mS⟩
   refine ⟨by omega,by omega,?_⟩
   rw [hk3,if_neg fun h=>hb (hdec.2 h)]
   rfl
  ·
   refine ⟨k+1,?_,(by first|omega|(dsimp only;omega)),sB,sB,mS⟩
   refine ⟨by omega,by omega,?_⟩
   rw [hk3,if_neg]
   ·
    rfl
   ·
    intro h
    have:=congrArg List.length h
    rw [List.length_map,List.length_take,List.length_drop] at this
    omega
 ·
  have e:k=6:=by omega
  subst e
  rw [show errNames.drop (6 - 1)= [] from rfl,failL] at hk3
  rw [hk3]
  have hL:=literal_at 6
  rw [show (decide (1≤(6:Int)) && decide ((6:Int)≤5))=false from rfl] at hL
  repeat' (first|((with_reducible apply wl_callp);exact rfl;exact rfl;(intro w hm;exact hL w))|refine sT ?_|refine sT2 ?_|refine sM fun _=> ?_|(refine sC ?_ ?_<;>intro hb<;>try omega)|fail)
  all_goals first|(exfalso;omega)|skip
  (refine eRCT ?_)
  rfl
def opStr:List Value:=opNames.map fun x=> .string (mkB x.1)
def opNum:List Value:=opNames.map fun x=> .int .i64 x.2
theorem operators_at (w:World):FnAt Tryz.prog 367 [] w fun v H=> ∃ g g',v= .tuple #[sl (some g) 13 13,sl (some g') 13 13]∧H= [.own (some g) 9 1 13 13 opStr,.own (some g') 2 1 13 13 opNum]:=by
 refine fn_at Tryz.func367 rfl Tryz.ntmps367 rfl ?_
 repeat' (first|refine sT ?_|refine sM fun _=> ?_|(refine sC ?_ ?_<;>intro hb<;>try omega)|fail)
 rename_i g g'
 refine ret2 (.inl rfl) rfl rfl rfl (H' := [.own (some g) 9 1 13 13 opStr,.own (some g') 2 1 13 13 opNum]) ?_ ⟨g,g',rfl,rfl⟩
 exact mS
theorem op_get {k:Nat} (h:k<13): ∃ s n,opNames.drop k=(s,n)::opNames.drop (k+1)∧opStr[k]? =some (.string (mkB s))∧opNum[k]? =some (.int .i64 n)∧bytesOk s∧s.length≤2:=by
 rcases (by omega:k=0∨k=1∨k=2∨k=3∨k=4∨k=5∨k=6∨k=7∨k=8∨k=9∨k=10∨k=11∨k=12) with rfl|rfl|rfl|rfl|rfl|rfl|rfl|rfl|rfl|rfl|rfl|rfl|rfl<;>refine ⟨_,_,rfl,rfl,rfl,?_,by decide⟩<;>(intro c hc;simp at hc;omega)
def signP (l:List Int):Option (Tk × Nat):=
 match opL l opNames with
 |some (k,n)=>some (⟨8,k,emptyB,zeroR,0⟩,n)
 |none=>if l.headD 0=40 then some (⟨9,0,emptyB,zeroR,0⟩,1) else if l.headD 0=41 then some (⟨10,0,emptyB,zeroR,0⟩,1) else if l.headD 0=44 then some (⟨11,0,emptyB,zeroR,0⟩,1) else none
set_option maxHeartbeats 1000000 in
theorem sign_at (a:ByteArray) (ha:a.size≤100000) (i:Nat) (hi:i<a.size) (g:Nat) (w:World) (hr:Ro w g 0 [.string a]):
  Pure Tryz.prog 310 [.pointer (some ⟨g,0,none⟩),.int .i64 (i:Int)] w (tokV (atT i (signP ((ints a).drop i)))):=by
 refine fn_at Tryz.func310 rfl Tryz.ntmps310 rfl ?_
 have hl:=ints_length a
 unfold signP
 rw [headD_at]
 generalize hF:opL ((ints a).drop i) opNames=F
 repeat' (first|((with_reducible apply wl_call);exact rfl;exact rfl;(intro w' hm;exact operators_at w');(rintro v H' ⟨gs,gn,rfl,rfl⟩))|refine sT ?_|refine sT2 ?_|refine sM fun _=> ?_|(refine sC ?_ ?_<;>intro hb<;>try omega)|fail)
 rename_i g4
 refine w_loopK [0,1,4,5,7,14,15] rfl (fun k:Nat=> [(16,.int .i64 (k:Int))]) (fun _=> [.box g4 362 (encTk zeroTk),.own (some gs) 9 1 13 13 opStr,.own (some gn) 2 1 13 13 opNum]) (fun k=>k≤13∧F=opL ((ints a).drop i) (opNames.drop k)) (fun k=>13 - k) 0 ⟨by omega,hF.symm⟩ sB mS ?_
 rintro k ⟨hk2,hk3⟩
 by_cases hk:k<13
 ·
  obtain ⟨s,m,e1,e2,e3,e4,e5⟩:=op_get hk
  rw [e1,opL] at hk3
  have hms:=mkB_size s
  have hP:=hasPrefix_at (sub a i a.size) (mkB s)
  rw [ints_from,ints_mkB e4,hms] at hP
  repeat' (first|((with_reducible apply wl_v);exact rfl;(with_reducible apply v_load_ro (o:=0) (off:=0));exact hr;exact rfl;exact rfl)|((with_reducible apply wl_callp);exact rfl;exact rfl;(intro w hm;exact hP w))|((with_reducible apply wl_v);exact rfl;(with_reducible apply v_indexAddr (j:=k));exact rfl;exact rfl;exact hk)|((with_reducible apply wl_v);exact rfl;(with_reducible apply v_load_own);exact rfl;exact pK;(rw [show 0+k*1=k by omega];first|exact e2|exact e3))|refine sT ?_|refine sT2 ?_|refine sN ?_|refine sM fun _=> ?_|(refine sC ?_ ?_<;>intro hb<;>try omega)|fail)
  ·
   (refine eRCT ?_)
   rw [hk3,if_pos hb,hms]
   rfl
  ·
   refine ⟨k+1,?_,(by first|omega|(dsimp only;omega)),sB,sB,mS⟩
   exact ⟨hk,by rw [hk3,if_neg hb]⟩
 ·
  have e:k=13:=by omega
  subst e
  rw [show opNames.drop 13= [] from rfl,opL] at hk3
  subst hk3
  repeat' (first|((with_reducible apply wl_v);exact rfl;(with_reducible apply v_load_ro (o:=0) (off:=0));exact hr;exact rfl;exact rfl)|refine sT ?_|refine sT2 ?_|refine sN ?_|refine sM fun _=> ?_|(refine sC ?_ ?_<;>intro hb<;>try omega)|fail)
  all_goals first|(exfalso;omega)|skip
  all_goals
   (refine eRCT ?_)
   simp_all
   try rfl
end Go.SL
namespace Go.SL
open Go
theorem pcStep_let {p:Pc} {c:Int} (h:letC c=true):pcStep p c=pcLet p (upC c):=by
 simp only [letC,Bool.or_eq_true,Bool.and_eq_true,decide_eq_true_eq] at h
 rw [pcStep,if_pos]
 unfold upC
 split<;>omega
theorem pcStep_digC {p:Pc} {c:Int} (h:digC c=true):pcStep p c=pcDig p c:=by
 simp only [digC,Bool.and_eq_true,decide_eq_true_eq] at h
 exact pcStep_dig h.1 h.2
theorem pcStep_other {p:Pc} {c:Int} (h:letC c=false) (h2:digC c=false):(pcStep p c).ok=false:=by
 simp only [letC,digC,Bool.or_eq_false_iff,Bool.and_eq_false_iff,decide_eq_false_iff_not] at h h2
 rw [pcStep_no (by omega) (by omega) (by omega)]
theorem pcStep_bad {p:Pc} (h:p.ok=false) (c:Int):(pcStep p c).ok=false:=by
 unfold pcStep
 split
 ·
  simp [pcLet,h]
 ·
  split
  ·
   simp [pcDig,h]
  ·
   rfl
theorem fold_bad: ∀ (l:List Int) {p:Pc},p.ok=false→(l.foldl pcStep p).ok=false
 | [],_,h=>h
 |c::r,_,h=>fold_bad r (pcStep_bad h c)
theorem fold_let: ∀ (l:List Int) (p:Pc),(∀ c∈l,letC c=true)→p.m1=0→l.foldl pcStep p=⟨p.m0+l.length,0,lettersL l p.v0,p.v1,p.ok⟩
 | [],p,_,h=>by obtain ⟨a,b,c,d,e⟩:=p;simp only at h;subst h;simp [lettersL]
 |c::r,p,hl,h=>by
  rw [List.foldl_cons,pcStep_let (hl c List.mem_cons_self),fold_let r _ (fun d hd=>hl d (List.mem_cons_of_mem _ hd)) (by simp [pcLet,h])]
  simp only [pcLet,h,lettersL,decide_true,Bool.and_true,List.length_cons,Pc.mk.injEq,true_and,and_true]
  refine ⟨by push_cast;omega,?_⟩
  rw [show 26*p.v0+(upC c - 65)+1=26*p.v0+(upC c - 64) by omega]
theorem fold_dig: ∀ (l:List Int) (p:Pc),(∀ c∈l,digC c=true)→0<p.m1→l.foldl pcStep p=⟨p.m0,p.m1+l.length,p.v0,rowL l p.v1,p.ok⟩
 | [],p,_,_=>by obtain ⟨a,b,c,d,e⟩:=p;simp [rowL]
 |c::r,p,hl,h=>by
  rw [List.foldl_cons,pcStep_digC (hl c List.mem_cons_self),fold_dig r _ (fun d hd=>hl d (List.mem_cons_of_mem _ hd)) (by simp [pcDig];omega)]
  simp only [pcDig,h,rowL,decide_true,Bool.or_true,Bool.and_true,List.length_cons,Pc.mk.injEq,true_and,and_true]
  push_cast;omega
theorem fold_mixed: ∀ (l:List Int) (p:Pc),(l.all digC=false)→0<p.m1→(l.foldl pcStep p).ok=false
 | [],_,h,_=>by simp at h
 |c::r,p,h,hm=>by
  rw [List.foldl_cons]
  cases hd:digC c
  ·
   apply fold_bad
   cases hl:letC c
   ·
    exact pcStep_other hl hd
   ·
    rw [pcStep_let hl]
    simp only [pcLet]
    rw [decide_eq_false (by omega)]
    simp
  ·
   rw [List.all_cons,hd,Bool.true_and] at h
   apply fold_mixed r _ h
   rw [pcStep_digC hd]
   simp only [pcDig];omega
theorem lettersL_pos: ∀ (l:List Int) {v:Int},(∀ c∈l,letC c=true)→0≤v→(l≠ []∨1≤v)→1≤lettersL l v
 | [],v,_,_,h=>by rcases h with h|h;exact absurd rfl h;exact h
 |c::r,v,hl,h0,_=>by
  have hc:=hl c List.mem_cons_self
  simp only [letC,Bool.or_eq_true,Bool.and_eq_true,decide_eq_true_eq] at hc
  have hu:65≤upC c:=by unfold upC;split<;>omega
  simp only [lettersL]
  exact lettersL_pos r (fun d hd=>hl d (List.mem_cons_of_mem _ hd)) (by omega) (.inr (by omega))
theorem rowL_pos: ∀ (l:List Int) {v:Int},(∀ c∈l,digC c=true)→1≤v→1≤rowL l v
 | [],_,_,h=>h
 |c::r,v,hl,h=>by
  have hc:=hl c List.mem_cons_self
  simp only [digC,Bool.and_eq_true,decide_eq_true_eq] at hc
  simp only [rowL]
  exact rowL_pos r (fun d hd=>hl d (List.mem_cons_of_mem _ hd)) (by omega)
theorem mem_takeWhile {p:Int→Bool}: ∀ {l:List Int} {c:Int},c∈l.takeWhile p→p c=true
 |d::r,c,h=>by
  rw [List.takeWhile_cons] at h
  split at h
  ·
   rename_i hp
   rcases List.mem_cons.1 h with rfl|h
   ·
    exact hp
   ·
    exact mem_takeWhile h
  ·
   cases h
theorem addrP_eq (l:List Int):addrP l=addrL l:=by
 unfold addrP addrL
 dsimp only
 generalize ha:l.takeWhile letC=a
 generalize hd:l.dropWhile letC=d
 have hl:l=a++d:=by rw [← ha,← hd,List.takeWhile_append_dropWhile]
 have hal: ∀ c∈a,letC c=true:=fun c hc=>mem_takeWhile (ha ▸ hc)
 have hp:pcOf l=d.foldl pcStep ⟨a.length,0,lettersL a 0,0,true⟩:=by
  rw [pcOf,hl,List.foldl_append,fold_let a pc0 hal rfl]
  simp [pc0]
 rw [hp]
 cases d with
 |nil=>simp
 |cons c r=>
  have hcl:letC c=false:=by
   cases hq:letC c
   ·
    rfl
   ·
    exfalso
    have hne:l.dropWhile letC≠ []:=by rw [hd];simp
    have:=List.head_dropWhile_not letC hne
    simp only [hd,List.head_cons] at this
    rw [hq] at this;cases this
  rw [List.foldl_cons]
  by_cases ha0:a= []
  ·
   subst ha0
   have:(List.foldl pcStep (pcStep ⟨(([]:List Int).length:Int),0,lettersL [] 0,0,true⟩ c) r).ok=false∨(List.foldl pcStep (pcStep ⟨(([]:List Int).length:Int),0,lettersL [] 0,0,true⟩ c) r).m0=0∨(List.foldl pcStep (pcStep ⟨(([]:List Int).length:Int),0,lettersL [] 0,0,true⟩ c) r).m1=0:=by
    cases hdc:digC c
    ·
     exact .inl (fold_bad r (pcStep_other hcl hdc))
    ·
     cases hr:r.all digC
     ·
      left
      apply fold_mixed r _ hr
      rw [pcStep_digC hdc];simp [pcDig]
     ·
      right;left
      rw [fold_dig r _ (by simpa using hr) (by rw [pcStep_digC hdc];simp [pcDig])]
      rw [pcStep_digC hdc];simp [pcDig]
   rw [if_pos this,if_pos (show (([]:List Int)= []∨_) from .inl rfl)]
  ·
   have hlen:0<(a.length:Int):=by
    have:=List.length_pos_iff.2 ha0
    omega
   cases hdc:digC c
   ·
    rw [if_pos (.inl (fold_bad r (pcStep_other hcl hdc))),if_pos (.inr (.inr (.inr (by simp [hdc]))))]
   ·
    rw [pcStep_digC hdc]
    by_cases h48:c=48
    ·
     rw [if_pos (.inl (fold_bad r (by simp [pcDig,h48]))),if_pos (.inr (.inr (.inl (by simp [h48]))))]
    ·
     cases hr:r.all digC
     ·
      rw [if_pos (.inl (fold_mixed r _ hr (by simp [pcDig]))),if_pos (.inr (.inr (.inr (by simp [hr]))))]
     ·
      have hr' : ∀ x∈r,digC x=true:=by simpa using hr
      have hp2:List.foldl pcStep (pcDig ⟨a.length,0,lettersL a 0,0,true⟩ c) r=⟨a.length,1+r.length,lettersL a 0,rowL (c::r) 0,true⟩:=by
       rw [fold_dig r _ hr' (by simp [pcDig])]
       simp [pcDig,h48,rowL]
      rw [hp2,if_neg (c:=(a= []∨_)) (by simp [ha0,h48,hdc,hr])]
      have hd2:=hdc
      simp only [digC,Bool.and_eq_true,decide_eq_true_eq] at hd2
      have h1:=lettersL_pos a hal (Int.le_refl 0) (.inl ha0)
      have h3:1≤rowL (c::r) 0:=rowL_pos r (v:=min (10*0+(c - 48)) 1025) hr' (by omega)
      generalize rowL (c::r) 0=u at h3 ⊢
      split
      ·
       rename_i h
       exfalso
       rcases h with h|h|h
       ·
        cases h
       ·
        exact absurd h (by show ¬ ((a.length:Int)=0);omega)
       ·
        exact absurd h (by show ¬ (1+(r.length:Int)=0);omega)
      ·
       by_cases hb:1024<lettersL a 0∨1024<u
       ·
        rw [if_pos hb,if_neg]
        simp only [valid,Bool.and_eq_true,decide_eq_true_eq]
        omega
       ·
        rw [if_neg hb,if_pos]
        simp only [valid,Bool.and_eq_true,decide_eq_true_eq]
        omega
end Go.SL
namespace Go.SL
open Go Go.Proofs
attribute [local irreducible] W WL WQ WG WA WX WLI WR WT VOp thn blk cutP scp retP endB FnAt FnIn
def wordI (l:List Int):Option (Tk × Nat):=
 if letC (l.headD 0)=false then none
 else if (l.drop (runL wrdC l)).headD 0=40 then some (⟨7,0,mkB (upW l),zeroR,0⟩,runL wrdC l)
 else if mkB (upW l)=trueB then some (⟨3,1,emptyB,zeroR,0⟩,runL wrdC l)
 else if mkB (upW l)=falseB then some (⟨3,0,emptyB,zeroR,0⟩,runL wrdC l)
 else if (addrL (upW l)).2.2≠0 then none
 else if (l.drop (runL wrdC l)).headD 0=58∧letC ((l.drop (runL wrdC l+1)).headD 0)=true∧(addrL (upW (l.drop (runL wrdC l+1)))).2.2=0∧(l.drop (runL wrdC l+1+runL wrdC (l.drop (runL wrdC l+1)))).headD 0≠40 then
  some (⟨if (addrL (upW l)).1=(addrL (upW (l.drop (runL wrdC l+1)))).1∧(addrL (upW l)).2.1=(addrL (upW (l.drop (runL wrdC l+1)))).2.1 then 5 else 6,0,emptyB,
   ⟨min (addrL (upW l)).1 (addrL (upW (l.drop (runL wrdC l+1)))).1,min (addrL (upW l)).2.1 (addrL (upW (l.drop (runL wrdC l+1)))).2.1,max (addrL (upW l)).1 (addrL (upW (l.drop (runL wrdC l+1)))).1,max (addrL (upW l)).2.1 (addrL (upW (l.drop (runL wrdC l+1)))).2.1⟩,0⟩,runL wrdC l+1+runL wrdC (l.drop (runL wrdC l+1)))
 else some (⟨5,0,emptyB,oneA (addrL (upW l)).1 (addrL (upW l)).2.1,0⟩,runL wrdC l)
theorem min_ge (a b:Int):(if b<a then b else a)=min a b:=by omega
theorem max_ge (a b:Int):(if a<b then b else a)=max a b:=by omega
theorem addrW_at (l:List Int) (hl:bytesOk l) (hlen:l.length≤100000) (w:World):Pure Tryz.prog 364 [.string (mkB l)] w (.tuple #[.agg (encF ⟨(addrL l).1,(addrL l).2.1⟩).toArray,.int .i64 (addrL l).2.2]):=by
 have h:=addrParse_at (mkB l) (by rw [mkB_size];exact hlen) w
 rw [ints_mkB hl,addrP_eq] at h
 exact h
set_option maxHeartbeats 2000000 in
theorem word_at (a:ByteArray) (ha:a.size≤10000) (i:Nat) (hi:i<a.size) (g:Nat) (w:World) (hr:Ro w g 0 [.string a]):
  Pure Tryz.prog 308 [.pointer (some ⟨g,0,none⟩),.int .i64 (i:Int)] w (tokV (atT i (wordI ((ints a).drop i)))):=by
 refine fn_at Tryz.func308 rfl Tryz.ntmps308 rfl ?_
 have hl:=ints_length a
 have hP1:=fun w' h=>plain_at a (by omega) i (by omega) g w' h
 have hwl:=runL_le wrdC ((ints a).drop i)
 have hul:=upW_length ((ints a).drop i)
 have huk:bytesOk (upW ((ints a).drop i)):=upW_ok fun c hc=>ints_ok a c (List.mem_of_mem_drop hc)
 rw [List.length_drop] at hwl
 have hW:wordI ((ints a).drop i)=wordI ((ints a).drop i):=rfl
 unfold wordI at hW ⊢
 clear hW
 rw [headD_at]
 simp only [List.drop_drop]
 generalize hn:runL wrdC ((ints a).drop i)=n at*
 generalize hu:upW ((ints a).drop i)=u at*
 rw [headD_at]
 have hus:(mkB u).size=n:=by rw [mkB_size,hul]
 have hA1:=addrW_at u huk (by omega)
 generalize hau:addrL u=A1 at hA1
 obtain ⟨c1,r1,e1⟩:=A1
 dsimp only at hA1 ⊢
 have hN1:=fun w' h=>next_at a (by omega) (i+n) g w' h
 have hN2:=fun w' h=>next_at a (by omega) (i+n+1) g w' h
 have hb1l:bat a (i+n)≠0→i+n<a.size:=fun h=>by
  rcases Nat.lt_or_ge (i+n) a.size with h1|h1
  ·
   exact h1
  ·
   exfalso;apply h;rw [bat,List.getD_eq_getElem?_getD,List.getElem?_eq_none (by omega)];rfl
 generalize hb1:bat a (i+n)=b1 at hN1 hb1l
 rw [show i+(n+1)=i+n+1 by omega]
 have hvl:=upW_length ((ints a).drop (i+n+1))
 have hvk:bytesOk (upW ((ints a).drop (i+n+1))):=upW_ok fun c hc=>ints_ok a c (List.mem_of_mem_drop hc)
 have hvr:=runL_le wrdC ((ints a).drop (i+n+1))
 rw [List.length_drop] at hvr
 have hP2:=fun w' hi h=>plain_at a (by omega) (i+n+1) hi g w' h
 generalize hm:runL wrdC ((ints a).drop (i+n+1))=m at*
 generalize hv:upW ((ints a).drop (i+n+1))=v at*
 rw [headD_at,headD_at]
 have hvs:(mkB v).size=m:=by rw [mkB_size,hvl]
 have hA2:=addrW_at v hvk (by omega)
 generalize hav:addrL v=A2 at hA2
 obtain ⟨c2,r2,e2⟩:=A2
 dsimp only at hA2 ⊢
 rw [show i+(n+1+m)=i+n+1+m by omega]
 have hN3:=fun w' h=>next_at a (by omega) (i+n+1+m) g w' h
 generalize hb2:bat a (i+n+1)=b2 at hN2
 generalize hb3:bat a (i+n+1+m)=b3 at hN3
 repeat' (first|((with_reducible apply wl_v);exact rfl;(with_reducible apply v_load_ro (o:=0) (off:=0));exact hr;exact rfl;exact rfl)|((with_reducible apply wl_callp);exact rfl;exact rfl;(intro w hm;exact lexLetter_at _ w))|((with_reducible apply wl_v (d:=28));exact rfl;(with_reducible apply v_lens_to);exact rfl;exact hus)|((with_reducible apply wl_v (d:=90));exact rfl;(with_reducible apply v_lens_to);exact rfl;exact hvs)|((with_reducible apply wl_v (d:=126));exact rfl;(with_reducible apply v_lens_to);exact rfl;exact hvs)|((with_reducible apply wl_callp (d:=26));exact rfl;exact rfl;(intro w' hm;exact hP1 w' (hr.next hm)))|((with_reducible apply wl_callp (d:=77));exact rfl;exact rfl;(intro w' hm;exact hP2 w' (hb1l (by omega)) (hr.next hm)))|((with_reducible apply wl_callp (d:=34));exact rfl;exact rfl;(intro w' hm;exact hN1 w' (hr.next hm)))|((with_reducible apply wl_callp (d:=65));exact rfl;exact rfl;(intro w' hm;exact hN1 w' (hr.next hm)))|((with_reducible apply wl_callp (d:=71));exact rfl;exact rfl;(intro w' hm;exact hN2 w' (hr.next hm)))|((with_reducible apply wl_callp (d:=92));exact rfl;exact rfl;(intro w' hm;exact hN3 w' (hr.next hm)))|((with_reducible apply wl_callp);exact rfl;exact rfl;(intro w hm;exact hA1 w))|((with_reducible apply wl_callp);exact rfl;exact rfl;(intro w hm;exact hA2 w))|((with_reducible apply wl_v (d:=99));exact rfl;exact min_ge _ _ ▸ v_min rfl rfl)|((with_reducible apply wl_v (d:=104));exact rfl;exact min_ge _ _ ▸ v_min rfl rfl)|((with_reducible apply wl_v (d:=109));exact rfl;exact max_ge _ _ ▸ v_max rfl rfl)|((with_reducible apply wl_v (d:=114));exact rfl;exact max_ge _ _ ▸ v_max rfl rfl)|((with_reducible apply wl_v (d:=118));exact rfl;exact v_eqlF (a:=⟨c1,r1⟩) (b:=⟨c2,r2⟩) rfl rfl)|((with_reducible apply wl_callp);exact rfl;exact rfl;(intro w hm;exact One_at ⟨c1,r1⟩ w))|refine sT ?_|refine sT2 ?_|refine sN ?_|refine sM fun _=> ?_|(refine sC ?_ ?_<;>intro hb<;>try omega)|fail)
 all_goals
  (refine eRCT ?_)
  simp_all [trueB,falseB,tokV,atT,encTk,encF,zeroR,emptyB,oneA,eqF,encR,zeroTk]
end Go.SL
