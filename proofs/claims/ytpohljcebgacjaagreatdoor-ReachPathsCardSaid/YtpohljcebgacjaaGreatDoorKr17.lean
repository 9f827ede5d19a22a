/-
  Lemmas and walks, put together: D12 E2 K1 Lq Lr Q1.
-/
import Derived.ChangeKeysEq
import Derived.Test.YtpohljcebgacjaaGreatDoorKr16
set_option linter.unusedSimpArgs false
set_option linter.unusedVariables false
set_option maxRecDepth 20000
namespace Go.SL
open Go Go.Proofs
attribute [local irreducible] W WL WQ WG WA WX WLI WR WT WC VOp RW thn blk cutP scp retP retPP endB FnAt FnIn FnP ceP
structure Et where
 at_:Rf
 input:ByteArray
def encEt (e:Et):List Value:= [.int .i64 e.at_.col,.int .i64 e.at_.row,.string e.input]
theorem encEt_len (e:Et):(encEt e).length=3:=rfl
def faultOf (b:Option Rf) (e:Et):Int:=if e.at_.valid=false then 3 else if (match b with|some p=>lessF p e.at_|none=>true)=false then 12 else if e.input=emptyB then 2 else (ofP e.input).2.2
def checkFrom:Nat→Option Rf→List Et→Int × Int
 |_,_,[]=>(0,0)
 |i,b,e::r=>if faultOf b e≠0 then ((i:Int),faultOf b e) else checkFrom (i+1) (some e.at_) r
def checkEt (L:List Et):Int × Int:=checkFrom 0 none L
def befEt (L:List Et) (i:Nat):Option Rf:=if i=0 then none else (L[i - 1]?).map Et.at_
set_option maxHeartbeats 2000000 in
theorem entryCheck_at (L : List Et) (tv : Value) (w : World) (ht : Reads w tv L.length (L.flatMap encEt)) (hlen : L.length ≤ 1000000) (hW : Words w) :
    Pure Tryz.prog 86 [tv] w (.tuple #[.int .i64 (checkEt L).1, .int .i64 (checkEt L).2]) := by
  obtain ⟨Al, cl, rfl, hl1, hl2, hl3⟩ := ht
  refine fn_at Tryz.func86 rfl Tryz.ntmps86 rfl ?_
  repeat' (first | refine sT ?_ | refine sS ?_ | refine sM fun _ => ?_ | (refine sC ?_ ?_ <;> intro hb <;> try omega) | fail)
  refine w_loopK [0, 2, 3, 9, 10] rfl (fun i : Nat => [(11, .int .i64 (i : Int))]) (fun _ => []) (fun i => i ≤ L.length ∧ checkEt L = checkFrom i (befEt L i) (L.drop i)) (fun i => L.length - i) 0 ⟨by omega, rfl⟩ sB (.refl _) ?_
  rintro i ⟨hi, hck⟩
  by_cases hlt : i < L.length
  · obtain ⟨gl, ol, rfl, hrl⟩ := hl3 (by omega)
    have he := hrl.elem encEt_len i hlt
    have hprev : ∀ h : 0 < i, Ro w gl (ol + (i - 1) * 3) (encEt L[i - 1]) := fun h => hrl.elem encEt_len (i - 1) (by omega)
    have hbef : ∀ h : 0 < i, befEt L i = some L[i - 1].at_ := fun h => by unfold befEt; rw [if_neg (by omega), List.getElem?_eq_getElem (by omega)]; rfl
    have hbef0 : i = 0 → befEt L i = none := fun h => by unfold befEt; rw [if_pos h]
    have hnext : befEt L (i + 1) = some L[i].at_ := by unfold befEt; rw [if_neg (by omega), Nat.add_sub_cancel, List.getElem?_eq_getElem hlt]; rfl
    rw [List.drop_eq_getElem_cons hlt, checkFrom, ← hnext] at hck
    generalize L[i] = e at he hck
    have hV : ∀ w', Pure Tryz.prog 73 [.agg (encF e.at_).toArray] w' (.bool e.at_.valid) := fun w' => valid_at e.at_.col e.at_.row w'
    have hO := fun (w' : World) (H' : List Blk) (hm : Mem w w' H') => Of_at e.input w' (hW.next hm)
    by_cases h0 : 0 < i
    · have hp := hprev h0
      rw [hbef h0] at hck
      generalize L[i - 1] = b at hp hck
      have hL := fun w' => Less_at b.at_ e.at_ w'
      unfold faultOf at hck
      simp only at hck
      have hofV : ∀ (A : Option Nat) (cap : Nat), ofV A cap (ofP e.input) = .tuple #[.agg (encM (ofP e.input).1 (sl A (ofP e.input).1.tree.length cap)).toArray, .int .i64 (ofP e.input).2.1, .int .i64 (ofP e.input).2.2] := fun _ _ => rfl
      simp only [hofV] at hO
      generalize ofP e.input = o at hO hck
      obtain ⟨⟨f1, f2, f3⟩, oa, oe⟩ := o
      simp only [encM] at hO
      simp only at hck
      generalize e.at_.valid = vd at hV hck
      generalize lessF b.at_ e.at_ = ls at hL hck
      repeat' (first | ((with_reducible apply wl_v (d := 14)); exact rfl; (with_reducible apply v_indexAddr); exact rfl; exact rfl; exact hlt) | ((with_reducible apply wl_v (d := 15)); exact rfl; (with_reducible apply v_loadw_ro); exact rfl; exact he; exact rfl) | ((with_reducible apply wc_v (d := 29)); (iterate 3 exact rfl); (with_reducible apply v_loads_ro (o := ol + (i - 1) * 3) (off := 0) hp (ys := encF b.at_)); (iterate 3 exact rfl)) | ((with_reducible apply wl_callp); exact rfl; exact rfl; (intro w hm; exact hV w)) | ((with_reducible apply (w_drawC0 (id := 6) [11] [])); kernel_rfl; kernel_rfl; kernel_rfl) | ((with_reducible apply wc_v); (iterate 3 exact rfl); (with_reducible apply v_indexAddr (j := i - 1)); exact rfl; exact rfl; omega) | ((with_reducible apply wl_callp (f := 113)); exact rfl; exact rfl; (intro w' hm; exact hL w')) | ((with_reducible apply wl_call (f := 74)); exact rfl; exact rfl; (intro w' hm; exact hO w' _ hm); rintro _ _ ⟨A, cap, rfl, rfl⟩) | refine sT ?_ | refine sS ?_ | refine sW ?_ | refine sN ?_ | refine sWN ?_ | refine sM fun _ => ?_ | (refine sC ?_ ?_ <;> intro hb <;> try omega) | (refine sCW ?_ ?_ <;> intro hb <;> try omega) | fail)
      all_goals clear hofV
      all_goals first
        | (refine ret2 eIO rfl rfl rfl (.nil _) ?_; rw [hck]; simp_all [emptyB]; done)
        | (refine ⟨i + 1, ⟨hlt, ?_⟩, by omega, ?_, ?_, .nil _⟩
           · rw [hck]; simp_all [emptyB]
           · exact sB
           · exact sB)
    · have h00 : i = 0 := by omega
      rw [hbef0 h00] at hck
      unfold faultOf at hck
      simp only at hck
      have hofV : ∀ (A : Option Nat) (cap : Nat), ofV A cap (ofP e.input) = .tuple #[.agg (encM (ofP e.input).1 (sl A (ofP e.input).1.tree.length cap)).toArray, .int .i64 (ofP e.input).2.1, .int .i64 (ofP e.input).2.2] := fun _ _ => rfl
      simp only [hofV] at hO
      generalize ofP e.input = o at hO hck
      obtain ⟨⟨f1, f2, f3⟩, oa, oe⟩ := o
      simp only [encM] at hO
      simp only at hck
      generalize e.at_.valid = vd at hV hck
      repeat' (first | ((with_reducible apply wl_v (d := 14)); exact rfl; (with_reducible apply v_indexAddr); exact rfl; exact rfl; exact hlt) | ((with_reducible apply wl_v (d := 15)); exact rfl; (with_reducible apply v_loadw_ro); exact rfl; exact he; exact rfl) | ((with_reducible apply wl_callp); exact rfl; exact rfl; (intro w hm; exact hV w)) | ((with_reducible apply (w_drawC0 (id := 6) [11] [])); kernel_rfl; kernel_rfl; kernel_rfl) | ((with_reducible apply wl_call (f := 74)); exact rfl; exact rfl; (intro w' hm; exact hO w' _ hm); rintro _ _ ⟨A, cap, rfl, rfl⟩) | refine sT ?_ | refine sS ?_ | refine sW ?_ | refine sN ?_ | refine sWN ?_ | refine sM fun _ => ?_ | (refine sC ?_ ?_ <;> intro hb <;> try omega) | (refine sCW ?_ ?_ <;> intro hb <;> try omega) | fail)
      all_goals clear hofV
      all_goals first
        | (refine ret2 eIO rfl rfl rfl (.nil _) ?_; rw [hck]; simp_all [emptyB]; done)
        | (refine ⟨i + 1, ⟨hlt, ?_⟩, by omega, ?_, ?_, .nil _⟩
           · rw [hck]; simp_all [emptyB]
           · exact sB
           · exact sB)
  · have e2 : i = L.length := by omega
    subst e2
    rw [List.drop_length, checkFrom] at hck
    repeat' (first | refine sT ?_ | refine sS ?_ | refine sM fun _ => ?_ | (refine sC ?_ ?_ <;> intro hb <;> try omega) | fail)
    all_goals (refine ret2 eIO rfl rfl rfl (.nil _) ?_; rw [hck])
def newL:Gr→List Et→Option Gr × Int
 |G,[]=>(some G,0)
 |G,e::r=>if (setG G e.at_ e.input).2≠0 then (none,(setG G e.at_ e.input).2) else newL (setG G e.at_ e.input).1 r
def newG (L:List Et):Option Gr × Int:=if (checkEt L).2≠0 then (none,(checkEt L).2) else newL [] L
def NewR (r:Option Gr × Int) (v:Value) (H:List Blk):Prop:=match r with
 |(none,e)=>v= .tuple #[.pointer none,.int .i64 e]∧H= []
 |(some G,_)=> ∃ gg gm E clock R,v= .tuple #[.pointer (some ⟨gg,0,none⟩),.int .i64 0]∧H=gB gg gm (E.map En.m) clock++R∧GOk R E clock G
set_option maxHeartbeats 2000000 in
theorem New_at (L:List Et) (tv:Value) (w:World) (ht:Reads w tv L.length (L.flatMap encEt)) (hlen:L.length≤1000000) (hW:Words w):
  FnAt Tryz.prog 38 [tv] w (NewR (newG L)):=by
 have hC:=fun (w' :World) (H:List Blk) (hm:Mem w w' H)=>entryCheck_at L tv w' (ht.of_w0 hm) hlen (hW.next hm)
 obtain ⟨Al,cl,rfl,hl1,hl2,hl3⟩:=ht
 refine fn_at Tryz.func38 rfl Tryz.ntmps38 rfl ?_
 unfold newG
 generalize checkEt L=c at hC
 obtain ⟨ci,ce⟩:=c
 dsimp only at hC ⊢
 by_cases hce:ce≠0
 ·
  rw [if_pos hce]
  repeat' (first|((with_reducible apply wl_callp (f:=86));exact rfl;exact rfl;(intro w' hm;exact hC w' _ hm))|refine sT ?_|refine sS ?_|refine sM fun _=> ?_|(refine sC ?_ ?_<;>intro hb<;>try omega)|fail)
  all_goals exact ret2 eIO rfl rfl rfl (.nil _) ⟨rfl,rfl⟩
 rw [if_neg hce]
 have hce0:ce=0:=by omega
 subst hce0
 repeat' (first|((with_reducible apply wl_callp (f:=86));exact rfl;exact rfl;(intro w' hm;exact hC w' _ hm))|((with_reducible apply wl_makeMap (enc:=keyF));exact rfl;intro gm)|refine sT ?_|refine sS ?_|refine sM fun _=> ?_|(refine sC ?_ ?_<;>intro hb<;>try omega)|fail)
 rename_i gg
 refine w_loopK [6,21,22] rfl (fun x:Nat × List En × Nat × Gr × List Blk=> [(23,.int .i64 (x.1:Int))]) (fun x=>gB gg gm (x.2.1.map En.m) x.2.2.1++x.2.2.2.2) (fun x=>x.1≤L.length∧GOk x.2.2.2.2 x.2.1 x.2.2.1 x.2.2.2.1∧newL [] L=newL x.2.2.2.1 (L.drop x.1)) (fun x=>L.length - x.1) (0,[],0,[],[]) ⟨by simp,gok_nil [],rfl⟩ sB (by unfold gB;exact mS) ?_
 rintro ⟨i,E,clock,G,R⟩ ⟨hi,hG,hnew⟩
 dsimp only at hi hG hnew ⊢
 by_cases hlt:i<L.length
 ·
  obtain ⟨gl,ol,rfl,hrl⟩:=hl3 (by omega)
  have he:=hrl.elem encEt_len i hlt
  rw [List.drop_eq_getElem_cons hlt,newL] at hnew
  generalize L[i]=e at he hnew
  have hS:=Set_in gg gm clock E G e.at_ e.input R w hG hW
  generalize setG G e.at_ e.input=sg at hS hnew
  obtain ⟨G',se⟩:=sg
  dsimp only at hS hnew
  repeat' (first|((with_reducible apply wl_v (d:=25));exact rfl;(with_reducible apply v_indexAddr);exact rfl;exact rfl;exact hlt)|((with_reducible apply wl_v (d:=26));exact rfl;(with_reducible apply v_loadw_ro);exact rfl;exact he;exact rfl)|((with_reducible apply wl_callin (f:=27));exact rfl;exact rfl;exact FnIn.msub hS (by unfold gB;exact mS);rintro _ _ ⟨rfl,E',clock',R',rfl,hsub,hG'⟩)|refine sT ?_|refine sS ?_|refine sN ?_|refine sM fun _=> ?_|(refine sC ?_ ?_<;>intro hb<;>try omega)|fail)
  ·
   rw [hnew,if_pos (by assumption)]
   exact ret2 eIO rfl rfl rfl (.nil _) ⟨rfl,rfl⟩
  ·
   rw [if_neg (by assumption)] at hnew
   refine ⟨(i+1,E',clock',G',R'),⟨hlt,hG',hnew⟩,(by dsimp only;omega),sB,sB,?_⟩
   unfold gB
   exact mS
 ·
  have e2:i=L.length:=by omega
  subst e2
  rw [List.drop_length,newL] at hnew
  rw [hnew]
  repeat' (first|refine sT ?_|refine sS ?_|refine sM fun _=> ?_|(refine sC ?_ ?_<;>intro hb<;>try omega)|fail)
  all_goals exact ret2 eIO rfl rfl rfl (MSub.refl _) ⟨gg,gm,E,clock,R,rfl,rfl,hG⟩
theorem EqualRefs_at (L M:List Rf) (lv mv:Value) (w:World) (hl:Reads w lv L.length (L.flatMap encF)) (hm:Reads w mv M.length (M.flatMap encF)):
  Pure Tryz.prog 34 [lv,mv] w (.bool (decide (L=M))):=by
 obtain ⟨Al,cl,rfl,hl1,hl2,hl3⟩:=hl
 obtain ⟨Am,cm,rfl,hm1,hm2,hm3⟩:=hm
 refine fn_at Tryz.func34 rfl Tryz.ntmps34 rfl ?_
 by_cases hlen:L.length=M.length
 ·
  repeat' (first|refine sT ?_|refine sS ?_|refine sM fun _=> ?_|(refine sC ?_ ?_<;>intro hb<;>try omega)|fail)
  refine w_loop (fun i:Nat=> [(0,.slice Al L.length cl),(1,.slice Am M.length cm),(5,.int .i64 (i:Int))]) (fun _=> []) (fun i=>i≤L.length∧decide (L=M)=decide (L.drop i=M.drop i)) (fun i=>L.length - i) 0 ⟨by omega,rfl⟩ ?_ ?_ ?_
  ·
   exact sB
  ·
   exact mS
  ·
   rintro i ⟨hi,hrec⟩
   by_cases hlt:i<L.length
   ·
    have hlt2:i<M.length:=by omega
    obtain ⟨gl,ol,rfl,hrl⟩:=hl3 (by omega)
    obtain ⟨gm,om,rfl,hrm⟩:=hm3 (by omega)
    have he1:=hrl.elem encF_len i hlt
    have he2:=hrm.elem encF_len i hlt2
    rw [eq_drop hlt hlt2,← eqF_dec] at hrec
    repeat' (first|((with_reducible apply wq_v);exact rfl;(with_reducible apply v_indexAddr);exact rfl;exact rfl;(first|exact hlt|exact hlt2))|((with_reducible apply wq_v);exact rfl;(with_reducible apply v_loadw_ro);exact rfl;(first|exact he1|exact he2);exact rfl)|((with_reducible apply wq_v);exact rfl;(with_reducible apply v_neqF);exact rfl;exact rfl)|((with_reducible apply wl_v);exact rfl;(with_reducible apply v_succN);exact rfl;exact rfl;(simp only [maxLen] at*;omega))|refine sT ?_|refine sS ?_|refine sQ ?_|refine sD ?_|refine sM fun _=> ?_|(refine sC ?_ ?_<;>intro hb<;>try omega)|(refine sCQ ?_ ?_<;>intro hb<;>try omega)|fail)
    ·
     (refine rT1 ?_)
     rw [hrec]
     simp_all
    ·
     refine ⟨i+1,⟨by omega,?_⟩,by omega,?_,?_⟩
     ·
      rw [hrec]
      simp_all
     ·
      exact sB
     ·
      exact mS
   ·
    have e:i=L.length:=by omega
    subst e
    repeat' (first|refine sT ?_|refine sS ?_|refine sM fun _=> ?_|(refine sC ?_ ?_<;>intro hb<;>try omega)|fail)
    (refine rT1 ?_)
    rw [hrec,List.drop_length,hlen,List.drop_length]
    rfl
 ·
  repeat' (first|refine sT ?_|refine sS ?_|refine sM fun _=> ?_|(refine sC ?_ ?_<;>intro hb<;>try omega)|fail)
  (refine rT1 ?_)
  rw [decide_eq_false]
  intro e
  exact hlen (congrArg List.length e)
end Go.SL
namespace Go.SL
open Go
theorem digC_iff (c:Int):digC c=true↔48≤c∧c≤57:=by simp [digC]
theorem letC_iff (c:Int):letC c=true↔(65≤c∧c≤90)∨(97≤c∧c≤122):=by simp [letC]
theorem letC_no (c:Int):letC c=false↔ ¬ ((65≤c∧c≤90)∨(97≤c∧c≤122)):=by rw [← letC_iff];simp
theorem letC_upC (c:Int):letC (upC c)=letC c:=by
 rw [Bool.eq_iff_iff,letC_iff,letC_iff,upC]
 by_cases h:97≤c∧c≤122
 ·
  rw [if_pos h];omega
 ·
  rw [if_neg h]
theorem digC_upC (c:Int):digC (upC c)=digC c:=by
 rw [Bool.eq_iff_iff,digC_iff,digC_iff,upC]
 by_cases h:97≤c∧c≤122
 ·
  rw [if_pos h];omega
 ·
  rw [if_neg h]
theorem upC_upC (c:Int):upC (upC c)=upC c:=by
 simp only [upC]
 split
 ·
  rw [if_neg (by omega)]
 ·
  rfl
theorem upC_dig {c:Int} (h:digC c=true):upC c=c:=by
 simp only [digC,Bool.and_eq_true,decide_eq_true_eq] at h
 rw [upC,if_neg (by omega)]
theorem takeWhile_up: ∀ l:List Int,(l.map upC).takeWhile letC=(l.takeWhile letC).map upC
 | []=>rfl
 |c::r=>by
  simp only [List.map_cons,List.takeWhile_cons,letC_upC]
  split
  ·
   rw [takeWhile_up r];rfl
  ·
   rfl
theorem dropWhile_up: ∀ l:List Int,(l.map upC).dropWhile letC=(l.dropWhile letC).map upC
 | []=>rfl
 |c::r=>by
  simp only [List.map_cons,List.dropWhile_cons,letC_upC]
  split
  ·
   rw [dropWhile_up r]
  ·
   rfl
theorem lettersL_up: ∀ (l:List Int) (v:Int),lettersL (l.map upC) v=lettersL l v
 | [],_=>rfl
 |c::r,v=>by simp only [List.map_cons,lettersL,upC_upC,lettersL_up r]
theorem all_up: ∀ l:List Int,(l.map upC).all digC=l.all digC
 | []=>rfl
 |c::r=>by simp only [List.map_cons,List.all_cons,digC_upC,all_up r]
theorem map_up_dig: ∀ {l:List Int},l.all digC=true→l.map upC=l
 | [],_=>rfl
 |c::r,h=>by
  simp only [List.all_cons,Bool.and_eq_true] at h
  simp only [List.map_cons,upC_dig h.1,map_up_dig h.2]
theorem head_up (l:List Int):((l.map upC).head? =some 48)↔(l.head? =some 48):=by
 cases l with
 |nil=>simp
 |cons c r=>
  simp only [List.map_cons,List.head?_cons,Option.some.injEq,upC]
  split<;>omega
theorem addrL_up (l:List Int):addrL (l.map upC)=addrL l:=by
 unfold addrL
 simp only [takeWhile_up,dropWhile_up,List.map_eq_nil_iff,head_up,all_up,lettersL_up]
 split
 ·
  rfl
 ·
  rename_i h
  have hd:(l.dropWhile letC).all digC=true:=by
   cases hh:(l.dropWhile letC).all digC with
   |true=>rfl
   |false=>exact absurd (.inr (.inr (.inr hh))) h
  rw [map_up_dig hd]
theorem runL_take {p:Int→Bool}: ∀ {l:List Int} {n:Nat},n≤runL p l→runL p (l.take n)=n
 | [],n,h=>by simp [runL] at h;subst h;rfl
 |c::r,0,_=>rfl
 |c::r,n+1,h=>by
  simp only [runL] at h
  split at h
  ·
   rename_i hc
   simp only [List.take_succ_cons,runL,hc,if_true]
   rw [runL_take (by omega)]
  ·
   omega
theorem runL_take_ge {p:Int→Bool}: ∀ {l:List Int} {n:Nat},runL p l≤n→runL p (l.take n)=runL p l
 | [],n,_=>by simp
 |c::r,0,h=>by
  simp only [runL] at h
  split at h
  ·
   omega
  ·
   rename_i hc;simp [runL,hc]
 |c::r,n+1,h=>by
  simp only [runL] at h ⊢
  simp only [List.take_succ_cons,runL]
  split at h
  ·
   rename_i hc;simp only [hc,if_true];rw [runL_take_ge (by omega)]
  ·
   rename_i hc;simp [hc]
theorem placesL_pos {l:List Int} (h:placesL l≠0): ∃ r,l=46::r∧placesL l=runL digC r:=by
 cases l with
 |nil=>exact absurd rfl h
 |cons c r=>
  by_cases hc:c=46
  ·
   subst hc;exact ⟨r,rfl,rfl⟩
  ·
   exact absurd (placesL_no hc) h
theorem decL_number {l:List Int} {w p:Nat} (hw:runL digC l=w) (hp:placesL (l.drop w)=p) (h0:w≠0) (h4:p≤4):
  decL (l.take (if p=0 then w else w+1+p))=if mostI<natOf (l.take w++(l.drop (w+1)).take p++List.replicate (4 - p) 48) 0 then (0,3) else (natOf (l.take w++(l.drop (w+1)).take p++List.replicate (4 - p) 48) 0,0):=by
 have hwl:w≤l.length:=hw ▸ runL_le digC l
 obtain ⟨c,r,rfl⟩: ∃ c r,l=c::r:=by
  cases l with
  |nil=>simp [runL] at hw;omega
  |cons c r=>exact ⟨c,r,rfl⟩
 have hc:digC c=true:=runL_all (c::r) 0 c (by omega) rfl
 have hc45:c≠45:=by simp only [digC,Bool.and_eq_true,decide_eq_true_eq] at hc;omega
 have hneg: ∀ n,0<n→decide (((c::r).take n).head? =some 45)=false:=by
  intro n hn
  cases n with
  |zero=>omega
  |succ n=>simp [hc45]
 by_cases hp0:p=0
 ·
  subst hp0
  rw [if_pos rfl]
  unfold decL
  have hrun:runL digC ((c::r).take w)=w:=runL_take (by omega)
  have hdrop:((c::r).take w).drop w= []:=by rw [List.drop_eq_nil_iff,List.length_take];omega
  have htt:((c::r).take w).take w=(c::r).take w:=by rw [List.take_take,Nat.min_self]
  simp only [hneg w (by omega),Bool.false_eq_true,if_false,hrun,hdrop,htt]
  simp [h0]
 ·
  rw [if_neg hp0]
  obtain ⟨q,hq,hq2⟩:=placesL_pos (l:=(c::r).drop w) (by omega)
  have hpq:runL digC q=p:=by omega
  have hpl:p≤q.length:=hpq ▸ runL_le digC q
  have hlen:(c::r).length=w+1+q.length:=by
   have:=congrArg List.length hq
   rw [List.length_drop] at this
   simp only [List.length_cons] at this ⊢
   omega
  have hd1:(c::r).drop (w+1)=q:=by
   rw [← List.drop_drop,hq];rfl
  have hrun:runL digC ((c::r).take (w+1+p))=w:=by rw [runL_take_ge (by omega)];exact hw
  have hdrop:((c::r).take (w+1+p)).drop w=46::q.take p:=by
   rw [List.drop_take,hq,show w+1+p - w=p+1 by omega];rfl
  have htt:((c::r).take (w+1+p)).take w=(c::r).take w:=by rw [List.take_take,Nat.min_eq_left (by omega)]
  have hrp:runL digC (q.take p)=p:=runL_take (by omega)
  have hlp:(q.take p).length=p:=by rw [List.length_take];omega
  unfold decL
  simp only [hneg (w+1+p) (by omega),Bool.false_eq_true,if_false,hrun,hdrop,htt,List.tail_cons,hrp,hd1]
  have hfrac:(decide (1<(46::q.take p).length) && (decide ((46::q.take p).head? =some 46) && decide (p+1=(46::q.take p).length)))=true:=by
   simp only [List.length_cons,hlp,List.head?_cons,decide_true,Bool.true_and,Bool.and_true]
   simp;omega
  simp only [hfrac,if_true]
  have h5:(q.take p++ [48,48,48,48,48]).getD 4 0=48:=by
   rw [List.getD_eq_getElem?_getD,List.getElem?_append_right (by omega),hlp]
   rcases (by omega:p=1∨p=2∨p=3∨p=4) with rfl|rfl|rfl|rfl<;>rfl
  have h6:(q.take p++ [48,48,48,48,48]).take 4=q.take p++List.replicate (4 - p) 48:=by
   rw [List.take_append,hlp,List.take_of_length_le (by omega)]
   rcases (by omega:p=1∨p=2∨p=3∨p=4) with rfl|rfl|rfl|rfl<;>rfl
  rw [if_neg (by simp [h0])]
  simp only [h5,h6]
  rw [if_neg (show ¬ (53:Int)≤48 by decide),Int.add_zero,List.append_assoc]
theorem numberP_eq (l:List Int):numberP l=(numberL l).map fun x=>(⟨1,x.1,emptyB,zeroR,0⟩,x.2):=by
 unfold numberP numberL
 dsimp only
 split
 ·
  rfl
 ·
  rename_i h
  have h0:runL digC l≠0:=fun e=>h (.inl e)
  have h4:placesL (l.drop (runL digC l))≤4:=by
   rcases Nat.lt_or_ge 4 (placesL (l.drop (runL digC l))) with h4|h4
   ·
    exact absurd (.inr h4) h
   ·
    exact h4
  rw [decL_number rfl rfl h0 h4]
  split
  ·
   rfl
  ·
   rfl
theorem unqL_two (m:List Int):unqL (34::34::m)=(unqL m).map (34:: ·):=by
 rw [unqL.eq_def]
 simp
theorem textL_eq: ∀ (n:Nat) (l:List Int),l.length≤n→textL l=(closeQ l).bind fun k=>(unqL (l.take k)).map fun t=>(t,k+1):=by
 intro n
 induction n with
 |zero=>intro l h;have:l= []:=List.eq_nil_of_length_eq_zero (by omega);subst this;rfl
 |succ n ih=>
  intro l h
  cases l with
  |nil=>rfl
  |cons c r=>
   simp only [List.length_cons] at h
   by_cases hc:c=34
   ·
    subst hc
    cases r with
    |nil=>rfl
    |cons d r' =>
     simp only [List.length_cons] at h
     by_cases hd:d=34
     ·
      subst hd
      rw [textL.eq_def,closeQ.eq_def]
      simp only [ne_eq,not_true,if_false,if_true]
      rw [ih r' (by omega)]
      cases hk:closeQ r' with
      |none=>rfl
      |some k=>
       simp only [Option.map_some,Option.bind_some]
       rw [List.take_succ_cons,List.take_succ_cons,unqL_two]
       cases unqL (r'.take k)<;>rfl
     ·
      rw [textL.eq_def,closeQ.eq_def]
      simp [hd,unqL]
   ·
    rw [textL.eq_def,closeQ_cons hc]
    simp only [ne_eq,hc,not_false_eq_true,if_true]
    rw [ih r (by omega)]
    cases hk:closeQ r with
    |none=>rfl
    |some k=>
     simp only [Option.map_some,Option.bind_some]
     rw [List.take_succ_cons,unqL_cons hc]
     cases unqL (r.take k)<;>rfl
theorem closeQ_at: ∀ (n:Nat) (l:List Int) (k:Nat),l.length≤n→closeQ l=some k→l[k]? =some 34∧ ∃ t,unqL (l.take k)=some t∧t.length≤k:=by
 intro n
 induction n with
 |zero=>intro l k h hk;have:l= []:=List.eq_nil_of_length_eq_zero (by omega);subst this;cases hk
 |succ n ih=>
  intro l k h hk
  cases l with
  |nil=>cases hk
  |cons c r=>
   simp only [List.length_cons] at h
   by_cases hc:c=34
   ·
    subst hc
    cases r with
    |nil=>cases hk;exact ⟨rfl,[],rfl,Nat.le_refl _⟩
    |cons d r' =>
     simp only [List.length_cons] at h
     by_cases hd:d=34
     ·
      subst hd
      rw [closeQ.eq_def] at hk
      simp only [ne_eq,not_true,if_false,if_true] at hk
      cases hk' :closeQ r' with
      |none=>rw [hk'] at hk;cases hk
      |some j=>
       rw [hk'] at hk
       cases hk
       obtain ⟨h1,t,h2,h3⟩:=ih r' j (by omega) hk'
       refine ⟨h1,34::t,?_,by simp only [List.length_cons];omega⟩
       rw [List.take_succ_cons,List.take_succ_cons,unqL_two,h2];rfl
     ·
      rw [closeQ.eq_def] at hk
      simp [hd] at hk
      subst hk
      exact ⟨rfl,[],rfl,Nat.le_refl _⟩
   ·
    rw [closeQ_cons hc] at hk
    cases hk' :closeQ r with
    |none=>rw [hk'] at hk;cases hk
    |some j=>
     rw [hk'] at hk
     cases hk
     obtain ⟨h1,t,h2,h3⟩:=ih r j (by omega) hk'
     refine ⟨h1,c::t,?_,by simp only [List.length_cons];omega⟩
     rw [List.take_succ_cons,unqL_cons hc,h2];rfl
theorem textP_eq {r:List Int} (hp:(34::r).all (fun c=>plainC c)=true) (hl:r.length≤256):textP (34::r)=(textL r).map fun x=>(⟨2,0,mkB x.1,zeroR,0⟩,x.2+1):=by
 unfold textP
 rw [textL_eq r.length r (Nat.le_refl _)]
 simp only [List.headD_cons,ne_eq,not_true,if_false,List.drop_succ_cons,List.drop_zero]
 cases hk:closeQ r with
 |none=>rfl
 |some k=>
  obtain ⟨h1,t,h2,h3⟩:=closeQ_at r.length r k (Nat.le_refl _) hk
  obtain ⟨hkl,h1⟩:=List.getElem?_eq_some_iff.1 h1
  have e1:(34::r).take (k+2)=34::r.take (k+1):=rfl
  have e2:r.take (k+1)=r.take k++ [34]:=by rw [List.take_succ_eq_append_getElem hkl,h1]
  have hall:(34::r.take (k+1)).all (fun c=>plainC c)=true:=by
   rw [← e1]
   rw [List.all_eq_true] at hp ⊢
   exact fun x hx=>hp x (List.mem_of_mem_take hx)
  have e3:unquoteL (34::r.take (k+1))=(t,0):=by
   unfold unquoteL
   rw [hall]
   rw [if_neg (by rw [e2];simp [List.getLast?_cons])]
   have:((34::r.take (k+1)).drop 1).dropLast=r.take k:=by rw [List.drop_succ_cons,List.drop_zero,e2,List.dropLast_concat]
   rw [this,h2]
   simp only
   rw [if_neg (by omega)]
  simp only [e1,e3,Option.bind_some,h2,Option.map_some]
  simp
theorem upW_eq (l:List Int):upW l=(l.take (runL wrdC l)).map upC:=rfl
theorem addrW (l:List Int):addrL (upW l)=addrL (l.take (runL wrdC l)):=by rw [upW_eq,addrL_up]
def signR (l:List Int):Option (Tk × Nat):=match failP l with
 |some x=>some x
 |none=>signP l
theorem failL_head {l:List Int} (h:l.headD 0≠35): ∀ (ns:List (List Int)) (k:Int),(∀ s∈ns,s.head? =some 35)→failL l ns k=none
 | [],_,_=>rfl
 |s::r,k,hs=>by
  have h1:=hs s List.mem_cons_self
  rw [failL,if_neg,failL_head h r _ fun s hs' =>hs s (List.mem_cons_of_mem _ hs')]
  intro e
  cases s with
  |nil=>cases h1
  |cons a s=>
   cases h1
   cases l with
   |nil=>cases e
   |cons c l=>
    simp only [List.length_cons,List.take_succ_cons,List.map_cons,List.cons.injEq] at e
    simp only [List.headD_cons] at h
    have:=e.1
    simp only [upC] at this
    split at this<;>omega
theorem failP_none {l:List Int} (h:l.headD 0≠35):failP l=none:=by
 unfold failP
 rw [failL_head h errNames 1 (by decide)]
 rfl
def opHeads:List Int:= [60,62,43,45,42,47,94,38,61,37]
theorem opL_head {l:List Int} (h:l.headD 0∉opHeads): ∀ ns:List (List Int × Int),(∀ s∈ns,∃ c,s.1.head? =some c∧c∈opHeads)→opL l ns=none
 | [],_=>rfl
 |(s,k)::r,hs=>by
  obtain ⟨a,h1,h2⟩:=hs (s,k) List.mem_cons_self
  rw [opL,if_neg,opL_head h r fun s hs' =>hs s (List.mem_cons_of_mem _ hs')]
  intro e
  cases s with
  |nil=>cases h1
  |cons b s=>
   cases h1
   cases l with
   |nil=>cases e
   |cons c l=>
    simp only [List.length_cons,List.take_succ_cons,List.cons.injEq] at e
    simp only [List.headD_cons] at h
    exact h (e.1 ▸ h2)
theorem signP_none {l:List Int} (h:l.headD 0∉opHeads) (h1:l.headD 0≠40) (h2:l.headD 0≠41) (h3:l.headD 0≠44):signP l=none:=by
 unfold signP
 rw [opL_head h opNames (by decide)]
 simp only [h1,h2,h3,if_false]
theorem numberP_none {l:List Int} (h:digC (l.headD 0)=false):numberP l=none:=by
 unfold numberP
 have:runL digC l=0:=by
  cases l with
  |nil=>rfl
  |cons c r=>simp only [List.headD_cons] at h;simp [runL,h]
 simp [this]
theorem textP_none {l:List Int} (h:l.headD 0≠34):textP l=none:=by
 unfold textP
 rw [if_pos h]
theorem wordI_none {l:List Int} (h:letC (l.headD 0)=false):wordI l=none:=by
 unfold wordI
 rw [if_pos h]
def tokenR (l:List Int):Option (Tk × Nat):=
 if digC (l.headD 0) then (numberL l).map fun x=>(⟨1,x.1,emptyB,zeroR,0⟩,x.2)
 else if l.headD 0=34 then (textL l.tail).map fun x=>(⟨2,0,mkB x.1,zeroR,0⟩,x.2+1)
 else if letC (l.headD 0) then wordI l
 else signR l
theorem opHeads_iff (c:Int):c∈opHeads↔c=60∨c=62∨c=43∨c=45∨c=42∨c=47∨c=94∨c=38∨c=61∨c=37:=by simp [opHeads]
theorem tokenP_eq {l:List Int} (hp:l.all (fun c=>plainC c)=true) (hl:l.length≤256):tokenP l=tokenR l:=by
 have hF:tokenP l=match numberP l with
  |some x=>some x
  |none=>match textP l with
   |some x=>some x
   |none=>match wordI l with
    |some x=>some x
    |none=>signR l:=by
  unfold tokenP rulesP firstP signR
  cases numberP l<;>simp only [firstP]
  cases textP l<;>simp only
  cases wordI l<;>simp only
  cases failP l<;>simp only
  cases signP l<;>rfl
 rw [hF]
 unfold tokenR
 by_cases h1:digC (l.headD 0)=true
 ·
  have h1' :=(digC_iff _).1 h1
  rw [if_pos h1,← numberP_eq,textP_none (by omega),wordI_none ((letC_no _).2 (by omega)),signR,failP_none (by omega),signP_none (by rw [opHeads_iff];omega) (by omega) (by omega) (by omega)]
  cases numberP l<;>rfl
 ·
  rw [if_neg h1]
  have h1' :digC (l.headD 0)=false:=by simpa using h1
  rw [numberP_none h1']
  by_cases h2:l.headD 0=34
  ·
   rw [if_pos h2]
   cases l with
   |nil=>cases h2
   |cons c r=>
    simp only [List.headD_cons] at h2
    subst h2
    rw [textP_eq hp (by simp only [List.length_cons] at hl;omega),List.tail_cons,wordI_none (by rw [List.headD_cons];decide),signR,failP_none (by rw [List.headD_cons];decide),signP_none (by rw [List.headD_cons];decide) (by rw [List.headD_cons];decide) (by rw [List.headD_cons];decide) (by rw [List.headD_cons];decide)]
    cases textL r<;>rfl
  ·
   rw [if_neg h2,textP_none h2]
   by_cases h3:letC (l.headD 0)=true
   ·
    have h3' :=(letC_iff _).1 h3
    rw [if_pos h3,signR,failP_none (by omega),signP_none (by rw [opHeads_iff];omega) (by omega) (by omega) (by omega)]
    cases wordI l<;>rfl
   ·
    rw [if_neg h3,wordI_none (by simpa using h3)]
theorem tokensG_eq {l:List Int} (hp:l.all (fun c=>plainC c)=true) (hl:l.length≤256): ∀ f i,tokensG tokenP l f i=tokensG tokenR l f i:=by
 intro f
 induction f with
 |zero=>intro i;rfl
 |succ f ih=>
  intro i
  simp only [tokensG]
  have h1:(l.drop i).all (fun c=>plainC c)=true:=by
   rw [List.all_eq_true] at hp ⊢
   exact fun x hx=>hp x (List.mem_of_mem_drop hx)
  rw [tokenP_eq h1 (by rw [List.length_drop];omega)]
  simp only [ih]
theorem tokensV_eq (l:List Int):tokensV tokenP l=tokensV tokenR l:=by
 unfold tokensV
 split
 ·
  rfl
 ·
  rename_i hl
  cases h:l.findIdx? (fun c=> !plainC c) with
  |some i=>rfl
  |none=>
   simp only
   rw [tokensG_eq _ (by omega)]
   rw [List.findIdx?_eq_none_iff] at h
   rw [List.all_eq_true]
   intro x hx
   have:=h x hx
   simpa using this
def Chain:List Tk→Prop
 | []=>True
 |t::r=>(1≤t.kind∧t.kind≤11)∧(t.kind=7→(r.headD zeroTk).kind=9)∧Chain r
theorem failP_kind {l:List Int} {t:Tk} {n:Nat} (h:failP l=some (t,n)):t.kind=4:=by
 unfold failP at h
 obtain ⟨x,_,hx⟩:=Option.map_eq_some_iff.1 h
 cases hx;rfl
theorem signP_kind {l:List Int} {t:Tk} {n:Nat} (h:signP l=some (t,n)):8≤t.kind∧t.kind≤11:=by
 unfold signP at h
 split at h
 ·
  cases h;simp
 ·
  split at h
  ·
   cases h;simp
  ·
   split at h
   ·
    cases h;simp
   ·
    split at h
    ·
     cases h;simp
    ·
     cases h
theorem signR_kind {l:List Int} {t:Tk} {n:Nat} (h:signR l=some (t,n)):(1≤t.kind∧t.kind≤11)∧t.kind≠7:=by
 unfold signR at h
 split at h
 ·
  rename_i x hx
  cases h
  have:=failP_kind hx
  omega
 ·
  have:=signP_kind h
  omega
theorem wordI_kind {l:List Int} {t:Tk} {n:Nat} (h:wordI l=some (t,n)):(1≤t.kind∧t.kind≤11)∧(t.kind=7→(l.drop n).headD 0=40):=by
 unfold wordI at h
 split at h
 ·
  cases h
 ·
  split at h
  ·
   rename_i h1
   cases h
   exact ⟨by simp,fun _=>h1⟩
  ·
   split at h
   ·
    cases h;simp
   ·
    split at h
    ·
     cases h;simp
    ·
     split at h
     ·
      cases h
     ·
      split at h
      ·
       cases h
       simp only
       split<;>simp
      ·
       cases h;simp
theorem tokenR_kind {l:List Int} {t:Tk} {n:Nat} (h:tokenR l=some (t,n)):(1≤t.kind∧t.kind≤11)∧(t.kind=7→(l.drop n).headD 0=40):=by
 unfold tokenR at h
 split at h
 ·
  obtain ⟨x,_,hx⟩:=Option.map_eq_some_iff.1 h
  cases hx;simp
 ·
  split at h
  ·
   obtain ⟨x,_,hx⟩:=Option.map_eq_some_iff.1 h
   cases hx;simp
  ·
   split at h
   ·
    exact wordI_kind h
   ·
    have:=signR_kind h
    exact ⟨this.1,fun e=>absurd e this.2⟩
theorem tokenR_fits (l:List Int):Fits l (tokenR l):=by
 intro t n h
 by_cases hd:digC (l.headD 0)=true
 ·
  unfold tokenR at h
  rw [if_pos hd,← numberP_eq] at h
  exact number_fits l t n h
 ·
  unfold tokenR at h
  rw [if_neg hd] at h
  split at h
  ·
   rename_i hq
   cases l with
   |nil=>cases hq
   |cons c r=>
    obtain ⟨⟨x,m⟩,hx,he⟩:=Option.map_eq_some_iff.1 h
    cases he
    rw [List.tail_cons,textL_eq r.length r (Nat.le_refl _)] at hx
    obtain ⟨k,hk,hk2⟩:=Option.bind_eq_some_iff.1 hx
    obtain ⟨y,_,hy⟩:=Option.map_eq_some_iff.1 hk2
    cases hy
    have:=closeQ_le r.length r k (Nat.le_refl _) hk
    simp only [List.length_cons]
    omega
  ·
   split at h
   ·
    exact word_fits l t n h
   ·
    unfold signR at h
    split at h
    ·
     rename_i x hx
     cases h
     exact fail_fits l t n hx
    ·
     exact sign_fits l t n h
theorem tokenR_open {l:List Int} (h:l.headD 0=40): ∃ n,tokenR l=some (⟨9,0,emptyB,zeroR,0⟩,n):=by
 unfold tokenR
 rw [h,if_neg (by decide),if_neg (by decide),if_neg (by decide),signR,failP_none (by omega)]
 simp only
 unfold signP
 rw [opL_head (by rw [h];decide) opNames (by decide)]
 simp only [h,if_true]
 exact ⟨1,rfl⟩
theorem tokensG_head {l:List Int} {f i:Nat} {r:List Tk} (h:tokensG tokenR l (f+1) i= .ok r) (h1:(l.drop i).headD 0=40):(r.headD zeroTk).kind=9:=by
 simp only [tokensG] at h
 cases hd:l.drop i with
 |nil=>rw [hd] at h1;cases h1
 |cons c q=>
  rw [hd] at h1 h
  simp only [List.headD_cons] at h1
  subst h1
  obtain ⟨n,hn⟩:=tokenR_open (l:=40::q) rfl
  simp only [hn] at h
  rw [if_neg (by decide)] at h
  cases hr:tokensG tokenR l f (i+n) with
  |error e=>rw [hr] at h;cases h
  |ok r' =>rw [hr] at h;cases h;rfl
theorem tokensG_chain {l:List Int}: ∀ (f i:Nat) (r:List Tk),l.length - i≤f→tokensG tokenR l f i= .ok r→Chain r:=by
 intro f
 induction f with
 |zero=>intro i r _ h;cases h;trivial
 |succ f ih=>
  intro i r hf h
  simp only [tokensG] at h
  cases hd:l.drop i with
  |nil=>rw [hd] at h;cases h;trivial
  |cons c q=>
   rw [hd] at h
   have hlen:(l.drop i).length=q.length+1:=by rw [hd];rfl
   rw [List.length_drop] at hlen
   simp only at h
   split at h
   ·
    exact ih (i+1) r (by omega) h
   ·
    cases ht:tokenR (c::q) with
    |none=>rw [ht] at h;cases h
    |some x=>
     obtain ⟨t,n⟩:=x
     rw [ht] at h
     simp only at h
     have hfit:=tokenR_fits _ t n ht
     cases hr:tokensG tokenR l f (i+n) with
     |error e=>rw [hr] at h;cases h
     |ok r' =>
      rw [hr] at h
      cases h
      have hk:=tokenR_kind ht
      refine ⟨hk.1,fun h7=> ?_,ih (i+n) r' (by omega) hr⟩
      have h40:=hk.2 h7
      rw [← hd,List.drop_drop] at h40
      cases f with
      |zero=>
       have:l.drop (i+n)= []:=by rw [List.drop_eq_nil_iff];omega
       rw [this] at h40;cases h40
      |succ f=>exact tokensG_head hr h40
theorem tokensV_chain (l:List Int):Chain (tokensV tokenR l).1:=by
 unfold tokensV
 split
 ·
  trivial
 ·
  split
  ·
   trivial
  ·
   split
   ·
    rename_i r hr
    exact tokensG_chain _ _ _ (by omega) hr
   ·
    trivial
theorem Chain.drop: ∀ {l:List Tk} (k:Nat),Chain l→Chain (l.drop k)
 |l,0,h=>h
 | [],k+1,h=>h
 |_::_,k+1,h=>Chain.drop k h.2.2
theorem Chain.name {l:List Tk} {fin:Int} (h:Chain l) (h7:(hdT fin l).kind=7):(hdT fin l.tail).kind=9:=by
 cases l with
 |nil=>cases h7
 |cons t r=>
  have h9:=h.2.1 h7
  cases r with
  |nil=>cases h9
  |cons u r=>exact h9
theorem Chain.kind {l:List Tk} {fin:Int} (h:Chain l):(hdT fin l).kind=0↔l= []:=by
 cases l with
 |nil=>exact ⟨fun _=>rfl,fun _=>rfl⟩
 |cons t r=>
  have:=h.1
  constructor
  ·
   intro e
   simp only [hdT,List.headD_cons] at e
   omega
  ·
   intro e;cases e
end Go.SL
namespace Go.SL
open Go Go.Proofs
attribute [local irreducible] W WL WQ WG WA WX WLI WR WT WC VOp RW thn blk cutP scp retP retPP endB FnAt FnIn FnP ceP
instance fldTk1:FldT Tryz.prog 216 1 2 1:=⟨_,_,Tryz.underlying216,rfl,rfl,rfl⟩
instance fldTk4:FldT Tryz.prog 216 4 3 7:=⟨_,_,Tryz.underlying216,rfl,rfl,rfl⟩
def rC (sa:ByteArray) (A:Option Nat) (n cap k:Nat) (B:Option Nat) (m cb:Nat) (at_ e:Int):List Value:= [.string sa,sl A n cap,.int .i64 (k:Int),sl B m cb,.int .i64 at_,.int .i64 e]
def rB (g:Nat) (sa:ByteArray) (A:Option Nat) (cap:Nat) (toks:List Tk) (k:Nat) (B:Option Nat) (cb:Nat) (out:List Nd) (at_ e:Int):List Blk:=
 [.box g 226 (rC sa A toks.length cap k B out.length cb at_ e),.own A 216 8 toks.length cap (toks.flatMap encTk),.own B 136 11 out.length cb (out.flatMap encN)]
theorem rTok {A:Option Nat} {cap:Nat} {toks:List Tk} {w0 w:World} {H:List Blk} (hm:Mem w0 w H) (hi:In (.own A 216 8 toks.length cap (toks.flatMap encTk)) H) {k:Nat} (hk:k<toks.length): ∃ ga,A=some ga∧Ro w ga 0 (toks.flatMap encTk):=by
 obtain ⟨_,_,_,h4⟩:=(hm.on _ hi.mem).1
 cases A with
 |none=>obtain ⟨h5,_⟩:=h4;omega
 |some ga=>exact ⟨ga,rfl,Ro.of_own hm hi⟩
theorem rNext_at (g:Nat) (sa:ByteArray) (hsa:sa.size≤1000) (A:Option Nat) (cap:Nat) (toks:List Tk) (ht1:toks.length≤1000) (k:Nat) (B:Option Nat) (m cb:Nat) (at_ e:Int) (w:World) (hr:Ro w g 0 (rC sa A toks.length cap k B m cb at_ e))
  (ht:k<toks.length→ ∃ ga,A=some ga∧Ro w ga 0 (toks.flatMap encTk)):Pure Tryz.prog 175 [.pointer (some ⟨g,0,none⟩)] w (.agg (encTk (hdT (sa.size:Int) (toks.drop k))).toArray):=by
 refine fn_at Tryz.func175 rfl Tryz.ntmps175 rfl ?_
 unfold rC at hr
 by_cases hlt:k<toks.length
 ·
  rw [hdT_get hlt]
  obtain ⟨ga,rfl,hra⟩:=ht hlt
  have hra' :=hra.elem encTk_len k hlt
  repeat' (first|((with_reducible apply w_draw (id:=1));kernel_rfl;kernel_rfl)|((with_reducible apply wq_v);exact rfl;(with_reducible apply v_load_ro (o:=0) (off:=1));exact hr;exact rfl;exact rfl)|((with_reducible apply wq_v);exact rfl;(with_reducible apply v_load_ro (o:=0) (off:=2));exact hr;exact rfl;exact rfl)|refine sT ?_|refine sS ?_|refine sQ ?_|refine sM fun _=> ?_|(refine sC ?_ ?_<;>intro hb<;>try omega)|(refine sCQ ?_ ?_<;>intro hb<;>try omega)|fail)
  all_goals first|(exfalso;omega)|skip
  rename_i g2
  refine w_drawC (id:=2) [10] [] [] (by kernel_rfl) (by kernel_rfl) (by kernel_rfl) mS ?_
  repeat' (first|((with_reducible apply wc_v);(iterate 3 exact rfl);(with_reducible apply v_load_ro (o:=0) (off:=1));exact hr;exact rfl;exact rfl)|((with_reducible apply wc_v);(iterate 3 exact rfl);(with_reducible apply v_load_ro (o:=0) (off:=2));exact hr;exact rfl;exact rfl)|((with_reducible apply wc_v);(iterate 3 exact rfl);(with_reducible apply v_indexAddr (j:=k));exact rfl;exact rfl;exact hlt)|((with_reducible apply wc_v);(iterate 3 exact rfl);(with_reducible apply v_loadw_ro);exact rfl;exact hra';exact rfl)|refine sT ?_|refine sS ?_|refine sW ?_|refine sM fun _=> ?_|(refine sC ?_ ?_<;>intro hb<;>try omega)|(refine sCW ?_ ?_<;>intro hb<;>try omega)|fail)
  all_goals first|(exfalso;omega)|skip
  (refine eRC ?_)
  rfl
 ·
  rw [hdT_end (by omega)]
  repeat' (first|((with_reducible apply w_draw (id:=1));kernel_rfl;kernel_rfl)|((with_reducible apply wq_v);exact rfl;(with_reducible apply v_load_ro (o:=0) (off:=1));exact hr;exact rfl;exact rfl)|((with_reducible apply wq_v);exact rfl;(with_reducible apply v_load_ro (o:=0) (off:=2));exact hr;exact rfl;exact rfl)|((with_reducible apply wl_v);exact rfl;(with_reducible apply v_load_ro (o:=0) (off:=0));exact hr;exact rfl;exact rfl)|refine sT ?_|refine sS ?_|refine sQ ?_|refine sM fun _=> ?_|(refine sC ?_ ?_<;>intro hb<;>try omega)|(refine sCQ ?_ ?_<;>intro hb<;>try omega)|fail)
  all_goals first|(exfalso;omega)|skip
  (refine eRC ?_)
  rfl
theorem rNext_in {g:Nat} {sa:ByteArray} (hsa:sa.size≤1000) {A:Option Nat} {cap:Nat} {toks:List Tk} (ht1:toks.length≤1000) {k:Nat} {B:Option Nat} {cb:Nat} {out:List Nd} {at_ e:Int} {t:Tk} (hd:hdT (sa.size:Int) (toks.drop k)=t) {H:List Blk} {w0:World} (hH:MSub (rB g sa A cap toks k B cb out at_ e) H) (w:World) (hm:Mem w0 w H):
  Pure Tryz.prog 175 [.pointer (some ⟨g,0,none⟩)] w (.agg (encTk t).toArray):=by
 have hm' :=hH.use hm
 rw [← hd]
 exact rNext_at g sa hsa A cap toks ht1 k B out.length cb at_ e w (Ro.of_box hm' .hd) fun hlt=>rTok hm' (.tl .hd) hlt
theorem rBinds_at (op:Int) (w:World):Pure Tryz.prog 254 [.int .i64 op] w (.tuple #[.int .i64 (bindsE op),.bool (decide (op=5)),.int .i64 (if bindsE op=0 then 2 else 0)]):=by
 refine fn_at Tryz.func254 rfl Tryz.ntmps254 rfl ?_
 repeat' (first|refine sT ?_|refine sM fun _=> ?_|(refine sC ?_ ?_<;>intro hb<;>try omega)|fail)
 all_goals ((refine rT3 ?_);simp_all [bindsE];try omega)
theorem rOp_at (q:Int) {g:Nat} {sa:ByteArray} (hsa:sa.size≤1000) {A:Option Nat} {cap:Nat} {toks:List Tk} (ht1:toks.length≤1000) {k:Nat} {B:Option Nat} {cb:Nat} {out:List Nd} {at_ e:Int} {t:Tk} (hd:hdT (sa.size:Int) (toks.drop k)=t) {H:List Blk} {w0:World} (hH:MSub (rB g sa A cap toks k B cb out at_ e) H) (w:World) (hm:Mem w0 w H):
  Pure Tryz.prog 218 [.pointer (some ⟨g,0,none⟩),.int .i64 q] w (.bool (decide (t.kind=8∧bindsE t.num=q))):=by
 have hm0:=hH.use hm
 refine fn_at Tryz.func218 rfl Tryz.ntmps218 rfl ?_
 have hh: ∀ w' H',Mem w w' H' →Pure Tryz.prog 175 [.pointer (some ⟨g,0,none⟩)] w' (.agg (encTk t).toArray):=fun w' H' hm' =>by
  rw [← hd]
  refine rNext_at g sa hsa A cap toks ht1 k B out.length cb at_ e w' ((Ro.of_box hm0 .hd).next hm') fun hlt=> ?_
  obtain ⟨ga,h1,h2⟩:=rTok hm0 (.tl .hd) hlt
  exact ⟨ga,h1,h2.next hm'⟩
 repeat' (first|((with_reducible apply wl_callp (f:=175));exact rfl;exact rfl;(intro w' hm';exact hh w' _ hm'))|((with_reducible apply wl_callp (f:=254));exact rfl;exact rfl;(intro w' _;exact rBinds_at _ w'))|refine sT ?_|refine sS ?_|refine sM fun _=> ?_|(refine sC ?_ ?_<;>intro hb<;>try omega)|fail)
 all_goals ((refine rT1 ?_);simp_all)
theorem rFault_at (g:Nat) (sa:ByteArray) (A:Option Nat) (n cap k:Nat) (B:Option Nat) (m cb:Nat) (at_ e a2 e2:Int) (R:List Blk) (w0:World):
  FnIn Tryz.prog 174 [.pointer (some ⟨g,0,none⟩),.int .i64 a2,.int .i64 e2] w0 (.box g 226 (rC sa A n cap k B m cb at_ e)::R) fun v H=>v= .tuple #[]∧H= .box g 226 (rC sa A n cap k B m cb (if e=0 then a2 else at_) (if e=0 then e2 else e))::R:=by
 refine fn_in Tryz.func174 rfl Tryz.ntmps174 rfl ?_
 unfold rC
 by_cases he:e=0
 ·
  subst he
  rw [if_pos rfl,if_pos rfl]
  repeat' (first|refine sT ?_|refine sS ?_|refine sM fun _=> ?_|(refine sC ?_ ?_<;>intro hb<;>try omega)|fail)
  all_goals first|(exfalso;omega)|exact ret0 eIO rfl mS ⟨rfl,rfl⟩
 ·
  rw [if_neg he,if_neg he]
  repeat' (first|refine sT ?_|refine sS ?_|refine sM fun _=> ?_|(refine sC ?_ ?_<;>intro hb<;>try omega)|fail)
  all_goals first|(exfalso;omega)|exact ret0 eIO rfl mS ⟨rfl,rfl⟩
theorem rWant_ok (c:Int) {g:Nat} {sa:ByteArray} (hsa:sa.size≤1000) {A:Option Nat} {cap:Nat} {toks:List Tk} (ht1:toks.length≤1000) {k:Nat} (hk1:k≤2000) {B:Option Nat} {cb:Nat} {out:List Nd} {at_ e:Int} {t:Tk} (hd:hdT (sa.size:Int) (toks.drop k)=t) (hc:t.kind=c) (R:List Blk) (w0:World):
  FnIn Tryz.prog 287 [.pointer (some ⟨g,0,none⟩),.int .u8 c] w0 (rB g sa A cap toks k B cb out at_ e++R) fun v H=>v= .tuple #[]∧H=rB g sa A cap toks (k+1) B cb out at_ e++R:=by
 refine fn_in Tryz.func287 rfl Tryz.ntmps287 rfl ?_
 have hh:=fun w hm=>rNext_in (g:=g) hsa ht1 hd (B:=B) (cb:=cb) (out:=out) (at_:=at_) (e:=e) (A:=A) (cap:=cap) (w0:=w0) (H:=rB g sa A cap toks k B cb out at_ e++R) ⟨R,.refl _⟩ w hm
 unfold rB rC at hh ⊢
 repeat' (first|((with_reducible apply wl_v);exact rfl;(with_reducible apply v_field);exact rfl;exact rfl)|((with_reducible apply wl_callp (f:=175));exact rfl;exact rfl;exact hh)|refine sT ?_|refine sS ?_|refine sN ?_|refine sM fun _=> ?_|(refine sC ?_ ?_<;>intro hb<;>try omega)|fail)
 all_goals first
  |(exfalso;omega)
  |exact ret0 eIO rfl (.refl _) ⟨rfl,rfl⟩
theorem rWant_no (c:Int) {g:Nat} {sa:ByteArray} (hsa:sa.size≤1000) {A:Option Nat} {cap:Nat} {toks:List Tk} (ht1:toks.length≤1000) {k:Nat} {B:Option Nat} {cb:Nat} {out:List Nd} {at_ e:Int} {t:Tk} (hd:hdT (sa.size:Int) (toks.drop k)=t) (hc:t.kind≠c) (R:List Blk) (w0:World):
  FnIn Tryz.prog 287 [.pointer (some ⟨g,0,none⟩),.int .u8 c] w0 (rB g sa A cap toks k B cb out at_ e++R) fun v H=>v= .tuple #[]∧H=rB g sa A cap toks k B cb out (if e=0 then t.at_ else at_) (if e=0 then 4 else e)++R:=by
 refine fn_in Tryz.func287 rfl Tryz.ntmps287 rfl ?_
 have hh:=fun w hm=>rNext_in (g:=g) hsa ht1 hd (B:=B) (cb:=cb) (out:=out) (at_:=at_) (e:=e) (A:=A) (cap:=cap) (w0:=w0) (H:=rB g sa A cap toks k B cb out at_ e++R) ⟨R,.refl _⟩ w hm
 unfold rB at hh ⊢
 repeat' (first|((with_reducible apply wl_v);exact rfl;(with_reducible apply v_field);exact rfl;exact rfl)|((with_reducible apply wl_callp (f:=175));exact rfl;exact rfl;exact hh)|((with_reducible apply wl_callin (f:=174));exact rfl;exact rfl;exact FnIn.msub (rFault_at g sa A _ cap k B _ cb at_ e _ _ _ _) (MSub.pick .hd (.refl _));rintro _ _ ⟨rfl,rfl⟩)|refine sT ?_|refine sS ?_|refine sN ?_|refine sM fun _=> ?_|(refine sC ?_ ?_<;>intro hb<;>try omega)|fail)
 all_goals first
  |(exfalso;omega)
  |exact ret0 eIO rfl (.refl _) ⟨rfl,rfl⟩
end Go.SL
