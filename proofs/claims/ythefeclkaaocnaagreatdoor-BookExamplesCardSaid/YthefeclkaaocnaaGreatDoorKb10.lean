/-
  Lemmas and walks, put together: W5 W6 W7 W8 W9 W10 W27 A2 A3.
-/
import Derived.Test.YthefeclkaaocnaaGreatDoorKb09
set_option linter.unusedSimpArgs false
set_option linter.unusedVariables false
set_option maxRecDepth 20000
namespace Go.SL
open Go Go.Proofs
attribute [local irreducible] W WL WQ WG WA VOp thn blk retP FnAt FnIn
def Visits (N:Nat) (w0:World) (f:FuncId) (caps:List Value) (Inv:List Visit→List Blk→Prop):Prop:=
 ∀ (vs:List Visit) (kids:List Nat) (d:Nat) (A:Option Nat) (cap:Nat) (H F:List Blk),Inv vs H→kids.length≤1000→vs.length<N→(∀ k∈kids,k<vs.length)→
  FnIn Tryz.prog f ([.int .i64 (vs.length:Int),sl A kids.length cap,.int .i64 (d:Int)]++caps) w0 (.own A 3 1 kids.length cap (kids.map fun (k:Nat)=> .int .i64 (k:Int))::(H++F))
   fun _ H' => ∃ H1,Inv (vs++ [(kids,d)]) H1∧MSub (H1++F) H'
theorem fields_ok {n:Nd} (h:fieldsE n=0):0≤below n∧below n≤16:=by
 unfold fieldsE at h
 split at h
 ·
  cases h
 ·
  rename_i hk
  split at h
  ·
   rename_i h7
   unfold below
   split
   ·
    omega
   ·
    split
    ·
     omega
    ·
     omega
  ·
   rename_i h7
   have h7' :n.kind=7:=by omega
   have hb:below n=n.n:=by simp [below,h7']
   have hk1:kindOk n=true:=by
    cases hh:kindOk n
    ·
     exact absurd (Or.inl hh) hk
    ·
     rfl
   simp [kindOk,h7'] at hk1
   split at h
   ·
    rename_i ha;omega
   ·
    split at h
    ·
     omega
    ·
     rename_i hc
     have hm:(arity n.fn).2.1≤16:=by
      unfold arity
      (repeat' split)<;>simp
     omega
theorem topOf_length (st:List Pt) (k:Nat) (h:k≤st.length):(topOf st k).length=k:=by simp [topOf];omega
theorem topOf_mem {st:List Pt} {k:Nat} {p:Pt} (h:p∈topOf st k):p∈st:=List.mem_of_mem_drop h
theorem top_reads {w0 w:World} {H:List Blk} {A:Option Nat} {st:List Pt} {cap k:Nat} (hm:Mem w0 w H) (hi:In (.own A 394 3 st.length cap (st.flatMap encP)) H) (h:k≤st.length):
  Reads w (.slice (if cap=st.length - k then A.map fun g=>⟨g,0,none⟩ else (A.map fun g=>(⟨g,0,none⟩:Addr)).map (·.add ((st.length - k)*3))) (st.length - (st.length - k)) (cap - (st.length - k))) (topOf st k).length ((topOf st k).flatMap encP):=by
 have h1:=(Reads.of_own hm hi).cut (lo:=st.length - k) (hi:=st.length) (sz:=3) (by omega) (Nat.le_refl _)
 have e1:st.length - (st.length - k)=(topOf st k).length:=by rw [topOf_length st k h];omega
 rw [flat_drop encP_len,e1] at h1
 have e2:((st.drop (st.length - k)).flatMap encP).take ((topOf st k).length*3)=(topOf st k).flatMap encP:=by
  rw [List.take_of_length_le (by rw [flat_length' encP_len];exact Nat.le_refl _)];rfl
 rw [e2] at h1
 rw [e1]
 exact h1
theorem depthOf_succ (top:List Pt) (j:Nat) (h:j<top.length):depthOf (top.take (j+1))=max (depthOf (top.take j)) (top[j].depth+1):=by
 unfold depthOf
 rw [List.take_succ_eq_append_getElem h,List.foldl_append]
 rfl
theorem depthOf_bound (top:List Pt) (h: ∀ p∈top,p.depth≤32):depthOf top≤33:=by
 have: ∀ (l:List Pt) (d:Nat),d≤33→(∀ p∈l,p.depth≤32)→l.foldl (fun d p=>max d (p.depth+1)) d≤33:=by
  intro l
  induction l with
  |nil=>intro d hd _;simpa using hd
  |cons p r ih=>
   intro d hd hp
   have:=hp p List.mem_cons_self
   exact ih _ (by show max d (p.depth+1)≤33;omega) fun q hq=>hp q (List.mem_cons_of_mem _ hq)
 exact this top 1 (by omega) h
structure WalkSt (L:List Nd) (Inv:List Visit→List Blk→Prop) (i:Nat) (st:List Pt) (vs:List Visit) (Hv:List Blk):Prop where
 le:i≤L.length
 len:vs.length=i
 inv:Inv vs Hv
 rest:walkT L L 0 [] []=walkT L (L.drop i) i st vs
 ok: ∀ p∈st,p.root<i∧p.depth≤32
 small:st.length≤i
set_option maxHeartbeats 2000000 in
theorem walkAt_in (L:List Nd) (hne:0<L.length) (hlen:L.length≤256) (tv:Value) (w0:World) (ht:Reads w0 tv L.length (L.flatMap encN)) (f:FuncId) [hf:Callable Tryz.prog f] (caps:List Value) (Inv:List Visit→List Blk→Prop) (hV:Visits L.length w0 f caps Inv)
  (H:List Blk) (hI:Inv [] H):FnIn Tryz.prog 272 [tv,.func (.func f) #[] caps.toArray] w0 H fun v H' =>v= .int .i64 (walkT L L 0 [] []).1∧Inv (walkT L L 0 [] []).2 H' :=by
 have ht' :=ht
 obtain ⟨At,ct,rfl,ht1,ht2,ht3⟩:=ht
 obtain ⟨gt,ot,rfl,hrt⟩:=ht3 hne
 refine fn_in Tryz.func272 rfl Tryz.ntmps272 rfl ?_
 repeat' (first|refine sT ?_|refine sM fun _=> ?_|(refine sC ?_ ?_<;>intro hb<;>try omega)|fail)
 refine w_nilrow 394 3 ?_
 refine w_loopR (fun (i:Nat) s H=> ∃ st vs A cap Hv,s= [(0,.slice (some ⟨gt,ot,none⟩) L.length ct),(1,.func (.func f) #[] caps.toArray),(5,sl A st.length cap),(14,.slice (some ⟨gt,ot,none⟩) L.length ct),(15,.int .i64 (L.length:Int)),(16,.int .i64 (i:Int))]∧
   H= .own A 394 3 st.length cap (st.flatMap encP)::Hv∧WalkSt L Inv i st vs Hv) (fun i=>L.length - i) 0 ?_ ?_
 ·
  refine ⟨_,_,?_,?_,⟨[],[],none,0,H,rfl,rfl,⟨Nat.zero_le _,rfl,hI,rfl,by simp,Nat.le_refl _⟩⟩⟩
  ·
   exact sB
  ·
   exact mS
 ·
  rintro i _ _ ⟨st,vs,A,cap,Hv,rfl,rfl,hst⟩
  obtain ⟨hle,hvl,hinv,hrest,hok,hsmall⟩:=hst
  by_cases hlt:i<L.length
  ·
   have hrn:=hrt.elem encN_len i hlt
   rw [List.drop_eq_getElem_cons hlt,walkT,stepT] at hrest
   generalize hn:L[i]=n at hrest hrn
   by_cases hfe:fieldsE n=0
   ·
    obtain ⟨hb0,hb16⟩:=fields_ok hfe
    obtain ⟨k,hk⟩:=Int.eq_ofNat_of_zero_le hb0
    rw [if_neg (by simp [hfe]),hk,Int.toNat_natCast] at hrest
    have hbel: ∀ w,Pure Tryz.prog 308 [.agg (encN n).toArray] w (.int .i64 (k:Int)):=fun w=>hk ▸ below_at n w
    have hfie: ∀ w,Pure Tryz.prog 307 [.agg (encN n).toArray] w (.int .i64 0):=fun w=>hfe ▸ fields_at n w
    refine w_row .hd fun hr1 hr2 hr3=> ?_
    repeat' (first|((with_reducible apply wl_v);exact rfl;(with_reducible apply v_indexAddr);exact rfl;exact rfl;exact hlt)|((with_reducible apply wl_v);exact rfl;(with_reducible apply v_loadw_ro);exact rfl;exact hrn;exact rfl)|((with_reducible apply wl_v);exact rfl;(with_reducible apply v_addN);exact rfl;exact rfl;(simp only [maxLen];omega))|((with_reducible apply wl_callp);exact rfl;exact rfl;(intro w hm;exact hfie w))|((with_reducible apply wl_callp);exact rfl;exact rfl;(intro w hm;exact hbel w))|((with_reducible apply w_draw (id:=9));kernel_rfl;kernel_rfl)|((with_reducible apply wq_v);exact rfl;(with_reducible apply v_subN);exact rfl;exact rfl;omega;omega)|((with_reducible apply wl_v);exact rfl;(with_reducible apply v_subN);exact rfl;exact rfl;omega;omega)|((with_reducible apply wq_v);exact rfl;(with_reducible apply v_slice (hi:=st.length));exact rfl;exact ⟨_,rfl⟩;exact rfl;omega;omega)|((with_reducible apply wq_callp);exact rfl;exact rfl;(intro w hm;exact fits_at L n (topOf st k) _ _ w (ht'.of_w0 hm) (top_reads hm pK (by omega)) (fun p hp=>Nat.lt_trans (hok p (topOf_mem hp)).1 hlt) (by rw [topOf_length st k (by omega)];omega)))|refine sT ?_|refine sQ ?_|refine sM fun _=> ?_|(refine sC ?_ ?_<;>intro hb<;>try omega)|(refine sCQ ?_ ?_<;>intro hb<;>try omega)|fail)
    ·
     refine ret1 (.inl rfl) Tryz.results272 rfl (.drop .hd (.drop .hd (.refl _))) ?_
     rw [hrest,if_pos (Or.inl (by omega))]
     exact ⟨rfl,hinv⟩
    ·
     refine ret1 (.inl rfl) Tryz.results272 rfl (.drop .hd (.drop .hd (.refl _))) ?_
     rw [hrest,if_pos (Or.inr hb)]
     exact ⟨rfl,hinv⟩
    have hkl:k≤st.length:=by omega
    rw [if_neg (by intro h;rcases h with h|h;(· omega);(· rw [hb] at h;cases h))] at hrest
    repeat' (first|((with_reducible apply wl_v);exact rfl;(with_reducible apply v_subN);exact rfl;exact rfl;omega;omega)|((with_reducible apply wl_slice (hi:=st.length));exact rfl;exact rfl;exact ⟨_,rfl⟩;exact rfl;omega;omega;(intro B hB))|refine sT ?_|refine sM fun _=> ?_|(refine sC ?_ ?_<;>intro hb<;>try omega)|fail)
    rename_i gn gp
    refine w_nilrow 3 1 ?_
    have htl:=topOf_length st k hkl
    refine w_loopR (fun (j:Nat) s H=> ∃ A2 cap2,s= [(0,.slice (some ⟨gt,ot,none⟩) L.length ct),(1,.func (.func f) #[] caps.toArray),(5,sl A st.length cap),(6,.int .i64 (i:Int)),(9,.int .i64 (k:Int)),(10,.pointer (some ⟨gp,0,none⟩)),(11,sl A2 j cap2),
      (14,.slice (some ⟨gt,ot,none⟩) L.length ct),(15,.int .i64 (L.length:Int)),(16,.int .i64 (i:Int)),(54,.slice B (st.length - (st.length - k)) (cap - (st.length - k))),(55,.int .i64 ((st.length - (st.length - k):Nat):Int)),(56,.int .i64 (j:Int))]∧
      H= .own A2 3 1 j cap2 (((topOf st k).take j).map fun p=> .int .i64 (p.root:Int)):: .box gp 394 [.int .i64 (i:Int),.int .i64 (depthOf ((topOf st k).take j):Int),.bool (decide (n.kind=3))]:: .own A 394 3 st.length cap (st.flatMap encP)::Hv∧j≤k) (fun j=>k - j) 0 ?_ ?_
    ·
     refine ⟨_,_,?_,?_,⟨none,0,rfl,rfl,by omega⟩⟩
     ·
      exact sB
     ·
      exact mS
    ·
     rintro j _ _ ⟨A2,cap2,rfl,rfl,hjk⟩
     by_cases hj:j<k
     ·
      refine w_some (.tl (.tl .hd)) (by omega) fun gs hA=> ?_
      subst hA
      obtain rfl:B=some ⟨gs,0+(st.length - k)*3,none⟩:=by rw [hB,if_neg (by omega)];simp [addr_add]
      have hjt:j<(topOf st k).length:=by omega
      have he:((st.flatMap encP).drop (0+(st.length - k)*3+j*3)).take 3=encP (topOf st k)[j]:=by
       rw [show 0+(st.length - k)*3+j*3=(st.length - k+j)*3 by rw [Nat.add_mul];omega,flat_elem encP_len st _ (by omega)]
       simp [topOf]
      have hd32:(topOf st k)[j].depth≤32:=(hok _ (topOf_mem (List.getElem_mem hjt))).2
      repeat' (first|((with_reducible apply wl_v);exact rfl;(with_reducible apply v_indexAddr);exact rfl;exact rfl;omega)|((with_reducible apply wl_v);exact rfl;(with_reducible apply v_loade_own);exact rfl;exact pK;exact he;exact rfl)|((with_reducible apply wl_v);exact rfl;(with_reducible apply v_succN);exact rfl;exact rfl;(simp only [maxLen];omega))|((with_reducible apply wl_v);exact rfl;(with_reducible apply v_maxN);exact rfl;exact rfl)|((with_reducible apply wl_append);(iterate 3 exact rfl);(repeat first|exact .hd|apply Sel.tl|apply In.tl);(intro w hm;exact hm.cells_own (by (repeat first|exact .hd|apply Sel.tl|apply In.tl)));exact rfl;(simp [Value.oneCell',sl]);omega;(simp only [maxLen];omega);(intro A' cap' hA'))|refine sT ?_|refine sM fun _=> ?_|(refine sC ?_ ?_<;>intro hb<;>try omega)|fail)
      have hk1:((topOf st k).take (j+1)).map (fun p=>Value.int .i64 (p.root:Int))=((topOf st k).take j).map (fun p=>Value.int .i64 (p.root:Int))++ [.int .i64 ((topOf st k)[j].root:Int)]:=by
       rw [List.take_succ_eq_append_getElem hjt,List.map_append];rfl
      refine ⟨j+1,_,_,?_,?_,?_,⟨A',cap',rfl,rfl,hj⟩⟩
      ·
       omega
      ·
       exact sB
      ·
       rw [hk1,depthOf_succ _ _ hjt]
       exact mS
     ·
      have e:j=k:=by omega
      subst e
      have htk:(topOf st j).take j=topOf st j:=List.take_of_length_le (by omega)
      rw [htk]
      have hd33:=depthOf_bound (topOf st j) fun p hp=>(hok p (topOf_mem hp)).2
      repeat' (first|refine sT ?_|refine sM fun _=> ?_|(refine sC ?_ ?_<;>intro hb<;>try omega)|fail)
      ·
       refine ret1 (.inl rfl) Tryz.results272 rfl (.drop .hd (.drop .hd (.drop .hd (.refl _)))) ?_
       rw [hrest,if_pos (by omega)]
       exact ⟨rfl,hinv⟩
      rw [if_neg (by omega)] at hrest
      refine w_shrink (.tl (.tl .hd)) (st.length - j) (by omega) ?_
      refine w_drawA 10 rfl (by kernel_rfl) ?_
      ((with_reducible apply wa_pure (i:=0));exact rfl;exact rfl;decide+kernel;decide+kernel;decide+kernel;exact nP;(intro _ _;exact vP))
      ((with_reducible apply wa_pure (i:=1));exact rfl;exact rfl;decide+kernel;decide+kernel;decide+kernel;exact nP;(intro _ _;exact vP))
      ((with_reducible apply wa_pure (i:=2));exact rfl;exact rfl;decide+kernel;decide+kernel;decide+kernel;exact nP;(intro _ _;exact vP))
      ((with_reducible apply wa_pure (i:=3));exact rfl;exact rfl;decide+kernel;decide+kernel;decide+kernel;exact nP;(intro _ _;exact vP))
      ((with_reducible apply wa_pure (i:=4));exact rfl;exact rfl;decide+kernel;decide+kernel;decide+kernel;exact nP;(intro _ _;exact vP))
      ((with_reducible apply wa_pure (i:=5));exact rfl;exact rfl;decide+kernel;decide+kernel;decide+kernel;exact nP;(intro _ _;exact vP))
      repeat' (first|((with_reducible apply wa_one (i:=6));exact rfl;decide+kernel)|((with_reducible apply wa_one (i:=7));exact rfl;decide+kernel)|((with_reducible apply wa_one (i:=8));exact rfl;decide+kernel)|((with_reducible apply wa_one (i:=9));exact rfl;decide+kernel)|((with_reducible apply wa_done);decide+kernel)|((with_reducible apply wl_append);(iterate 3 exact rfl);(repeat first|exact .hd|apply Sel.tl|apply In.tl);(intro w hm;exact hm.cells_own (by (repeat first|exact .hd|apply Sel.tl|apply In.tl)));exact rfl;(simp [Value.oneCell',sl]);omega;(simp only [maxLen];omega);(intro A' cap' hA'))|refine sT ?_|refine sM fun _=> ?_|(refine sC ?_ ?_<;>intro hb<;>try omega)|fail)
      have hcont:(st.flatMap encP).take ((st.length - j)*3)++ [.int .i64 (i:Int),.int .i64 (depthOf (topOf st j):Int),.bool (decide (n.kind=3))]=(st.take (st.length - j)++ [(⟨i,depthOf (topOf st j),decide (n.kind=3)⟩:Pt)]).flatMap encP:=by
       rw [flat_take encP_len,List.flatMap_append];rfl
      have hvis:=hV vs ((topOf st j).map Pt.root) (depthOf (topOf st j)) A2 cap2 Hv [.own A' 394 3 (st.length - j+1) cap' ((st.take (st.length - j)++ [(⟨i,depthOf (topOf st j),decide (n.kind=3)⟩:Pt)]).flatMap encP)] hinv (by rw [List.length_map];omega) (by omega) (by intro q hq;obtain ⟨p,hp,rfl⟩:=List.mem_map.1 hq;rw [hvl];exact (hok p (topOf_mem hp)).1)
      simp only [List.length_map,htl,hvl,List.map_map] at hvis
      rw [hcont]
      (with_reducible apply wl_callv)
      ·
       exact rfl
      ·
       exact rfl
      ·
       infer_instance
      ·
       exact rfl
      ·
       refine hvis.msub ?_
       refine MSub.pick (T:=_) pK (MSub.snoc pK ?_)
       exact mS
      rintro v H' ⟨H1,hI1,hM1⟩
      repeat' (first|((with_reducible apply wl_v);exact rfl;(with_reducible apply v_succN);exact rfl;exact rfl;(simp only [maxLen];omega))|refine sT ?_|refine sM fun _=> ?_|(refine sC ?_ ?_<;>intro hb<;>try omega)|fail)
      refine ⟨i+1,_,_,?_,?_,?_,⟨st.take (st.length - j)++ [(⟨i,depthOf (topOf st j),decide (n.kind=3)⟩:Pt)],vs++ [((topOf st j).map Pt.root,depthOf (topOf st j))],A',cap',H1,rfl,rfl,⟨?_,?_,?_,?_,?_,?_⟩⟩⟩
      ·
       omega
      ·
       have e1:(st.take (st.length - j)++ [(⟨i,depthOf (topOf st j),decide (n.kind=3)⟩:Pt)]).length=st.length - j+1:=by simp
       rw [e1]
       exact sB
      ·
       have e1:(st.take (st.length - j)++ [(⟨i,depthOf (topOf st j),decide (n.kind=3)⟩:Pt)]).length=st.length - j+1:=by simp
       rw [e1]
       exact hM1.rot
      ·
       omega
      ·
       simp [hvl]
      ·
       exact hI1
      ·
       exact hrest
      ·
       intro p hp
       rcases List.mem_append.1 hp with hp|hp
       ·
        exact ⟨Nat.lt_succ_of_lt (hok p (List.mem_of_mem_take hp)).1,(hok p (List.mem_of_mem_take hp)).2⟩
       ·
        have e:p=⟨i,depthOf (topOf st j),decide (n.kind=3)⟩:=by simpa using hp
        subst e
        exact ⟨Nat.lt_succ_self i,by show depthOf (topOf st j)≤32;omega⟩
      ·
       simp;omega
   ·
    have hfie: ∀ w,Pure Tryz.prog 307 [.agg (encN n).toArray] w (.int .i64 (fieldsE n)):=fun w=>fields_at n w
    rw [if_pos hfe] at hrest
    repeat' (first|((with_reducible apply wl_v);exact rfl;(with_reducible apply v_indexAddr);exact rfl;exact rfl;exact hlt)|((with_reducible apply wl_v);exact rfl;(with_reducible apply v_loadw_ro);exact rfl;exact hrn;exact rfl)|((with_reducible apply wl_callp);exact rfl;exact rfl;(intro w hm;exact hfie w))|refine sT ?_|refine sM fun _=> ?_|(refine sC ?_ ?_<;>intro hb<;>try omega)|fail)
    refine ret1 (.inl rfl) Tryz.results272 rfl (.drop .hd (.drop .hd (.refl _))) ?_
    rw [hrest]
    exact ⟨rfl,hinv⟩
  ·
   have e:i=L.length:=by omega
   subst e
   rw [List.drop_length,walkT] at hrest
   repeat' (first|refine sT ?_|refine sM fun _=> ?_|(refine sC ?_ ?_<;>intro hb<;>try omega)|fail)
   ·
    refine ret1 (.inl rfl) Tryz.results272 rfl (.drop .hd (.refl _)) ?_
    rw [hrest,if_neg (by omega)]
    exact ⟨rfl,hinv⟩
   ·
    refine ret1 (.inl rfl) Tryz.results272 rfl (.drop .hd (.refl _)) ?_
    rw [hrest,if_pos (by omega)]
    exact ⟨rfl,hinv⟩
def checkT (L:List Nd) (wide:Bool):Int × List Visit:=
 if 256<L.length then (5,[]) else if L.length=0 then (4,[])
 else if (walkT L L 0 [] []).1≠0 then walkT L L 0 [] []
 else if wide=false∧kindAt L (L.length - 1)=3 then (4,(walkT L L 0 [] []).2) else (0,(walkT L L 0 [] []).2)
set_option maxHeartbeats 2000000 in
theorem check_in (L:List Nd) (wide:Bool) (tv:Value) (w0:World) (ht:Reads w0 tv L.length (L.flatMap encN)) (f:FuncId) [hf:Callable Tryz.prog f] (caps:List Value) (Inv:List Visit→List Blk→Prop) (hV:Visits L.length w0 f caps Inv)
  (H:List Blk) (hI:Inv [] H):FnIn Tryz.prog 223 [tv,.bool wide,.func (.func f) #[] caps.toArray] w0 H fun v H' =>v= .int .i64 (checkT L wide).1∧Inv (checkT L wide).2 H' :=by
 have ht' :=ht
 obtain ⟨At,ct,rfl,ht1,ht2,ht3⟩:=ht
 refine fn_in Tryz.func223 rfl Tryz.ntmps223 rfl ?_
 by_cases h256:256<L.length
 ·
  repeat' (first|refine sT ?_|refine sM fun _=> ?_|(refine sC ?_ ?_<;>intro hb<;>try omega)|fail)
  refine ret1 (.inl rfl) Tryz.results223 rfl (.refl _) ?_
  rw [checkT,if_pos h256]
  exact ⟨rfl,hI⟩
 by_cases h0:L.length=0
 ·
  repeat' (first|refine sT ?_|refine sM fun _=> ?_|(refine sC ?_ ?_<;>intro hb<;>try omega)|fail)
  refine ret1 (.inl rfl) Tryz.results223 rfl (.refl _) ?_
  rw [checkT,if_neg h256,if_pos h0]
  exact ⟨rfl,hI⟩
 obtain ⟨gt,ot,rfl,hrt⟩:=ht3 (by omega)
 have hw:=walkAt_in L (by omega) (by omega) _ w0 ht' f caps Inv hV H hI
 have hrl:=hrt.elem encN_len (L.length - 1) (by omega)
 have hk:kindAt L (L.length - 1)=(L[L.length - 1]'(by omega)).kind:=kindAt_get _
 simp only [checkT,if_neg h256,if_neg h0,hk]
 generalize walkT L L 0 [] []=r at hw
 generalize (L[L.length - 1]'(by omega))=nl at hrl
 repeat' (first|((with_reducible apply wl_callin);exact rfl;exact rfl;exact hw;(rintro v H' ⟨rfl,hI'⟩))|((with_reducible apply wl_v);exact rfl;(with_reducible apply v_predN);exact rfl;exact rfl;omega;omega)|((with_reducible apply wl_v);exact rfl;(with_reducible apply v_indexAddr);exact rfl;exact rfl;omega)|((with_reducible apply wl_v);exact rfl;(with_reducible apply v_loadf_ro (off:=0));exact rfl;exact hrl;exact rfl)|refine sT ?_|refine sM fun _=> ?_|(refine sC ?_ ?_<;>intro hb<;>try omega)|fail)
 all_goals refine ret1 (.inl rfl) Tryz.results223 rfl (.refl _) ?_
 all_goals simp_all
theorem visits_nothing (N:Nat) (w0:World) (H0:List Blk):Visits N w0 224 [] fun _ H=>H=H0:=by
 rintro vs kids d A cap _ F rfl _ _ _
 refine fn_in Tryz.func224 rfl Tryz.ntmps224 rfl ?_
 repeat' (first|refine sT ?_|refine sM fun _=> ?_|(refine sC ?_ ?_<;>intro hb<;>try omega)|fail)
 refine ret0 (.inr rfl) Tryz.results224 (.drop .hd (.refl _)) ⟨_,rfl,.refl _⟩
def checkE (L:List Nd):Int:=(checkT L false).1
theorem Check_at (L:List Nd) (tv:Value) (w:World) (ht:Reads w tv L.length (L.flatMap encN)):Pure Tryz.prog 180 [tv] w (.int .i64 (checkE L)):=by
 have ht' :=ht
 obtain ⟨At,ct,rfl,ht1,ht2,ht3⟩:=ht
 refine fn_at Tryz.func180 rfl Tryz.ntmps180 rfl ?_
 have hw:=check_in L false _ w ht' 224 [] (fun _ H=>H= []) (visits_nothing _ w []) [] rfl
 repeat' (first|((with_reducible apply wl_callin);exact rfl;exact rfl;exact hw;(rintro v H' ⟨rfl,rfl⟩))|refine sT ?_|refine sM fun _=> ?_|(refine sC ?_ ?_<;>intro hb<;>try omega)|fail)
 (refine rT1 ?_)
 rfl
theorem eq_drop {α:Type} [DecidableEq α] {L M:List α} {i:Nat} (h1:i<L.length) (h2:i<M.length):decide (L.drop i=M.drop i)=(decide (L[i]=M[i]) && decide (L.drop (i+1)=M.drop (i+1))):=by
 rw [List.drop_eq_getElem_cons h1,List.drop_eq_getElem_cons h2]
 simp only [List.cons.injEq,Bool.decide_and]
def k1:Nd:=⟨1,⟨1,50000,emptyB⟩,zeroR,0,0,0⟩
def k2:Nd:=⟨2,zeroV,⟨1,1,1,1⟩,0,0,0⟩
def k3:Nd:=⟨3,zeroV,⟨1,1,2,2⟩,0,0,0⟩
def k6:Nd:=⟨6,zeroV,zeroR,1,0,0⟩
def j7:Nd:=⟨7,zeroV,zeroR,0,46,1⟩
theorem Reads.of_row {w0 w:World} {H:List Blk} {g t sz m c:Nat} {xs:List Value} (hm:Mem w0 w H) (hi:In (.own (some g) t sz m c xs) H):Reads w (.slice (some ⟨g,0,none⟩) m c) m xs:=Reads.of_own hm hi
end Go.SL
namespace Go.SL
open Go Go.Proofs
attribute [local irreducible] W WL WQ WG WA VOp thn blk cutP retP FnAt FnIn
def rangesF (n:Nd):Bool:=decide (n.kind=2)||decide (n.kind=3)
theorem encR_len (r:Rct):(encR r).length=4:=rfl
theorem all_at (L:List Rct) (lv:Value) (w:World) (hl:Reads w lv L.length (L.flatMap encR)):Pure Tryz.prog 163 [lv] w (.bool (L.all rectOk)):=by
 obtain ⟨Al,cl,rfl,hl1,hl2,hl3⟩:=hl
 refine fn_at Tryz.func163 rfl Tryz.ntmps163 rfl ?_
 repeat' (first|refine sT ?_|refine sM fun _=> ?_|(refine sC ?_ ?_<;>intro hb<;>try omega)|fail)
 refine w_loop (fun i:Nat=> [(5,.slice Al L.length cl),(6,.int .i64 (L.length:Int)),(7,.int .i64 (i:Int))]) (fun _=> []) (fun i=>i≤L.length∧L.all rectOk=(L.drop i).all rectOk) (fun i=>L.length - i) 0 ⟨by omega,rfl⟩ ?_ ?_ ?_
 ·
  exact sB
 ·
  exact mS
 ·
  rintro i ⟨hi,hrec⟩
  by_cases hlt:i<L.length
  ·
   obtain ⟨gl,ol,rfl,hrl⟩:=hl3 (by omega)
   have he1:=hrl.elem encR_len i hlt
   rw [List.drop_eq_getElem_cons hlt,List.all_cons] at hrec
   generalize L[i]=r at hrec he1
   repeat' (first|((with_reducible apply wl_callp);exact rfl;exact rfl;(intro w hm;exact rect_at r w))|refine sT ?_|refine sN ?_|refine sO ?_|refine sM fun _=> ?_|(refine sC ?_ ?_<;>intro hb<;>try omega)|fail)
   ·
    (refine rT1 ?_)
    rw [hrec]
    cases hq:rectOk r<;>simp [rectE,hq] at hb ⊢
   ·
    refine ⟨i+1,⟨by omega,?_⟩,by omega,?_,?_⟩
    ·
     rw [hrec]
     cases hq:rectOk r<;>simp [rectE,hq] at hb ⊢
    ·
     exact sB
    ·
     exact mS
  ·
   have e:i=L.length:=by omega
   subst e
   repeat' (first|refine sT ?_|refine sM fun _=> ?_|(refine sC ?_ ?_<;>intro hb<;>try omega)|fail)
   (refine rT1 ?_)
   rw [hrec,List.drop_length]
   rfl
def meetM (a b:Rct):Rct:=⟨if a.c1<b.c1 then b.c1 else a.c1,if a.r1<b.r1 then b.r1 else a.r1,if b.c2<a.c2 then b.c2 else a.c2,if b.r2<a.r2 then b.r2 else a.r2⟩
def meetR (a b:Rct):Rct × Bool:=if [a,b,meetM a b].all rectOk=true then (meetM a b,true) else (zeroR,false)
theorem Meet_at (a b:Rct) (w:World):Pure Tryz.prog 130 [.agg (encR a).toArray,.agg (encR b).toArray] w (.tuple #[.agg (encR (meetR a b).1).toArray,.bool (meetR a b).2]):=by
 refine fn_at Tryz.func130 rfl Tryz.ntmps130 rfl ?_
 have hall:=fun (lv:Value) (w:World)=>all_at [a,b,meetM a b] lv w
 unfold meetR
 generalize [a,b,meetM a b].all rectOk=q at hall
 repeat' (first|((with_reducible apply wl_callp);exact rfl;exact rfl;(intro w hm;exact hall _ w (Reads.of_row hm pK)))|refine sT ?_|refine sM fun _=> ?_|(refine sC ?_ ?_<;>intro hb<;>try omega)|fail)
 ·
  refine retct (.inl rfl) Tryz.results130 rfl pK rfl rfl (MSub.nil _) ?_
  simp [hb,zeroR,encR]
 ·
  refine retct (.inl rfl) Tryz.results130 rfl pK rfl rfl (MSub.nil _) ?_
  simp [hb,meetM,encR]
structure Pc where
 m0:Int
 m1:Int
 v0:Int
 v1:Int
 ok:Bool
def encPc (p:Pc):List Value:= [.int .i64 p.m0,.int .i64 p.m1,.int .i64 p.v0,.int .i64 p.v1,.bool p.ok]
def pcLet (p:Pc) (c:Int):Pc:=⟨p.m0+1,p.m1,min (26*p.v0+(c - 65)+1) 1025,p.v1,p.ok && decide (p.m1=0)⟩
def pcDig (p:Pc) (c:Int):Pc:=⟨p.m0,p.m1+1,p.v0,min (10*p.v1+(c - 48)) 1025,p.ok && (decide (c≠48)||decide (0<p.m1))⟩
structure Pc.Fit (p:Pc) (n:Int):Prop where
 m0:0≤p.m0∧p.m0≤n
 m1:0≤p.m1∧p.m1≤n
 v0:0≤p.v0∧p.v0≤1025
 v1:0≤p.v1∧p.v1≤1025
theorem min_if (a b:Int):(if b<a then b else a)=min a b:=by omega
theorem addLet_at (p:Pc) (c:Int) (n:Int) (hf:p.Fit n) (hn:n≤1000000) (h1:65≤c) (h2:c≤90) (g:Nat) (R:List Blk) (w0:World):
  FnIn Tryz.prog 331 [.pointer (some ⟨g,0,none⟩),.int .u8 c,.bool true] w0 (.box g 398 (encPc p)::R) fun v H=>v= .tuple #[]∧H= .box g 398 (encPc (pcLet p c))::R:=by
 refine fn_in Tryz.func331 rfl Tryz.ntmps331 rfl ?_
 obtain ⟨a1,a2⟩:=hf.m0
 obtain ⟨a3,a4⟩:=hf.m1
 obtain ⟨a5,a6⟩:=hf.v0
 obtain ⟨a7,a8⟩:=hf.v1
 have hwc:IntKind.u8.wrap (c - 65)=c - 65:=wrap_u8 (by omega) (by omega)
 have hwc2:IntKind.i64.wrap (c - 65)=c - 65:=I64.wrap ⟨by omega,by omega⟩
 repeat' (first|(refine w_cutG (id:=1) (ι:=Bool) (fun _=> [(0,.pointer (some ⟨g,0,none⟩)),(1,.int .u8 c)]) (fun b=> .box g 398 [.int .i64 p.m0,.int .i64 p.m1,.int .i64 p.v0,.int .i64 p.v1,.bool b]::R) (fun b=>b=(p.ok && decide (p.m1=0))) ?_ ?_)|refine sT ?_|refine sT2 ?_|refine sG2 ?_|refine sJ ?_|refine sJG ?_|refine sG ?_|refine sM fun _=> ?_|(refine sC ?_ ?_<;>intro hb<;>try omega)|exact cT|fail)
 ·
  (apply cut_n;rotate_left 1;exact sB;exact mS)
  rw [hb];rfl
 ·
  (apply cut_n;rotate_left 1;exact sB;exact mS)
  rw [hb];rfl
 rintro _ rfl
 repeat' (first|(refine w_drawL (id:=2) 9 (.box g 398 [.int .i64 (p.m0+1),.int .i64 p.m1,.int .i64 p.v0,.int .i64 p.v1,.bool (p.ok && decide (p.m1=0))]::R) (by kernel_rfl) (by kernel_rfl) rfl ?_)|(refine w_drawL (id:=3) 16 (.box g 398 [.int .i64 (p.m0+1),.int .i64 p.m1,.int .i64 (min (26*p.v0+(c - 65)+1) 1025),.int .i64 p.v1,.bool (p.ok && decide (p.m1=0))]::R) (by kernel_rfl) (by kernel_rfl) rfl ?_)|((with_reducible apply wg_l (f:=60));exact rfl;decide+kernel;exact rfl;(with_reducible apply v_subw_id);exact rfl;exact rfl;exact hwc)|((with_reducible apply wg_l (f:=60));exact rfl;decide+kernel;exact rfl;(with_reducible apply v_conv_to);exact rfl;exact hwc2)|((with_reducible apply wg_lset_box);exact rfl;exact rfl;exact .hd;exact rfl;exact rfl;(try rw [min_if]);exact .refl _)|refine sT ?_|refine sT2 ?_|refine sG2 ?_|refine sJ ?_|refine sJG ?_|refine sG ?_|refine sM fun _=> ?_|(refine sC ?_ ?_<;>intro hb<;>try omega)|exact cT|fail)
 exact ret0 (.inl rfl) rfl (.refl _) ⟨rfl,rfl⟩
theorem addDig_at (p:Pc) (c:Int) (n:Int) (hf:p.Fit n) (hn:n≤1000000) (h1:48≤c) (h2:c≤57) (g:Nat) (R:List Blk) (w0:World):
  FnIn Tryz.prog 331 [.pointer (some ⟨g,0,none⟩),.int .u8 c,.bool false] w0 (.box g 398 (encPc p)::R) fun v H=>v= .tuple #[]∧H= .box g 398 (encPc (pcDig p c))::R:=by
 refine fn_in Tryz.func331 rfl Tryz.ntmps331 rfl ?_
 obtain ⟨a1,a2⟩:=hf.m0
 obtain ⟨a3,a4⟩:=hf.m1
 obtain ⟨a5,a6⟩:=hf.v0
 obtain ⟨a7,a8⟩:=hf.v1
 have hwc:IntKind.u8.wrap (c - 48)=c - 48:=wrap_u8 (by omega) (by omega)
 have hwc2:IntKind.i64.wrap (c - 48)=c - 48:=I64.wrap ⟨by omega,by omega⟩
 repeat' (first|(refine w_cutG (id:=4) (ι:=Bool) (fun _=> [(0,.pointer (some ⟨g,0,none⟩)),(1,.int .u8 c)]) (fun b=> .box g 398 [.int .i64 p.m0,.int .i64 p.m1,.int .i64 p.v0,.int .i64 p.v1,.bool b]::R) (fun b=>b=(p.ok && (decide (c≠48)||decide (0<p.m1)))) ?_ ?_)|refine sT ?_|refine sT2 ?_|refine sG2 ?_|refine sJ ?_|refine sJG ?_|refine sG ?_|refine sM fun _=> ?_|(refine sC ?_ ?_<;>intro hb<;>try omega)|exact cT|fail)
 ·
  (apply cut_n;rotate_left 1;exact sB;exact mS)
  rename_i h3
  rw [h3,decide_eq_true hb];rfl
 ·
  (apply cut_n;rotate_left 1;exact sB;exact mS)
  rename_i h3
  rw [h3,decide_eq_false hb];rfl
 ·
  (apply cut_n;rotate_left 1;exact sB;exact mS)
  rw [hb];rfl
 rintro _ rfl
 repeat' (first|(refine w_drawL (id:=5) 9 (.box g 398 [.int .i64 p.m0,.int .i64 (p.m1+1),.int .i64 p.v0,.int .i64 p.v1,.bool (p.ok && (decide (c≠48)||decide (0<p.m1)))]::R) (by kernel_rfl) (by kernel_rfl) rfl ?_)|(refine w_drawL (id:=6) 15 (.box g 398 [.int .i64 p.m0,.int .i64 (p.m1+1),.int .i64 p.v0,.int .i64 (min (10*p.v1+(c - 48)) 1025),.bool (p.ok && (decide (c≠48)||decide (0<p.m1)))]::R) (by kernel_rfl) (by kernel_rfl) rfl ?_)|((with_reducible apply wg_l (f:=60));exact rfl;decide+kernel;exact rfl;(with_reducible apply v_subw_id);exact rfl;exact rfl;exact hwc)|((with_reducible apply wg_l (f:=60));exact rfl;decide+kernel;exact rfl;(with_reducible apply v_conv_to);exact rfl;exact hwc2)|((with_reducible apply wg_lset_box);exact rfl;exact rfl;exact .hd;exact rfl;exact rfl;(try rw [min_if]);exact .refl _)|refine sT ?_|refine sT2 ?_|refine sG2 ?_|refine sJ ?_|refine sJG ?_|refine sG ?_|refine sM fun _=> ?_|(refine sC ?_ ?_<;>intro hb<;>try omega)|exact cT|fail)
 exact ret0 (.inr rfl) rfl (.refl _) ⟨rfl,rfl⟩
def pcStep (p:Pc) (c:Int):Pc:=if 65≤upC c∧upC c≤90 then pcLet p (upC c) else if 48≤c∧c≤57 then pcDig p c else ⟨p.m0,p.m1,p.v0,p.v1,false⟩
def pc0:Pc:=⟨0,0,0,0,true⟩
theorem pcStep_low {p:Pc} {c:Int} (h1:97≤c) (h2:c≤122):pcStep p c=pcLet p (c - 32):=by
 have e:upC c=c - 32:=by rw [upC,if_pos ⟨h1,h2⟩]
 rw [pcStep,e,if_pos (by omega)]
theorem pcStep_up {p:Pc} {c:Int} (h1:65≤c) (h2:c≤90):pcStep p c=pcLet p c:=by
 have e:upC c=c:=by rw [upC,if_neg (by omega)]
 rw [pcStep,e,if_pos (by omega)]
theorem upC_not {c:Int} (h: ¬ (97≤c∧c≤122)):upC c=c:=by rw [upC,if_neg h]
theorem pcStep_dig {p:Pc} {c:Int} (h1:48≤c) (h2:c≤57):pcStep p c=pcDig p c:=by
 rw [pcStep,upC_not (by omega),if_neg (by omega),if_pos ⟨h1,h2⟩]
theorem pcStep_no {p:Pc} {c:Int} (h: ¬ (97≤c∧c≤122)) (h2: ¬ (65≤c∧c≤90)) (h3: ¬ (48≤c∧c≤57)):pcStep p c=⟨p.m0,p.m1,p.v0,p.v1,false⟩:=by
 rw [pcStep,upC_not h,if_neg h2,if_neg h3]
theorem pcStep_fit {p:Pc} {n:Int} (h:p.Fit n) (c:Int):(pcStep p c).Fit (n+1):=by
 obtain ⟨⟨a1,a2⟩,⟨a3,a4⟩,⟨a5,a6⟩,⟨a7,a8⟩⟩:=h
 unfold pcStep
 split
 ·
  exact ⟨⟨by simp only [pcLet];omega,by simp only [pcLet];omega⟩,⟨a3,by simp only [pcLet];omega⟩,⟨by simp only [pcLet];omega,by simp only [pcLet];omega⟩,⟨a7,a8⟩⟩
 ·
  split
  ·
   exact ⟨⟨a1,by simp only [pcDig];omega⟩,⟨by simp only [pcDig];omega,by simp only [pcDig];omega⟩,⟨a5,a6⟩,⟨by simp only [pcDig];omega,by simp only [pcDig];omega⟩⟩
  ·
   exact ⟨⟨a1,by dsimp only;omega⟩,⟨a3,by dsimp only;omega⟩,⟨a5,a6⟩,⟨a7,a8⟩⟩
def pcOf (l:List Int):Pc:=l.foldl pcStep pc0
theorem addrRead_at (a:ByteArray) (ha:a.size≤100000) (w:World):Pure Tryz.prog 313 [.string a] w (.agg (encPc (pcOf (ints a))).toArray):=by
 refine fn_at Tryz.func313 rfl Tryz.ntmps313 rfl ?_
 have hl:=ints_length a
 repeat' (first|refine sT ?_|refine sT2 ?_|refine sM fun _=> ?_|(refine sC ?_ ?_<;>intro hb<;>try omega)|exact cT|fail)
 rename_i g2 g3
 refine w_loopK [0,2,3,9] rfl (fun x:Nat × Pc=> [(10,.int .i64 (x.1:Int))]) (fun x=> [.box g3 398 (encPc x.2),.box g2 398 [.int .i64 0,.int .i64 0,.int .i64 0,.int .i64 0,.bool false]]) (fun x=>x.1≤a.size∧x.2.Fit x.1∧pcOf (ints a)=((ints a).drop x.1).foldl pcStep x.2) (fun x=>a.size - x.1) (0,pc0) ⟨Nat.zero_le _,⟨⟨by decide,by decide⟩,⟨by decide,by decide⟩,⟨by decide,by decide⟩,⟨by decide,by decide⟩⟩,rfl⟩ sB mS ?_
 rintro ⟨i,p⟩ ⟨hi,hf,hr⟩
 dsimp only at hi hf hr ⊢
 by_cases hlt:i<a.size
 ·
  rw [bat_drop hlt,List.foldl_cons] at hr
  have hc:=bat_ok a i
  generalize hcd:bat a i=c at hr hc
  have hf2:=pcStep_fit hf c
  repeat' (first|((with_reducible apply wl_v (d:=15));exact rfl;exact hcd ▸ v_idx rfl rfl hlt)|((with_reducible apply wl_v (d:=38));exact rfl;(with_reducible apply v_subw_id);exact rfl;exact rfl;exact wrap_u8 (by omega) (by omega))|((with_reducible apply wl_callin (d:=41));exact rfl;exact rfl;(first|exact FnIn.msub (addLet_at p _ _ hf (by omega) (by omega) (by omega) _ _ _) (.pick pK (.refl _))|exact FnIn.msub (addDig_at p _ _ hf (by omega) (by omega) (by omega) _ _ _) (.pick pK (.refl _)));rintro _ _ ⟨rfl,rfl⟩)|refine sT ?_|refine sT2 ?_|refine sN ?_|refine sM fun _=> ?_|(refine sC ?_ ?_<;>intro hb<;>try omega)|exact cT|fail)
  all_goals
   refine ⟨(i+1,pcStep p c),⟨hlt,by have:=hf2;simpa using this,hr⟩,(by dsimp only;omega),sB,sB,?_⟩
   dsimp only
   first
   |(rw [pcStep_low (by omega) (by omega)];exact mS;done)
   |(rw [pcStep_up (by omega) (by omega)];exact mS;done)
   |(rw [pcStep_dig (by omega) (by omega)];exact mS;done)
   |(rw [pcStep_no (by omega) (by omega) (by omega)];exact mS;done)
 ·
  have e:i=a.size:=by omega
  subst e
  rw [List.drop_of_length_le (by omega),List.foldl_nil] at hr
  rw [hr]
  repeat' (first|refine sT ?_|refine sT2 ?_|refine sM fun _=> ?_|(refine sC ?_ ?_<;>intro hb<;>try omega)|exact cT|fail)
  exact retc (.inl rfl) rfl rfl .hd rfl (MSub.nil _) rfl
def addrP (l:List Int):Int × Int × Int:=
 if (pcOf l).ok=false∨(pcOf l).m0=0∨(pcOf l).m1=0 then (0,0,4)
 else if valid (pcOf l).v0 (pcOf l).v1 then ((pcOf l).v0,(pcOf l).v1,0) else (0,0,3)
theorem addrParse_at (a:ByteArray) (ha:a.size≤100000) (w:World):Pure Tryz.prog 284 [.string a] w (.tuple #[.agg #[.int .i64 (addrP (ints a)).1,.int .i64 (addrP (ints a)).2.1],.int .i64 (addrP (ints a)).2.2]):=by
 refine fn_at Tryz.func284 rfl Tryz.ntmps284 rfl ?_
 unfold addrP
 generalize hp:pcOf (ints a)=p
 have hR:=addrRead_at a ha
 rw [hp] at hR
 repeat' (first|((with_reducible apply wl_callp);exact rfl;exact rfl;(intro w hm;exact hR w))|((with_reducible apply wl_callp);exact rfl;exact rfl;(intro w hm;exact valid_at p.v0 p.v1 w))|refine sT ?_|refine sT2 ?_|refine sM fun _=> ?_|(refine sC ?_ ?_<;>intro hb<;>try omega)|exact cT|fail)
 all_goals
  (refine eRCT ?_)
  simp_all
def lessF (a b:Rf):Bool:=decide (a.row<b.row)||(decide (a.row=b.row) && decide (a.col<b.col))
theorem Less_at (a b:Rf) (w:World):Pure Tryz.prog 60 [.agg (encF a).toArray,.agg (encF b).toArray] w (.bool (lessF a b)):=by
 refine fn_at Tryz.func60 rfl Tryz.ntmps60 rfl ?_
 repeat' (first|refine sT ?_|refine sM fun _=> ?_|(refine sC ?_ ?_<;>intro hb<;>try omega)|exact cT|fail)
 all_goals ((refine rT1 ?_);((try simp only [← Int.not_lt] at*);simp_all [lessF, -Int.not_lt, -Int.not_le,← Int.not_lt]))
theorem One_at (a:Rf) (w:World):Pure Tryz.prog 140 [.agg (encF a).toArray] w (.agg (encR (oneA a.col a.row)).toArray):=by
 refine fn_at Tryz.func140 rfl Tryz.ntmps140 rfl ?_
 repeat' (first|refine sT ?_|refine sM fun _=> ?_|(refine sC ?_ ?_<;>intro hb<;>try omega)|exact cT|fail)
 (refine eRC ?_)
 rfl
def hasR (r:Rct) (a:Rf):Bool:=decide (r.c1≤a.col) && decide (a.col≤r.c2) && decide (r.r1≤a.row) && decide (a.row≤r.r2)
theorem Has_at (r:Rct) (a:Rf) (w:World):Pure Tryz.prog 59 [.agg (encR r).toArray,.agg (encF a).toArray] w (.bool (hasR r a)):=by
 refine fn_at Tryz.func59 rfl Tryz.ntmps59 rfl ?_
 repeat' (first|refine sT ?_|refine sM fun _=> ?_|(refine sC ?_ ?_<;>intro hb<;>try omega)|exact cT|fail)
 all_goals ((refine rT1 ?_);((try simp only [← Int.not_lt] at*);simp_all [hasR, -Int.not_lt, -Int.not_le,← Int.not_lt]))
end Go.SL
namespace Go.SL
open Go Go.Proofs
attribute [local irreducible] W WL WQ WG WA VOp thn blk cutP scp retP FnAt FnIn
set_option maxRecDepth 10000 in
theorem changedC_at (f:FuncId) [Callable Tryz.prog f] (caps:List Value) (g:Int→Int) (a:ByteArray) (ha:a.size≤1000000) (w:World) (hf: ∀ c w' H,0≤c→c<256→Mem w w' H→Pure Tryz.prog f ([.int .u8 c]++caps) w' (.int .u8 (g c))):
  FnAt Tryz.prog 231 [.string a,.func (.func f) #[] caps.toArray] w fun v H=> ∃ gb cap,v= .slice (some ⟨gb,0,none⟩) a.size cap∧H= [.byt gb 5 a.size cap (((ints a).map g).map (Value.int .u8))]:=by
 refine fn_at Tryz.func231 rfl Tryz.ntmps231 rfl ?_
 repeat' (first|((with_reducible apply wl_toBytes);exact rfl;exact rfl;intro gb cap)|refine sT ?_|refine sM fun _=> ?_|(refine sC ?_ ?_<;>intro hb<;>try omega)|fail)
 refine w_loop (fun i:Nat=> [(5,.slice (some ⟨gb,0,none⟩) a.size cap),(10,.slice (some ⟨gb,0,none⟩) a.size cap),(11,.int .i64 (a.size:Int)),(12,.int .i64 (i:Int)),(1,.func (.func f) #[] caps.toArray)])
  (fun i=> [.byt gb 5 a.size cap ((((ints a).take i).map g++(ints a).drop i).map (Value.int .u8))]) (fun i=>i≤a.size) (fun i=>a.size - i) 0 (by omega) ?_ ?_ ?_
 ·
  exact sB
 ·
  rw [bytesV_eq];simp only [List.take_zero,List.map_nil,List.nil_append,List.drop_zero];exact mS
 ·
  intro i hi
  have hl:=ints_length a
  by_cases hlt:i<a.size
  ·
   have hil:i<(ints a).length:=by omega
   have hok:=ints_ok a (ints a)[i] (List.getElem_mem hil)
   have hget:((((ints a).take i).map g++(ints a).drop i).map (Value.int .u8))[0+i*1]? =some (.int .u8 (ints a)[i]):=by
    rw [List.getElem?_map,show 0+i*1=i by omega,List.getElem?_append_right (by simp;omega)]
    simp [Nat.min_eq_left (Nat.le_of_lt hil),List.getElem?_drop]
   repeat' (first|((with_reducible apply wl_v);exact rfl;(with_reducible apply v_indexAddr);exact rfl;exact rfl;exact hlt)|((with_reducible apply wl_v);exact rfl;(with_reducible apply v_load_byt);exact rfl;exact .hd;exact hget)|((with_reducible apply wl_callvp);exact rfl;exact rfl;infer_instance;exact rfl;(intro w' hm;exact hf _ w' _ hok.1 hok.2 hm))|((with_reducible apply wl_store_byt);exact rfl;exact rfl;exact .hd;exact rfl;(simp;omega))|((with_reducible apply wl_v);exact rfl;(with_reducible apply v_add);exact rfl;exact rfl;(constructor<;>omega))|refine sT ?_|refine sM fun _=> ?_|(refine sC ?_ ?_<;>intro hb<;>try omega)|fail)
   refine ⟨i+1,by omega,by omega,?_,?_⟩
   ·
    exact sB
   ·
    rw [show 0+i*1=i by omega,upd_step g (Value.int .u8) (ints a) i hil]
    exact mS
  ·
   have e:i=a.size:=by omega
   subst e
   repeat' (first|refine sT ?_|refine sM fun _=> ?_|(refine sC ?_ ?_<;>intro hb<;>try omega)|fail)
   refine ret1 (.inl rfl) rfl rfl (.refl _) ⟨gb,cap,rfl,?_⟩
   rw [List.take_of_length_le (by omega),List.drop_of_length_le (by omega),List.append_nil]
set_option maxRecDepth 10000 in
theorem moved1_at (c:Int) (h0:0≤c) (h1:c<256) (ga gb:Nat) (w:World) (ha:Ro w ga 0 [.int .u8 97]) (hb' :Ro w gb 0 [.int .i64 (-32)]):Pure Tryz.prog 310 [.int .u8 c,.pointer (some ⟨ga,0,none⟩),.pointer (some ⟨gb,0,none⟩)] w (.int .u8 (upC c)):=by
 refine fn_at Tryz.func310 rfl Tryz.ntmps310 rfl ?_
 have hwc:IntKind.i64.wrap c=c:=I64.wrap ⟨by omega,by omega⟩
 have h122:IntKind.u8.wrap (97+25)=122:=by decide
 repeat' (first|((with_reducible apply wl_v);exact rfl;(with_reducible apply v_load_ro (off:=0));exact ha;exact rfl;exact rfl)|((with_reducible apply wl_v);exact rfl;(with_reducible apply v_load_ro (off:=0));exact hb';exact rfl;exact rfl)|((with_reducible apply wl_v);exact rfl;(with_reducible apply v_addw_id);exact rfl;exact rfl;exact h122)|((with_reducible apply wl_v (d:=15));exact rfl;(with_reducible apply v_conv_to);exact rfl;exact hwc)|((with_reducible apply wl_v (d:=17));exact rfl;(with_reducible apply v_add);exact rfl;exact rfl;exact ⟨by omega,by omega⟩)|((with_reducible apply wl_v (d:=18));exact rfl;(with_reducible apply v_conv_to (c:=c - 32));exact rfl;(rw [show c+ -32=c - 32 by omega];exact wrap_u8 (by omega) (by omega)))|refine sT ?_|refine sM fun _=> ?_|(refine sC ?_ ?_<;>intro hb<;>try omega)|fail)
 all_goals ((refine rT1 ?_);unfold upC;first|rw [if_pos (by omega)]|rw [if_neg (by omega)])
def upB (a:ByteArray):ByteArray:=mkB ((ints a).map upC)
theorem ints_upB (a:ByteArray):ints (upB a)=(ints a).map upC:=by
 refine ints_mkB ?_
 intro c hc
 obtain ⟨d,hd,rfl⟩:=List.mem_map.1 hc
 have:=ints_ok a d hd
 unfold upC
 split<;>omega
set_option maxRecDepth 10000 in
theorem moved_at (a:ByteArray) (ha:a.size≤1000000) (w:World):Pure Tryz.prog 277 [.string a,.int .u8 97,.int .i64 (-32)] w (.string (upB a)):=by
 refine fn_at Tryz.func277 rfl Tryz.ntmps277 rfl ?_
 repeat' (first|((with_reducible apply wl_call (R:=fun v H=> ∃ gb cap,v= .slice (some ⟨gb,0,none⟩) a.size cap∧H= [.byt gb 5 a.size cap (((ints a).map upC).map (Value.int .u8))]));exact rfl;exact rfl;(intro w' hm;exact changedC_at 310 [_,_] upC a ha w' (fun c w2 H2 h0 h1 hm2=>moved1_at c h0 h1 _ _ w2 ((Ro.of_box hm pK).next hm2) ((Ro.of_box hm pK).next hm2)));(rintro v H' ⟨gb,cap,rfl,rfl⟩))|((with_reducible apply wl_v);exact rfl;(with_reducible apply v_ofBytes);exact rfl;exact .hd;simp [ints_length])|refine sT ?_|refine sM fun _=> ?_|(refine sC ?_ ?_<;>intro hb<;>try omega)|fail)
 (refine rT1 ?_)
 rfl
set_option maxRecDepth 10000 in
theorem Upper_at (a:ByteArray) (ha:a.size≤1000000) (w:World):Pure Tryz.prog 240 [.string a] w (.string (upB a)):=by
 refine fn_at Tryz.func240 rfl Tryz.ntmps240 rfl ?_
 repeat' (first|((with_reducible apply wl_callp);exact rfl;exact rfl;(intro w hm;exact moved_at a ha w))|refine sT ?_|refine sM fun _=> ?_|(refine sC ?_ ?_<;>intro hb<;>try omega)|fail)
 (refine rT1 ?_)
 rfl
def unqL:List Int→Option (List Int)
 | []=>some []
 |c::r=>if c≠34 then (unqL r).map (c:: ·) else match r with
  | []=>none
  |d::r' =>if d=34 then (unqL r').map (34:: ·) else none
def unquoteL (l:List Int):List Int × Int:=
 if l.length<2∨l.head? ≠some 34∨l.getLast? ≠some 34∨l.all (fun c=>plainC c)=false then ([],4)
 else match unqL ((l.drop 1).dropLast) with
  |none=>([],4)
  |some r=>if 256<r.length then ([],5) else (r,0)
theorem plainB_ints (a:ByteArray):plainB a=(ints a).all fun c=>plainC c:=by
 simp only [plainB,ints,List.all_map]
 congr 1
 funext c
 simp only [Function.comp,plainC]
 rw [Bool.eq_iff_iff];simp;omega
theorem last_bat (a:ByteArray) (c:Int) (h:0<a.size):((ints a).getLast? =some c)↔bat a (a.size - 1)=c:=by
 rw [List.getLast?_eq_getElem?,ints_length,bat_get (by omega)]
 simp
theorem unq_drop {a:ByteArray} {i:Nat} (h0:1≤i) (h:i<a.size - 1):(((ints a).drop 1).dropLast).drop (i - 1)=bat a i::(((ints a).drop 1).dropLast).drop i:=by
 have hl:=ints_length a
 obtain ⟨j,rfl⟩: ∃ j,i=j+1:=⟨i - 1,by omega⟩
 rw [Nat.add_sub_cancel]
 have hlen:(((ints a).drop 1).dropLast).length=a.size - 2:=by simp;omega
 have hlt:j<(((ints a).drop 1).dropLast).length:=by omega
 rw [List.drop_eq_getElem_cons hlt]
 congr 1
 have h1:=bat_get (a:=a) (i:=j+1) (by omega)
 have h2:(((ints a).drop 1).dropLast)[j]? =some (bat a (j+1)):=by
  rw [List.getElem?_dropLast,if_pos (by simp;omega),List.getElem?_drop,Nat.add_comm 1 j,h1]
 rw [List.getElem?_eq_getElem hlt] at h2
 exact Option.some.inj h2
theorem unqL_cons {c:Int} {r:List Int} (h:c≠34):unqL (c::r)=(unqL r).map (c:: ·):=by
 rw [unqL.eq_def];simp [h]
theorem Unquote_at (a:ByteArray) (ha:a.size≤1000000) (w:World):Pure Tryz.prog 280 [.string a] w (.tuple #[.string (mkB (unquoteL (ints a)).1),.int .i64 (unquoteL (ints a)).2]):=by
 refine fn_at Tryz.func280 rfl Tryz.ntmps280 rfl ?_
 have hl:=ints_length a
 have hp:=printable_at a ha
 rw [plainB_ints] at hp
 have hh:=head_bat a 34
 have hg:=last_bat a 34
 by_cases hbad:(ints a).length<2∨(ints a).head? ≠some 34∨(ints a).getLast? ≠some 34∨(ints a).all (fun c=>plainC c)=false
 ·
  rw [unquoteL,if_pos hbad]
  repeat' (first|((with_reducible apply wl_callp);exact rfl;exact rfl;(intro w hm;exact hp w))|refine sT ?_|refine sS ?_|refine sT2 ?_|refine sN ?_|refine sM fun _=> ?_|(refine sC ?_ ?_<;>intro hb<;>try omega)|fail)
  iterate 4 (focus ((refine rT2 ?_);rfl))
  exfalso
  rename_i h1 h2 h3
  rcases hbad with h|h|h|h
  ·
   omega
  ·
   exact h (hh.2 ⟨by omega,Decidable.not_not.1 h2⟩)
  ·
   exact h ((hg (by omega)).2 (Decidable.not_not.1 h3))
  ·
   rw [hb] at h;cases h
 ·
  have hun:unquoteL (ints a)=match unqL (((ints a).drop 1).dropLast) with
    |none=>([],4)
    |some r=>if 256<r.length then ([],5) else (r,0):=by rw [unquoteL,if_neg hbad]
  rw [hun]
  simp only [not_or,Decidable.not_not,Bool.not_eq_false] at hbad
  obtain ⟨b1,b2,b3,b4⟩:=hbad
  have b5:=(hh.1 b2).2
  have b6:=(hg (by omega)).1 b3
  rw [b4] at hp
  have hn:(a.size:Int) - 1=((a.size - 1:Nat):Int):=by omega
  generalize hB:((ints a).drop 1).dropLast=B
  have hBl:B.length=a.size - 2:=by rw [← hB];simp;omega
  repeat' (first|((with_reducible apply wl_callp);exact rfl;exact rfl;(intro w hm;exact hp w))|refine sT ?_|refine sS ?_|refine sT2 ?_|refine sN ?_|refine sM fun _=> ?_|(refine sC ?_ ?_<;>intro hb<;>try omega)|fail)
  all_goals first|(exfalso;omega)|skip
  refine w_nilrow 5 1 ?_
  refine w_loopK [0,4] rfl (fun x:Nat × List Int × Option Nat × Nat=> [(5,sl x.2.2.1 x.2.1.length x.2.2.2),(6,.int .i64 (x.1:Int))]) (fun x=> [.own x.2.2.1 5 1 x.2.1.length x.2.2.2 (x.2.1.map (Value.int .u8))]) (fun x=>1≤x.1∧x.1≤a.size - 1∧x.2.1.length≤x.1∧unqL B=(unqL (B.drop (x.1 - 1))).map (x.2.1++ ·)) (fun x=>a.size - x.1) (1,[],none,0) ⟨by omega,by omega,by simp,by simp⟩ sB mS ?_
  rintro ⟨i,out,A,cap⟩ ⟨i1,i2,i3,i4⟩
  dsimp only at i1 i2 i3 i4 ⊢
  by_cases hend:i=a.size - 1
  ·
   have hBd:B.drop (i - 1)= []:=List.drop_of_length_le (by omega)
   rw [hBd] at i4
   simp only [unqL,Option.map_some,List.append_nil] at i4
   rw [i4]
   dsimp only
   by_cases hlen:256<out.length
   ·
    rw [if_pos hlen]
    repeat' (first|refine sT ?_|refine sS ?_|refine sT2 ?_|refine sN ?_|refine sM fun _=> ?_|(refine sC ?_ ?_<;>intro hb<;>try omega)|fail)
    all_goals first|(exfalso;omega)|((refine rT2 ?_);rfl)
   ·
    rw [if_neg hlen]
    repeat' (first|((with_reducible apply wl_v);exact rfl;(with_reducible apply v_ofBytesO);exact rfl;exact pK;exact rfl)|refine sT ?_|refine sS ?_|refine sT2 ?_|refine sN ?_|refine sM fun _=> ?_|(refine sC ?_ ?_<;>intro hb<;>try omega)|fail)
    all_goals first|(exfalso;omega)|((refine rT2 ?_);rfl)
  ·
   have hdr:=unq_drop (a:=a) i1 (by omega)
   rw [hB] at hdr
   rw [hdr] at i4
   by_cases hq:bat a i=34
   ·
    rw [hq] at i4
    by_cases h1:i+1=a.size - 1
    ·
     have hBd:B.drop i= []:=List.drop_of_length_le (by omega)
     rw [hBd] at i4
     simp only [unqL,ne_eq,not_true_eq_false,if_false,Option.map_none] at i4
     rw [i4]
     repeat' (first|refine sT ?_|refine sS ?_|refine sT2 ?_|refine sN ?_|refine sM fun _=> ?_|(refine sC ?_ ?_<;>intro hb<;>try omega)|fail)
     all_goals first|(exfalso;omega)|((refine rT2 ?_);rfl)
    ·
     have hdr2:=unq_drop (a:=a) (i:=i+1) (by omega) (by omega)
     rw [hB,Nat.add_sub_cancel] at hdr2
     rw [hdr2] at i4
     by_cases h2:bat a (i+1)=34
     ·
      simp only [unqL,ne_eq,not_true_eq_false,if_false,h2,if_true,Option.map_map] at i4
      repeat' (first|((with_reducible apply wl_append1);(iterate 3 exact rfl);exact pK;exact pK;exact rfl;(simp [Value.oneCell']);omega;(simp only [maxLen];omega);intro g8 c8)|((with_reducible apply wl_v (d:=63));exact rfl;(with_reducible apply v_addN (b:=2));exact rfl;exact rfl;(simp only [maxLen];omega))|refine sT ?_|refine sS ?_|refine sT2 ?_|refine sN ?_|refine sM fun _=> ?_|(refine sC ?_ ?_<;>intro hb<;>try omega)|fail)
      all_goals first|(exfalso;omega)|skip
      refine ⟨(i+2,out++ [34],some g8,c8),⟨by dsimp only;omega,by dsimp only;omega,by simp;omega,?_⟩,(by dsimp only;omega),?_,sB,?_⟩
      ·
       dsimp only
       rw [i4,show i+2 - 1=i+1 by omega]
       congr 1
       funext l
       simp
      ·
       simp only [List.length_append,List.length_singleton]
       exact sB
      ·
       simp only [List.length_append,List.length_singleton,List.map_append,List.map_cons,List.map_nil]
       exact mS
     ·
      simp only [unqL,ne_eq,not_true_eq_false,if_false,h2,Option.map_none] at i4
      rw [i4]
      repeat' (first|refine sT ?_|refine sS ?_|refine sT2 ?_|refine sN ?_|refine sM fun _=> ?_|(refine sC ?_ ?_<;>intro hb<;>try omega)|fail)
      all_goals first|(exfalso;omega)|((refine rT2 ?_);rfl)
   ·
    rw [unqL_cons hq,Option.map_map] at i4
    repeat' (first|((with_reducible apply wl_append1);(iterate 3 exact rfl);exact pK;exact pK;exact rfl;(simp [Value.oneCell']);omega;(simp only [maxLen];omega);intro g8 c8)|refine sT ?_|refine sS ?_|refine sT2 ?_|refine sN ?_|refine sM fun _=> ?_|(refine sC ?_ ?_<;>intro hb<;>try omega)|fail)
    all_goals first|(exfalso;omega)|skip
    refine ⟨(i+1,out++ [bat a i],some g8,c8),⟨by dsimp only;omega,by dsimp only;omega,by simp;omega,?_⟩,(by dsimp only;omega),?_,sB,?_⟩
    ·
     dsimp only
     rw [i4,show i+1 - 1=i by omega]
     congr 1
     funext l
     simp
    ·
     simp only [List.length_append,List.length_singleton]
     exact sB
    ·
     simp only [List.length_append,List.length_singleton,List.map_append,List.map_cons,List.map_nil]
     exact mS
end Go.SL
