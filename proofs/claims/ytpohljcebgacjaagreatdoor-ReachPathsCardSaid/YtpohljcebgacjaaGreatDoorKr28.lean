/-
  Lemmas and walks, put together: Ra Pl Sl30 Rb Rd Re Rf.
-/
import Derived.Deep.AppendSrc
import Derived.Test.YtpohljcebgacjaaGreatDoorKr27
set_option linter.unusedSimpArgs false
set_option linter.unusedVariables false
set_option maxRecDepth 20000
namespace Go.SL
open Go Go.Proofs
attribute [local irreducible] W WL WQ WG WA WX WLI WR WT WC WE VOp RW thn blk cutP scp retP retPP endB FnAt FnIn FnP ceP
theorem refL23_at (c r:Int) (w:World):Pure Tryz.prog 52 [.int .i64 c,.int .i64 r] w (.agg (encF ⟨c,r⟩).toArray):=by
 refine fn_at Tryz.func52 rfl Tryz.ntmps52 rfl ?_
 repeat' (first|refine sT ?_|refine sS ?_|refine sM fun _=> ?_|(refine sC ?_ ?_<;>intro hb<;>try omega)|fail)
 all_goals ((refine eRC ?_);rfl)
theorem has23_at (L : List Rf) (a : Rf) (lv : Value) (w : World) (hl : Reads w lv L.length (L.flatMap encF)) : Pure Tryz.prog 56 [lv, .agg (encF a).toArray] w (.bool (decide (a ∈ L))) := by
  obtain ⟨Al, cl, rfl, hl1, hl2, hl3⟩ := hl
  refine fn_at Tryz.func56 rfl Tryz.ntmps56 rfl ?_
  repeat' (first | refine sT ?_ | refine sS ?_ | refine sM fun _ => ?_ | (refine sC ?_ ?_ <;> intro hb <;> try omega) | fail)
  rename_i g3
  refine w_loopK [0, 3] rfl (fun i : Nat => [(5, .int .i64 (i : Int))]) (fun _ => [.box g3 38 (encF a)]) (fun i => i ≤ L.length ∧ decide (a ∈ L) = decide (a ∈ L.drop i)) (fun i => L.length - i) 0 ⟨by omega, rfl⟩ sB mS ?_
  rintro i ⟨hi, hrec⟩
  by_cases hlt : i < L.length
  · obtain ⟨gl, ol, rfl, hrl⟩ := hl3 (by omega)
    have he := hrl.elem encF_len i hlt
    rw [any_split hlt] at hrec
    generalize L[i] = e at he hrec
    obtain ⟨c, hc⟩ : ∃ c, decide (e = a) = c := ⟨_, rfl⟩
    rw [hc] at hrec
    repeat' (first | ((with_reducible apply wq_v (d := 14)); exact rfl; (with_reducible apply v_indexAddr (j := i)); exact rfl; exact rfl; exact hlt) | ((with_reducible apply wq_v (d := 15)); exact rfl; (with_reducible apply v_loadw_ro); exact rfl; exact he; exact rfl) | ((with_reducible apply wq_v (d := 17)); exact rfl; (with_reducible apply v_eqlF_to); exact hc; exact rfl; exact rfl) | refine sT ?_ | refine sS ?_ | refine sQ ?_ | refine sN ?_ | refine sNQ ?_ | refine sD ?_ | refine sM fun _ => ?_ | (refine sC ?_ ?_ <;> intro hb <;> try omega) | (refine sCQ ?_ ?_ <;> intro hb <;> try omega) | fail)
    all_goals first
      | (exfalso; omega)
      | (refine ret1 eIO rfl rfl (.nil _) ?_; simp_all; done)
      | (refine ⟨i + 1, ⟨hlt, ?_⟩, by omega, ?_, ?_, ?_⟩
         · simp_all
         · exact sB
         · exact sB
         · exact mS)
  · have e2 : i = L.length := by omega
    subst e2
    rw [List.drop_length] at hrec
    repeat' (first | refine sT ?_ | refine sS ?_ | refine sN ?_ | refine sM fun _ => ?_ | (refine sC ?_ ?_ <;> intro hb <;> try omega) | fail)
    all_goals first
      | (exfalso; omega)
      | (refine ret1 eIO rfl rfl (.nil _) ?_; rw [hrec]; rfl)
theorem EqualRects_at (L M:List Rct) (lv mv:Value) (w:World) (hl:Reads w lv L.length (L.flatMap encR)) (hm:Reads w mv M.length (M.flatMap encR)):
  Pure Tryz.prog 62 [lv,mv] w (.bool (decide (L=M))):=by
 obtain ⟨Al,cl,rfl,hl1,hl2,hl3⟩:=hl
 obtain ⟨Am,cm,rfl,hm1,hm2,hm3⟩:=hm
 refine fn_at Tryz.func62 rfl Tryz.ntmps62 rfl ?_
 by_cases hlen:L.length=M.length
 ·
  repeat' (first|refine sT ?_|refine sS ?_|refine sM fun _=> ?_|(refine sC ?_ ?_<;>intro hb<;>try omega)|fail)
  refine w_loop (fun i:Nat=> [(0,.slice Al L.length cl),(1,.slice Am M.length cm),(5,.int .i64 (i:Int))]) (fun _=> []) (fun i=>i≤L.length∧decide (L=M)=decide (L.drop i=M.drop i)) (fun i=>L.length - i) 0 ⟨by omega,rfl⟩ ?_ ?_ ?_
  ·
   exact sB
  ·
   exact mS
  ·
   rintro i ⟨hi,hrec⟩
   by_cases hlt:i<L.length
   ·
    have hlt2:i<M.length:=by omega
    obtain ⟨gl,ol,rfl,hrl⟩:=hl3 (by omega)
    obtain ⟨gm,om,rfl,hrm⟩:=hm3 (by omega)
    have he1:=hrl.elem encR_len i hlt
    have he2:=hrm.elem encR_len i hlt2
    rw [eq_drop hlt hlt2,← eqR_dec] at hrec
    repeat' (first|((with_reducible apply wq_v);exact rfl;(with_reducible apply v_indexAddr);exact rfl;exact rfl;(first|exact hlt|exact hlt2))|((with_reducible apply wq_v);exact rfl;(with_reducible apply v_loadw_ro);exact rfl;(first|exact he1|exact he2);exact rfl)|((with_reducible apply wq_v);exact rfl;(with_reducible apply v_neqR);exact rfl;exact rfl)|((with_reducible apply wl_v);exact rfl;(with_reducible apply v_succN);exact rfl;exact rfl;(simp only [maxLen] at*;omega))|refine sT ?_|refine sS ?_|refine sQ ?_|refine sD ?_|refine sM fun _=> ?_|(refine sC ?_ ?_<;>intro hb<;>try omega)|(refine sCQ ?_ ?_<;>intro hb<;>try omega)|fail)
    ·
     (refine rT1 ?_)
     rw [hrec]
     simp_all
    ·
     refine ⟨i+1,⟨by omega,?_⟩,by omega,?_,?_⟩
     ·
      rw [hrec]
      simp_all
     ·
      exact sB
     ·
      exact mS
   ·
    have e:i=L.length:=by omega
    subst e
    repeat' (first|refine sT ?_|refine sS ?_|refine sM fun _=> ?_|(refine sC ?_ ?_<;>intro hb<;>try omega)|fail)
    (refine rT1 ?_)
    rw [hrec,List.drop_length,hlen,List.drop_length]
    rfl
 ·
  repeat' (first|refine sT ?_|refine sS ?_|refine sM fun _=> ?_|(refine sC ?_ ?_<;>intro hb<;>try omega)|fail)
  (refine rT1 ?_)
  rw [decide_eq_false]
  intro e
  exact hlen (congrArg List.length e)
def checkR (at_:List Rf) (l:List Rct):Int:=if at_.all (fun a=>a.valid) && l.all rectOk then 0 else 3
theorem rectE_zero (r:Rct):rectE r=0↔rectOk r=true:=by
 have:=rectE_ne (r:=r)
 cases h:rectOk r
 ·
  rw [h] at this
  simp only [iff_true,Bool.false_eq_true,iff_false] at this ⊢
  exact this
 ·
  rw [h] at this
  simpa using this
set_option maxHeartbeats 1000000 in
theorem checkA_at (g:Nat) (A:List Rf) (L:List Rct) (av lv:Value) (w:World) (ha:Reads w av A.length (A.flatMap encF)) (hl:Reads w lv L.length (L.flatMap encR)) (hA:A.length≤1000000) (hL:L.length≤1000000):
  Pure Tryz.prog 88 [.pointer (some ⟨g,0,none⟩),av,lv] w (.int .i64 (checkR A L)):=by
 obtain ⟨Aa,ca,rfl,ha1,ha2,ha3⟩:=ha
 obtain ⟨Al,cl,rfl,hl1,hl2,hl3⟩:=hl
 refine fn_at Tryz.func88 rfl Tryz.ntmps88 rfl ?_
 repeat' (first|refine sT ?_|refine sS ?_|refine sM fun _=> ?_|(refine sC ?_ ?_<;>intro hb<;>try omega)|fail)
 refine w_loopK [2,13,14] rfl (fun i:Nat=> [(15,.int .i64 (i:Int))]) (fun _=> []) (fun i=>i≤A.length∧A.all (fun a=>a.valid)=(A.drop i).all (fun a=>a.valid)) (fun i=>A.length - i) 0 ⟨Nat.zero_le _,rfl⟩ sB (MSub.refl _) ?_
 rintro i ⟨hi,hrec⟩
 by_cases hlt:i<A.length
 ·
  obtain ⟨gl,ol,rfl,hrl⟩:=ha3 (by omega)
  have he:=hrl.elem encF_len i hlt
  rw [List.drop_eq_getElem_cons hlt,List.all_cons] at hrec
  generalize A[i]=a at he hrec
  have hV: ∀ w',Pure Tryz.prog 73 [.agg (encF a).toArray] w' (.bool a.valid):=fun w' =>valid_at a.col a.row w'
  generalize a.valid=b at hV hrec
  repeat' (first|((with_reducible apply wl_v);exact rfl;(with_reducible apply v_indexAddr (j:=i));exact rfl;exact rfl;exact hlt)|((with_reducible apply wl_v);exact rfl;(with_reducible apply v_loadw_ro);exact rfl;exact he;exact rfl)|((with_reducible apply wl_callp);exact rfl;exact rfl;(intro w hm;exact hV w))|refine sT ?_|refine sS ?_|refine sN ?_|refine sM fun _=> ?_|(refine sC ?_ ?_<;>intro hb<;>try omega)|fail)
  all_goals first
   |(exfalso;omega)
   |(refine ret1 eIO rfl rfl (.nil _) ?_;rw [checkR,hrec];simp_all;done)
   |(refine ⟨i+1,⟨hlt,?_⟩,by omega,by exact sB,by exact sB,MSub.nil _⟩;simp_all;done)
 ·
  rw [List.drop_eq_nil_of_le (show A.length≤i by omega)] at hrec
  repeat' (first|refine sT ?_|refine sS ?_|refine sN ?_|refine sM fun _=> ?_|(refine sC ?_ ?_<;>intro hb<;>try omega)|fail)
  all_goals first|(exfalso;omega)|skip
  refine w_loopK [23,24] rfl (fun i:Nat=> [(25,.int .i64 (i:Int))]) (fun _=> []) (fun i=>i≤L.length∧L.all rectOk=(L.drop i).all rectOk) (fun i=>L.length - i) 0 ⟨Nat.zero_le _,rfl⟩ sB (MSub.nil _) ?_
  rintro i ⟨hi,hrec2⟩
  by_cases hlt:i<L.length
  ·
   obtain ⟨gl,ol,rfl,hrl⟩:=hl3 (by omega)
   have he:=hrl.elem encR_len i hlt
   rw [List.drop_eq_getElem_cons hlt,List.all_cons] at hrec2
   generalize L[i]=r at he hrec2
   have hV:=fun w' =>rect_at r w'
   have hz:=rectE_zero r
   generalize rectE r=re at hV hz
   generalize rectOk r=b at hz hrec2
   repeat' (first|((with_reducible apply wl_v);exact rfl;(with_reducible apply v_indexAddr (j:=i));exact rfl;exact rfl;exact hlt)|((with_reducible apply wl_v);exact rfl;(with_reducible apply v_loadw_ro);exact rfl;exact he;exact rfl)|((with_reducible apply wl_callp);exact rfl;exact rfl;(intro w hm;exact hV w))|refine sT ?_|refine sS ?_|refine sN ?_|refine sM fun _=> ?_|(refine sC ?_ ?_<;>intro hb<;>try omega)|fail)
   all_goals first
    |(exfalso;omega)
    |(refine ret1 eIO rfl rfl (.nil _) ?_;rw [checkR,hrec,hrec2];simp_all;done)
    |(refine ⟨i+1,⟨hlt,?_⟩,by omega,by exact sB,by exact sB,MSub.nil _⟩;simp_all;done)
  ·
   rw [List.drop_eq_nil_of_le (show L.length≤i by omega)] at hrec2
   repeat' (first|refine sT ?_|refine sS ?_|refine sN ?_|refine sM fun _=> ?_|(refine sC ?_ ?_<;>intro hb<;>try omega)|fail)
   all_goals first
    |(exfalso;omega)
    |(refine ret1 eIO rfl rfl (.nil _) ?_;rw [checkR,hrec,hrec2];rfl)
theorem checkA_nil (av lv:Value) (w:World):Pure Tryz.prog 88 [.pointer none,av,lv] w (.int .i64 1):=by
 refine fn_at Tryz.func88 rfl Tryz.ntmps88 rfl ?_
 repeat' (first|refine sT ?_|refine sS ?_|refine sM fun _=> ?_|(refine sC ?_ ?_<;>intro hb<;>try omega)|fail)
 all_goals ((refine rT1 ?_);rfl)
end Go.SL
namespace Go.SL
open Go
inductive Rc (G:Gr):Rf→Rct→Prop
 |use {c:Rf} {r:Rct} (hc:c∈keysG G) (h:touchesU (usesG G c) r=true):Rc G c r
 |via {c d:Rf} {r:Rct} (hc:c∈keysG G) (hd:d∈keysG G) (h:touchesU (usesG G c) (oneA d.col d.row)=true) (k:Rc G d r):Rc G c r
theorem Rc.key {G:Gr} {c:Rf} {r:Rct} (h:Rc G c r):c∈keysG G:=by cases h<;>assumption
theorem Rc.trans {G:Gr} {c d:Rf} {r:Rct} (h:Rc G c (oneA d.col d.row)) (hd:d∈keysG G) (k:Rc G d r):Rc G c r:=by
 generalize hq:oneA d.col d.row=q at h
 induction h with
 |use hc h=>subst hq;exact .via hc hd h k
 |via hc he h _ ih=>exact .via hc he h (ih hq)
theorem Rc.last {G:Gr} {c:Rf} {r:Rct} (h:Rc G c r):touchesU (usesG G c) r=true∨ ∃ d∈keysG G,Rc G c (oneA d.col d.row)∧touchesU (usesG G d) r=true:=by
 induction h with
 |use hc h=>exact .inl h
 | @via c d r hc hd h k ih=>
  right
  rcases ih with h1|⟨e,he,h1,h2⟩
  ·
   exact ⟨d,hd,.use hc h,h1⟩
  ·
   exact ⟨e,he,.via hc hd h h1,h2⟩
open Classical in
noncomputable def aboveF (G:Gr) (l:List Rct):List Rf:=(keysG G).filter fun c=>decide (∃ r∈l,Rc G c r)
open Classical in
noncomputable def belowF (G:Gr) (c:Rf):List Rf:=(keysG G).filter fun d=>decide (Rc G c (oneA d.col d.row))
open Classical in
noncomputable def reachF (G:Gr) (a b:Rf):Bool:=decide (Rc G a (oneA b.col b.row))
open Classical in
theorem mem_above {G:Gr} {l:List Rct} {c:Rf}:c∈aboveF G l↔ ∃ r∈l,Rc G c r:=by
 unfold aboveF
 rw [List.mem_filter,decide_eq_true_eq]
 exact ⟨fun h=>h.2,fun h=>⟨h.choose_spec.2.key,h⟩⟩
open Classical in
theorem mem_below {G:Gr} {c d:Rf}:d∈belowF G c↔d∈keysG G∧Rc G c (oneA d.col d.row):=by
 unfold belowF
 rw [List.mem_filter,decide_eq_true_eq]
theorem above_sorted {G:Gr} (h:SortG G) (l:List Rct):(aboveF G l).Pairwise fun x y=>lessF x y=true:=(keys_sorted h).filter _
theorem below_sorted {G:Gr} (h:SortG G) (c:Rf):(belowF G c).Pairwise fun x y=>lessF x y=true:=(keys_sorted h).filter _
structure UpI (G:Gr) (l:List Rct) (seen:List Rf) (todo:List Rct):Prop where
 nodup:seen.Nodup
 sound: ∀ c∈seen,∃ r∈l,Rc G c r
 from_: ∀ r∈todo,r∈l∨ ∃ d∈seen,r=oneA d.col d.row
 full: ∀ c∈keysG G,∀ r,(r∈l∨ ∃ d∈seen,r=oneA d.col d.row)→touchesU (usesG G c) r=true→c∈seen∨r∈todo
theorem UpI.start (G:Gr) (l:List Rct):UpI G l [] l:=⟨List.nodup_nil,(fun _ h=>by cases h),(fun r h=> .inl h),fun c _ r h _=>by
 rcases h with h|⟨d,hd,_⟩
 ·
  exact .inr h
 ·
  cases hd⟩
theorem UpI.done {G:Gr} {l:List Rct} {seen:List Rf} (h:UpI G l seen []) (c:Rf):c∈seen↔c∈aboveF G l:=by
 rw [mem_above]
 refine ⟨h.sound c,?_⟩
 rintro ⟨r,hr,hc⟩
 have hno: ∀ {c r},c∈keysG G→(r∈l∨ ∃ d∈seen,r=oneA d.col d.row)→touchesU (usesG G c) r=true→c∈seen:=fun hk hr ht=>by
  rcases h.full _ hk _ hr ht with h1|h1
  ·
   exact h1
  ·
   cases h1
 induction hc with
 |use hc ht=>exact hno hc (.inl hr) ht
 | @via c d r hc hd ht _ ih=>exact hno hc (.inr ⟨d,ih hr,rfl⟩) ht
theorem UpI.add {G:Gr} {l:List Rct} {seen:List Rf} {todo:List Rct} {r:Rct} {c:Rf} (h:UpI G l seen (r::todo)) (hc:c∈keysG G) (ht:touchesU (usesG G c) r=true) (hn:c∉seen):
  UpI G l (c::seen) (r::(todo++ [oneA c.col c.row])):=by
 refine ⟨List.nodup_cons.2 ⟨hn,h.nodup⟩,fun x hx=> ?_,fun q hq=> ?_,fun x hx q hq hxq=> ?_⟩
 ·
  rcases List.mem_cons.1 hx with rfl|hx
  ·
   rcases h.from_ r List.mem_cons_self with h1|⟨d,hd,rfl⟩
   ·
    exact ⟨r,h1,.use hc ht⟩
   ·
    obtain ⟨q,hq,hdq⟩:=h.sound d hd
    exact ⟨q,hq,.via hc hdq.key ht hdq⟩
  ·
   exact h.sound x hx
 ·
  rcases List.mem_cons.1 hq with rfl|hq
  ·
   rcases h.from_ q List.mem_cons_self with h1|⟨d,hd,h2⟩
   ·
    exact .inl h1
   ·
    exact .inr ⟨d,List.mem_cons_of_mem _ hd,h2⟩
  ·
   rcases List.mem_append.1 hq with hq|hq
   ·
    rcases h.from_ q (List.mem_cons_of_mem _ hq) with h1|⟨d,hd,h2⟩
    ·
     exact .inl h1
    ·
     exact .inr ⟨d,List.mem_cons_of_mem _ hd,h2⟩
   ·
    exact .inr ⟨c,List.mem_cons_self,List.mem_singleton.1 hq⟩
 ·
  have hold:(q∈l∨ ∃ d∈seen,q=oneA d.col d.row)→x∈c::seen∨q∈r::(todo++ [oneA c.col c.row]):=fun hq=>by
   rcases h.full x hx q hq hxq with h1|h1
   ·
    exact .inl (List.mem_cons_of_mem _ h1)
   ·
    right
    rcases List.mem_cons.1 h1 with rfl|h1
    ·
     exact List.mem_cons_self
    ·
     exact List.mem_cons_of_mem _ (List.mem_append_left _ h1)
  rcases hq with h1|⟨d,hd,rfl⟩
  ·
   exact hold (.inl h1)
  ·
   rcases List.mem_cons.1 hd with rfl|hd
   ·
    exact .inr (List.mem_cons_of_mem _ (List.mem_append_right _ List.mem_cons_self))
   ·
    exact hold (.inr ⟨d,hd,rfl⟩)
theorem UpI.pop {G:Gr} {l:List Rct} {seen:List Rf} {todo:List Rct} {r:Rct} (h:UpI G l seen (r::todo)) (hall: ∀ c∈keysG G,touchesU (usesG G c) r=true→c∈seen):UpI G l seen todo:=by
 refine ⟨h.nodup,h.sound,fun q hq=>h.from_ q (List.mem_cons_of_mem _ hq),fun c hc q hq ht=> ?_⟩
 rcases h.full c hc q hq ht with h1|h1
 ·
  exact .inl h1
 ·
  rcases List.mem_cons.1 h1 with rfl|h1
  ·
   exact .inl (hall c hc ht)
  ·
   exact .inr h1
theorem UpI.len {G:Gr} {l:List Rct} {seen:List Rf} {todo:List Rct} (hG:SortG G) (h:UpI G l seen todo):seen.length≤G.length:=by
 have hs:seen⊆keysG G:=fun c hc=>(h.sound c hc).choose_spec.2.key
 have hn:(keysG G).Nodup→((keysG G).filter fun a=>decide (a∈seen)).Nodup:=fun h=>h.filter _
 have hp: ∀ hk:(keysG G).Nodup,seen.Perm ((keysG G).filter fun a=>decide (a∈seen)):=fun hk=>
  nodup_perm h.nodup (hn hk) fun a=>by
   rw [List.mem_filter,decide_eq_true_eq]
   exact ⟨fun h=>⟨hs h,h⟩,fun h=>h.2⟩
 have h1:=(hp hG.nodup).length_eq
 have h2:=List.length_filter_le (fun a=>decide (a∈seen)) (keysG G)
 have h3:(keysG G).length=G.length:=by rw [keysG,List.length_map]
 omega
end Go.SL
namespace Go.SL
open Go Go.RowKit
theorem run_append_off {P : Program} (w : World) (base : Nat) (t ty e : TypeId) (i : TypeInfo) (z : Value) (size bytes : Nat) (ht : P.underlying t = some (.slice e)) (hi : P.info? e = some i) (hz : i.zero = some z)
    (hsize : i.size = size) (hby : i.bytes = bytes) (hzs : z.cells.size = size) (hsz : 0 < size)
    (g n cap k off : Nat) (hk : k ≤ n) (hoff : k < cap → off = k * size) (xs : List Value) (hown : w.ownsRow base e size (.slice (some ⟨g, 0, none⟩) n cap) n xs)
    (a : Addr) (m c : Nat) (news : List Value) (hl : news.length = m * size) (hnews : ∀ j u, news[j]? = some u → w.cell? (a.add j) = some u) (h1 : ∀ u ∈ news, u.oneCell' = true) (hm0 : 0 < m)
    (h63 : n + m ≤ maxLen) (hbytes : (n + m) * bytes ≤ 140737488355328) (hbase : base ≤ w.heap.size) :
    ∃ v' w', (Builtin.append_ #[t, t] ty #[.slice (some ⟨g, off, none⟩) (n - k) (cap - k), .slice (some a) m c]).run P w = .ok v' w' ∧ w.grownBy w' (some g) ∧
      ((v' = .slice (some ⟨g, off, none⟩) (n - k + m) (cap - k) ∧ n + m ≤ cap ∧ w'.ownsRow base e size (.slice (some ⟨g, 0, none⟩) (n + m) cap) (n + m) (xs ++ news)) ∨
       (∃ cap', v' = .slice (some ⟨w.heap.size, 0, none⟩) (n - k + m) cap' ∧ w'.ownsRow base e size v' (n - k + m) (xs.drop (k * size) ++ news))) := by
  subst hsize
  subst hby
  obtain ⟨hxl, hown2⟩ := hown
  rcases hown2 with ⟨h0, _⟩ | ⟨g', cap', cur, hv, hbg, hg, hnc, hcm, hcs, htake⟩
  · cases h0
  injection hv with e1 e2 e3
  injection e1 with e1
  injection e1 with e1
  subst e1; subst e3
  have hsrc : Src P i.size t (.slice (some a) m c) m news w := Src.ofSlice w ht a m c news hl hnews h1
  have hlen : (xs ++ news).length = (n + m) * i.size := by rw [List.length_append, hxl, hl, Nat.add_mul]
  by_cases hroom : n + m ≤ cap
  · have hoff' := hoff (by omega)
    subst hoff'
    have hfit : n * i.size + news.length ≤ cur.size := by rw [hl, hcs, ← Nat.add_mul]; exact Nat.mul_le_mul_right _ hroom
    have hkn : k * i.size + (n - k) * i.size = n * i.size := by
      rw [← Nat.add_mul]
      congr 1
      omega
    have hr0 := run_append_room (P := P) w t ty e i ht hi g n cap cur hg a m c news hl hnews h1 hroom hfit
    have hcell : ∀ j, j < news.length → (w.cell? ⟨g, n * i.size + j, none⟩).isSome = true := fun j hj => by
      simp only [World.cell?, hg]
      rw [Array.getElem?_eq_getElem (by omega)]
      rfl
    have hfro : ∀ j, j < news.length → w.frozen? ⟨g, n * i.size + j, none⟩ = false := fun j hj => by
      simp [World.frozen?, hg]
    have hr1 := run_append_room_src (P := P) w t t ty e i ht hi g 0 n cap (.slice (some a) m c) m news hsrc hroom (by simpa using hcell) (by simpa using hfro)
    have hr2 := run_append_room_src (P := P) w t t ty e i ht hi g (k * i.size) (n - k) (cap - k) (.slice (some a) m c) m news hsrc (by omega) (by rw [hkn]; exact hcell) (by rw [hkn]; exact hfro)
    rw [hkn] at hr2
    rw [Nat.zero_add] at hr1
    have hw := hr0.symm.trans hr1
    injection hw with hw1 hw2
    rw [← hw2] at hr2
    refine ⟨_, _, hr2, ⟨rfl, rfl, rfl, by simp, fun j _ hj => setRow_other w g j _ (fun e => hj (by rw [e]))⟩, .inl ⟨rfl, hroom, hlen, .inr ⟨g, cap, _, rfl, hbg, setRow_heap w g cur _ e _ hg, hroom, hcm, ?_, ?_⟩⟩⟩
    · simp only [List.size_toArray, List.length_append, List.length_take, List.length_drop, Array.length_toList]
      omega
    · rw [htake, ← hlen]
      exact List.take_left
  · have hol : (xs.drop (k * i.size)).length = (n - k) * i.size := by rw [List.length_drop, hxl, ← Nat.sub_mul]
    have hold : (Builtin.firstCells i.size (n - k) (.slice (some ⟨g, off, none⟩) (n - k) (cap - k))).run P w.drew = .ok (xs.drop (k * i.size)).toArray w.drew := by
      by_cases hkn : n = k
      · subst hkn
        have e0 : xs.drop (n * i.size) = [] := List.eq_nil_of_length_eq_zero (by rw [hol]; simp)
        rw [e0]
        exact run_firstCells_some w.drew i.size (n - n) ⟨g, off, none⟩ (n - n) (cap - n) [] (by simp) (fun j u hu => by simp at hu)
      · have hoff' := hoff (by omega)
        subst hoff'
        refine run_firstCells_some w.drew i.size (n - k) ⟨g, k * i.size, none⟩ (n - k) (cap - k) _ hol fun j u hu => ?_
        have hcc : w.cell? ((⟨g, 0, none⟩ : Addr).add (k * i.size + j)) = some u := by
          have hu' : xs[k * i.size + j]? = some u := by rw [← List.getElem?_drop]; exact hu
          exact World.ownsRow.cells (w := w) (base := base) (e := e) (size := i.size) (v := .slice (some ⟨g, 0, none⟩) n cap) (n := n) (xs := xs) ⟨hxl, .inr ⟨g, cap, cur, rfl, hbg, hg, hnc, hcm, hcs, htake⟩⟩ (g := g) rfl _ _ hu'
        rw [addr_add] at hcc ⊢
        simpa using hcc
    have hfits : Builtin.nextslicecap (n - k + m) (cap - k) * i.bytes ≤ 281474976710656 := growslice_fits (by omega) (Nat.le_trans (Nat.mul_le_mul_right _ (by omega)) hbytes)
    have hr := run_append_grow_src (P := P) w t t ty e i z ht hi hz (some ⟨g, off, none⟩) (n - k) (cap - k) (xs.drop (k * i.size)) hold (.slice (some a) m c) m news hsrc (by omega) (by simp only [maxLen] at h63; omega) hfits
    have hge := grownCap_ge w (n - k + m) (cap - k) e
    have hcm2 : grownCap w (n - k + m) (cap - k) e ≤ maxLen := grownCap_le_maxLen w (n - k + m) (cap - k) e (by omega)
    have hlen2 : (xs.drop (k * i.size) ++ news).length = (n - k + m) * i.size := by rw [List.length_append, hol, hl, Nat.add_mul]
    refine ⟨_, _, hr, ⟨rfl, rfl, rfl, by simp, fun k hk _ => heap_alloc_old w.drew _ hk⟩, .inr ⟨_, rfl, hlen2, .inr ⟨w.heap.size, _, _, rfl, hbase, heap_alloc_new w.drew _, hge, hcm2, ?_, ?_⟩⟩⟩
    · simp only [Array.size_append, List.size_toArray, size_zeroCells, hzs, hlen2, ← Nat.add_mul]
      congr 1
      omega
    · simp only [Array.toList_append, List.append_assoc]
      rw [← List.append_assoc, ← hlen2]
      exact List.take_left
section
variable {P:Program} {n:Fr} {w0:World} {Q:Post} {s:Slots} {H:List Blk} {rest:List Oper} {ty:TypeId} {p:String} {af:Array Edge}
theorem wl_appendQ {d t e n' c k off g g2 sz by_:Nat} {x y:Operand} {xs news:List Value} {R:List Blk} {ops:Array Oper} [ht:Und P t (.slice e)] [he:Elem P e sz by_] (hn:Nat.blt d n.sz=true)
  (hx:ev s x=some (.slice (some ⟨g,off,none⟩) (n' - k) (c - k))) (hk:k≤n') (hoff:k<c→off=k*sz) (hy:ev s y=some (.slice (some ⟨g2,0,none⟩) 1 1)) (hsel:Sel (.own (some g) e sz n' c xs) H R)
  (hi:In (.own (some g2) e sz 1 1 news) H) (hl:news.length=sz) (h1: ∀ u∈news,u.oneCell' =true) (hby:(n' +1)*by_≤140737488355328) (h63:n' +1≤maxLen)
  (K: ∀ g' off' k' n2 c2 ys,k' ≤n2→(k' <c2→off' =k' *sz)→n2 - k' =n' - k+1→n2≤n' +1→ys.drop (k' *sz)=xs.drop (k*sz)++news→WL P n w0 ops rest Q ((d,.slice (some ⟨g',off',none⟩) (n2 - k') (c2 - k'))::s) (.own (some g') e sz n2 c2 ys::R)):
  WL P n w0 ops (⟨some d,.call { callee:= .builtin .append,args:= #[x,y],argTypes:= #[t,t] },ty,p,af,none⟩::rest) Q s H:=by
 intro a w hs hm
 have hm' :=hm.sel hsel
 obtain ⟨i,z,i1,i2,i3,i4,i5,i6⟩:=he.out
 have hb:=(hm'.on _ List.mem_cons_self)
 have hown:w.ownsRow w0.heap.size e sz (.slice (some ⟨g,0,none⟩) n' c) n' xs:=by
  obtain ⟨⟨b1,b2,b3,b4⟩,b5⟩:=hb
  refine ⟨b1,?_⟩
  obtain ⟨junk,j1,j2⟩:=b4
  refine .inr ⟨g,c,_,rfl,b5 g rfl,j2,b2,b3,by simpa using j1,?_⟩
  simp only [List.toList_toArray]
  rw [← b1,List.take_left]
 have hxl:=hown.1
 obtain ⟨v',w',hr,hgr,hcase⟩:=run_append_off (P:=P) w w0.heap.size t ty e i z sz by_ ht.out i1 i4 i2 i3 i5 i6 g n' c k off hk hoff xs hown ⟨g2,0,none⟩ 1 1 news (by omega)
  (fun j u hu=>by rw [addr_add];exact hm.cells_own hi j u hu) h1 (by omega) h63 hby hm.below.size
 have key: ∀ (G' N2 C2:Nat) (ys:List Value),w'.ownsRow w0.heap.size e sz (.slice (some ⟨G',0,none⟩) N2 C2) N2 ys→(Blk.own (some G') e sz N2 C2 ys).on w' :=by
  intro G' N2 C2 ys ho
  obtain ⟨q1,q2⟩:=ho
  rcases q2 with ⟨h0,_⟩|⟨g3,cap3,cur,hv,_,q4,q5,q6,q7,q8⟩
  ·
   cases h0
  ·
   injection hv with e1 e2 e3
   injection e1 with e1
   injection e1 with e1
   subst e1;subst e3
   refine ⟨q1,q5,q6,cur.toList.drop (N2*sz),?_,?_⟩
   ·
    rw [← q8,List.take_append_drop];simpa using q7
   ·
    rw [← q8,List.take_append_drop];simpa using q4
 refine wpList_plain rfl fun K' hK' => ?_
 unfold Oper.wp execOp
 simp only [resolve,invoke,builtin,Sem.run_bind,Sem.run_pure,Result.andThen_ok,List.map_toArray,List.map_cons,List.map_nil,hs.eval x _ hx,hs.eval y _ hy,hr,Oper.upon]
 rcases hcase with ⟨rfl,hroom,ho⟩|⟨cap',rfl,ho⟩
 ·
  have e1:n' - k+1=n' +1 - k:=by omega
  rw [e1] at*
  refine hK' _ _ (K g off k (n' +1) c (xs++news) (by omega) hoff (by omega) (Nat.le_refl _) ?_ _ _ (hs.put (Nat.blt_eq ▸ hn) _) (hm'.upd hgr (key _ _ _ _ ho) fun j hj=> .inl hj))
  exact List.drop_append_of_le_length (by rw [hxl];exact Nat.mul_le_mul_right _ hk)
 ·
  refine hK' _ _ (K w.heap.size 0 0 (n' - k+1) cap' (xs.drop (k*sz)++news) (Nat.zero_le _) (fun _=>by simp) (by omega) (by omega) (by simp) _ _ (hs.put (Nat.blt_eq ▸ hn) _) (hm'.upd hgr (key _ _ _ _ (by simpa using ho)) fun j hj=> ?_))
  right
  simp only [Blk.key] at hj
  injection hj with hj
  omega
end
end Go.SL
namespace Go.SL
open Go Go.Proofs
def setFrom (S:List Rf) (j:Nat):List (Rf × Value × Nat):=(S.zipIdx j).map fun x=>(x.1,.bool true,x.2)
def setM (S:List Rf):List (Rf × Value × Nat):=setFrom S 0
theorem setFrom_cons (a:Rf) (S:List Rf) (j:Nat):setFrom (a::S) j=(a,.bool true,j)::setFrom S (j+1):=by simp [setFrom,List.zipIdx_cons]
theorem setFrom_app (a:Rf): ∀ (S:List Rf) (j:Nat),setFrom (S++ [a]) j=setFrom S j++ [(a,.bool true,j+S.length)]
 | [],j=>rfl
 |b::S,j=>by
  rw [List.cons_append,setFrom_cons,setFrom_cons,setFrom_app a S (j+1),List.cons_append,List.length_cons,show j+1+S.length=j+(S.length+1) by omega]
theorem look_from (a:Rf): ∀ (S:List Rf) (j i:Nat),(match kfind a (setFrom S j) i with|some (_,v)=>v|none=>Value.bool false)= .bool (decide (a∈S))
 | [],_,_=>rfl
 |b::S,j,i=>by
  rw [setFrom_cons,kfind]
  by_cases h:a=b
  ·
   rw [if_pos h]
   simp [h]
  ·
   rw [if_neg h,look_from a S (j+1) (i+1)]
   simp [h]
theorem look_set (S:List Rf) (a:Rf):(match kfind a (setM S) 0 with|some (_,v)=>v|none=>Value.bool false)= .bool (decide (a∈S)):=look_from a S 0 0
theorem kfind_none_from (a:Rf): ∀ (S:List Rf) (j i:Nat),a∉S→kfind a (setFrom S j) i=none
 | [],_,_,_=>rfl
 |b::S,j,i,h=>by
  rw [setFrom_cons,kfind,if_neg (fun e=>h (by rw [e];exact List.mem_cons_self))]
  exact kfind_none_from a S _ _ (fun hs=>h (List.mem_cons_of_mem _ hs))
theorem put_set {S:List Rf} {a:Rf} (h:a∉S):kput a (.bool true) S.length (setM S)=(setM (S++ [a]),S.length+1):=by
 unfold kput setM
 rw [kfind_none_from a S 0 0 h,setFrom_app,Nat.zero_add]
theorem setFrom_keys (S:List Rf): ∀ j,(setFrom S j).map (fun e=>e.1)=S:=by
 induction S with
 |nil=>intro j;rfl
 |cons a S ih=>intro j;rw [setFrom_cons,List.map_cons,ih]
theorem setFrom_born: ∀ (S:List Rf) (j:Nat),(setFrom S j).map (fun e=>e.2.2)=(List.range S.length).map (fun k=>j+k)
 | [],j=>rfl
 |a::S,j=>by
  rw [setFrom_cons,List.map_cons,setFrom_born S (j+1),List.length_cons,List.range_succ_eq_map,List.map_cons,List.map_map]
  congr 1
  exact List.map_congr_left fun k _=>by simp only [Function.comp];omega
theorem set_ok {S:List Rf} (h:S.Nodup):MapOk (setM S) S.length:=by
 refine ⟨?_,fun e he=> ?_,?_⟩
 ·
  unfold setM
  rw [setFrom_born,List.Nodup,List.pairwise_map]
  exact (List.nodup_range (n:=S.length)).imp fun h e=>h (by omega)
 ·
  have:e.2.2∈(setM S).map fun e=>e.2.2:=List.mem_map.2 ⟨e,he,rfl⟩
  unfold setM at this
  rw [setFrom_born] at this
  obtain ⟨k,hk,hke⟩:=List.mem_map.1 this
  have:=List.mem_range.1 hk
  omega
 ·
  unfold setM
  rw [setFrom_keys];exact h
theorem UpI.perm {G:Gr} {l:List Rct} {S S' :List Rf} {todo:List Rct} (h:UpI G l S todo) (hp:S.Perm S'):UpI G l S' todo:=
 ⟨hp.nodup_iff.1 h.nodup,fun c hc=>h.sound c (hp.mem_iff.2 hc),fun r hr=>(h.from_ r hr).imp id fun ⟨d,hd,e⟩=>⟨d,hp.mem_iff.1 hd,e⟩,fun c hc r hr ht=>
  (h.full c hc r (hr.imp id fun ⟨d,hd,e⟩=>⟨d,hp.mem_iff.2 hd,e⟩) ht).imp (fun h=>hp.mem_iff.1 h) id⟩
structure Qu where
 g:Nat
 off:Nat
 k:Nat
 n:Nat
 c:Nat
 ys:List Value
def Qu.v (q:Qu):Value:= .slice (some ⟨q.g,q.off,none⟩) (q.n - q.k) (q.c - q.k)
structure Qu.ok {α:Type} (q:Qu) (enc:α→List Value) (sz:Nat) (L:List α):Prop where
 le:q.k≤q.n
 off:q.k<q.c→q.off=q.k*sz
 len:q.n - q.k=L.length
 cells:q.ys.drop (q.k*sz)=L.flatMap enc
def Qu.pop (q:Qu) (sz:Nat):Qu:={ q with off:=if q.c - q.k=1 then q.off else q.off+1*sz,k:=q.k+1 }
theorem Qu.ok.pop {α:Type} {q:Qu} {enc:α→List Value} {sz:Nat} {a:α} {L:List α} (h:q.ok enc sz (a::L)) (he:(enc a).length=sz) (hc:q.n≤q.c):(q.pop sz).ok enc sz L:=by
 have hl:=h.len
 rw [List.length_cons] at hl
 have h0:=h.off (by omega)
 refine ⟨by simp only [Qu.pop];omega,fun hk=> ?_,by simp only [Qu.pop];omega,?_⟩
 ·
  simp only [Qu.pop] at hk ⊢
  rw [if_neg (by omega),h0,Nat.add_mul]
 ·
  have h1:=h.cells
  simp only [Qu.pop]
  rw [Nat.add_mul,Nat.one_mul,← List.drop_drop,h1,List.flatMap_cons,← he,List.drop_left]
end Go.SL
namespace Go.SL
open Go Go.Proofs
attribute [local irreducible] W WL WQ WG WA WX WLI WR WT WC WE VOp RW thn blk cutP scp retP retPP endB FnAt FnIn FnP ceP
def abvB (gb sb gm tb:Nat) (pa:Value) (S:List Rf) (q:Qu):List Blk:=
 [.box gb 25 [pa],.box sb 145 [.map (some gm)],.obj gm (mobj keyF (setM S) S.length),.box tb 81 [q.v],.own (some q.g) 24 4 q.n q.c q.ys]
set_option maxHeartbeats 4000000 in
theorem aboveLook_in (gb sb gm tb:Nat) (pa:Value) (G:Gr) (hG:SortG G) (hGl:G.length≤900) (l:List Rct) (r:Rct) (S0:List Rf) (q0:Qu) (todo0:List Rct) (hI:UpI G l S0 (r::todo0)) (hq:q0.ok encR 4 todo0) (hqn:q0.n≤10000)
  (U:List Rf) (hUm: ∀ c,c∈U↔c∈keysG G∧touchesU (usesG G c) r=true) (hUl:U.length≤900) (B F:List Blk) (hB:MSub B F) (w0:World)
  (hU: ∀ H,MSub B H→FnIn Tryz.prog 16 [pa,.agg (encR r).toArray] w0 H fun v H' => ∃ A cap,v=sl A U.length cap∧H' = .own A 38 2 U.length cap (U.flatMap encF)::H):
  FnIn Tryz.prog 90 [.agg (encR r).toArray,.pointer (some ⟨gb,0,none⟩),.pointer (some ⟨sb,0,none⟩),.pointer (some ⟨tb,0,none⟩)] w0 (abvB gb sb gm tb pa S0 q0++F) fun v H=>v= .tuple #[]∧ ∃ S q todo,H=abvB gb sb gm tb pa S q++F∧q.ok encR 4 todo∧UpI G l S todo∧S.length+todo0.length=S0.length+todo.length∧q.n+S0.length≤q0.n+S.length:=by
 refine fn_in Tryz.func90 rfl Tryz.ntmps90 rfl ?_
 simp only [abvB,List.append_eq,List.cons_append,List.nil_append]
 repeat' (first|((with_reducible apply wl_callin (f:=16));exact rfl;exact rfl;exact hU _ (MSub.trans hB mS);rintro _ _ ⟨A9,c9,rfl,rfl⟩)|refine sT ?_|refine sS ?_|refine sM fun _=> ?_|(refine sC ?_ ?_<;>intro hb<;>try omega)|fail)
 rename_i g4
 refine w_loopK [1,2,3,9,10] rfl (fun y:Nat × List Rf × Qu × List Rct=> [(11,.int .i64 (y.1:Int))]) (fun y=> .own A9 38 2 U.length c9 (U.flatMap encF)::(abvB gb sb gm tb pa y.2.1 y.2.2.1++F)) (fun y=>y.1≤U.length∧UpI G l y.2.1 (r::y.2.2.2)∧y.2.2.1.ok encR 4 y.2.2.2∧(∀ j (h:j<U.length),j<y.1→U[j]∈y.2.1)∧y.2.1.length+todo0.length=S0.length+y.2.2.2.length∧y.2.2.1.n+S0.length≤q0.n+y.2.1.length) (fun y=>U.length - y.1) (0,S0,q0,todo0) ⟨Nat.zero_le _,hI,hq,(fun j _ h=>absurd h (Nat.not_lt_zero _)),rfl,Nat.le_refl _⟩ sB (by simp only [abvB,List.append_eq,List.cons_append,List.nil_append];exact mS) ?_
 clear hI hq
 rintro ⟨i,S,q,todo⟩ ⟨hi,hI,hq,hin,hsum,hqs⟩
 dsimp only at hi hI hq hin hsum hqs ⊢
 have hSl:=hI.len hG
 by_cases hlt:i<U.length
 ·
  refine w_some (A:=A9) .hd (by omega) fun gk hA=> ?_
  subst hA
  have hread:=refF hlt
  have hmem:U[i]∈U:=List.getElem_mem hlt
  have hstep: ∀ (S' :List Rf),(∀ x∈S,x∈S')→U[i]∈S' → ∀ j (h:j<U.length),j<i+1→U[j]∈S' :=fun S' h1 h2 j h3 h4=>by
   by_cases e:j=i
   ·
    subst e;exact h2
   ·
    exact h1 _ (hin j h3 (by omega))
  generalize U[i]=a at hread hmem hstep
  obtain ⟨hak,hat⟩:=(hUm a).1 hmem
  have hlook:=look_set S a
  simp only [abvB,List.append_eq,List.cons_append,List.nil_append]
  by_cases haS:a∈S
  ·
   rw [decide_eq_true haS] at hlook
   repeat' (first|((with_reducible apply wl_v);exact rfl;(with_reducible apply v_indexAddr (j:=i));exact rfl;exact rfl;exact hlt)|((with_reducible apply wl_v);exact rfl;(with_reducible apply v_loads_own);exact rfl;exact pK;exact hread;exact rfl)|((with_reducible apply wl_v);exact rfl;(with_reducible apply v_lookup (enc:=keyF) (k:=a));exact rfl;exact rfl;exact pK;exact hlook)|refine sT ?_|refine sS ?_|refine sN ?_|refine sM fun _=> ?_|(refine sC ?_ ?_<;>intro hb<;>try omega)|fail)
   all_goals first
    |(exfalso;omega)
    |(refine ⟨(i+1,S,q,todo),⟨hlt,hI,hq,hstep S (fun _ h=>h) haS,hsum,hqs⟩,(by dsimp only;omega),sB,sB,(by simp only [abvB,List.append_eq,List.cons_append,List.nil_append];exact mS)⟩)
    |trace_state
  ·
   rw [decide_eq_false haS] at hlook
   have hput:=put_set haS
   have hI2:=(hI.add hak hat haS).perm (List.perm_append_comm (l₁:= [a]) (l₂:=S))
   repeat' (first|((with_reducible apply wl_v);exact rfl;(with_reducible apply v_indexAddr (j:=i));exact rfl;exact rfl;exact hlt)|((with_reducible apply wl_v);exact rfl;(with_reducible apply v_loads_own);exact rfl;exact pK;exact hread;exact rfl)|((with_reducible apply wl_v);exact rfl;(with_reducible apply v_lookup (enc:=keyF) (k:=a));exact rfl;exact rfl;exact pK;exact hlook)|((with_reducible apply wl_mapPut (enc:=keyF) (k:=a));(iterate 3 exact rfl);exact pK;rw [hput])|refine sT ?_|refine sS ?_|refine sN ?_|refine sM fun _=> ?_|(refine sC ?_ ?_<;>intro hb<;>try omega)|fail)
   all_goals first|(exfalso;omega)|skip
   rename_i g6
   obtain ⟨qg,qoff,qk,qn,qc,qys⟩:=q
   obtain ⟨hq1,hq2,hq3,hq4⟩:=hq
   dsimp only at hq1 hq2 hq3 hq4 hqs ⊢
   simp only [Qu.v]
   refine w_drawE (id:=6) [0,2,3,4,5] [.box g6 38 (encF a)] 6 rfl rfl mS ?_
   repeat' (first|((with_reducible apply we_v (i:=1));(iterate 4 exact rfl);decide+kernel;decide+kernel;decide+kernel;((with_reducible apply v_loadn_box);exact rfl;exact .hd;exact rfl;exact rfl))|((with_reducible apply we_two (i:=0) (j:=2));(iterate 6 exact rfl);decide+kernel)|((with_reducible apply we_two (i:=0) (j:=3));(iterate 6 exact rfl);decide+kernel)|((with_reducible apply we_one (i:=0));(iterate 3 exact rfl);decide+kernel)|((with_reducible apply we_one (i:=2));(iterate 3 exact rfl);decide+kernel)|((with_reducible apply we_one (i:=3));(iterate 3 exact rfl);decide+kernel)|((with_reducible apply we_one (i:=4));(iterate 3 exact rfl);decide+kernel)|((with_reducible apply we_one (i:=5));(iterate 3 exact rfl);decide+kernel)|((with_reducible apply we_done);decide+kernel)|((with_reducible apply ce_n);(focus (exact mS;done)))|((with_reducible apply wl_callp);exact rfl;exact rfl;(intro w hm;exact One_at _ w))|((with_reducible apply wl_appendQ);exact rfl;exact rfl;exact hq1;exact hq2;exact rfl;exact pK;exact pK;exact rfl;(simp [Value.oneCell',encR]);omega;(simp only [maxLen];omega);intro g' off' k' n2 c2 ys hk2 hoff2 hlen2 hn2 hys2)|refine sT ?_|refine sS ?_|refine sM fun _=> ?_|(refine sC ?_ ?_<;>intro hb<;>try omega)|fail)
   repeat' (first|refine sT ?_|refine sS ?_|refine sN ?_|refine sM fun _=> ?_|(refine sC ?_ ?_<;>intro hb<;>try omega)|fail)
   all_goals first
    |(exfalso;omega)
    |(refine ⟨(i+1,S++ [a],⟨g',off',k',n2,c2,ys⟩,todo++ [oneA a.col a.row]),⟨hlt,hI2,⟨hk2,hoff2,(by rw [List.length_append];exact hlen2.trans (by rw [hq3];rfl)),(by rw [hys2,hq4,List.flatMap_append];rfl)⟩,hstep (S++ [a]) (fun _ h=>List.mem_append_left _ h) (List.mem_append_right _ List.mem_cons_self),(by rw [List.length_append,List.length_append];simp only [List.length_cons,List.length_nil];omega),(by rw [List.length_append];simp only [List.length_cons,List.length_nil];omega)⟩,(by dsimp only;omega),sB,sB,(by simp only [abvB,Qu.v,List.append_eq,List.cons_append,List.nil_append,List.length_append,List.length_cons,List.length_nil,Nat.zero_add];exact mS)⟩)
    |trace_state
 ·
  have hi2:i=U.length:=by omega
  subst hi2
  have hI2:=hI.pop fun c hc ht=>by
   obtain ⟨j,hj,rfl⟩:=List.getElem_of_mem ((hUm c).2 ⟨hc,ht⟩)
   exact hin j hj hj
  simp only [abvB,List.append_eq,List.cons_append,List.nil_append]
  repeat' (first|refine sT ?_|refine sS ?_|refine sN ?_|refine sM fun _=> ?_|(refine sC ?_ ?_<;>intro hb<;>try omega)|fail)
  all_goals first
   |(exfalso;omega)
   |(exact ret0 eIO rfl mS ⟨rfl,S,q,todo,rfl,hq,hI2,hsum,hqs⟩)
   |trace_state
end Go.SL
namespace Go.SL
open Go Go.Proofs
attribute [local irreducible] W WL WQ WG WA WX WLI WR WT VOp RW thn blk cutP scp retP retPP endB FnAt FnIn FnP
theorem setM_keys (S:List Rf):(setM S).map (fun e=>e.1)=S:=setFrom_keys S 0
theorem setM_len (S:List Rf):(setM S).length=S.length:=by
 have:=congrArg List.length (setM_keys S)
 simpa using this
set_option maxHeartbeats 1000000 in
theorem sorted_in (gm:Nat) (S:List Rf) (hn:S.Nodup) (hlen:S.length≤1000000) (R:List Blk) (w0:World):
  FnIn Tryz.prog 91 [.map (some gm)] w0 (.obj gm (mobj keyF (setM S) S.length)::R) fun v H=> ∃ A cap,v=sl A S.length cap∧H= .own A 38 2 S.length cap ((sortRf S).flatMap encF):: .obj gm (mobj keyF (setM S) S.length)::R:=by
 have hok:=set_ok hn
 have hks:=setM_keys S
 have hkl:=setM_len S
 generalize setM S=es at hok hks hkl
 subst hks
 rw [List.length_map] at hlen hkl
 rw [List.length_map] at hok
 rw [List.length_map]
 refine fn_in Tryz.func91 rfl Tryz.ntmps91 rfl ?_
 refine w_nilrow 38 2 ?_
 repeat' (first|((with_reducible apply wl_range_map (enc:=keyF));exact rfl;exact rfl;exact pK;intro gi)|refine sT ?_|refine sS ?_|refine sM fun _=> ?_|(refine sC ?_ ?_<;>intro hb<;>try omega)|fail)
 refine w_loopK [6] rfl (fun x:List (Rf × Value × Nat) × Option Nat × Nat=> [(3,sl x.2.1 x.1.length x.2.2)]) (fun x=> .obj gi (mIter gm es.length (x.1.map fun e=>e.2.2)):: .own x.2.1 38 2 x.1.length x.2.2 ((x.1.map fun e=>e.1).flatMap encF):: .obj gm (mobj keyF es es.length)::R) (fun x=>Vis es x.1) (fun x=>es.length - x.1.length) ([],none,0) (Vis.nil es) sB mS ?_
 rintro ⟨vis,A,cap⟩ hv
 dsimp only at hv ⊢
 have hvl:=hv.len
 have hml:(vis.map fun e=>e.1).length=vis.length:=List.length_map _
 have hS:=fun R' =>sortFuncB_in (vis.map fun e=>e.1) A cap (by omega) R' w0
 rw [hml] at hS
 repeat' (first|((with_reducible apply wl_next_map (enc:=keyF));exact rfl;exact rfl;exact pK;exact pK;exact hok;intro e he hne)|(intro hall)|((with_reducible apply wl_v);exact rfl;(with_reducible apply v_entry (enc:=keyF));exact rfl;exact pK;exact pK;exact he;exact hok)|((with_reducible apply wl_append);(iterate 3 exact rfl);(repeat first|exact .hd|apply Sel.tl|apply In.tl);(intro w hm;exact hm.cells_own (by (repeat first|exact .hd|apply Sel.tl|apply In.tl)));exact rfl;(simp [Value.oneCell',sl]);omega;(simp only [maxLen];omega);(intro A2 cap2 hA2))|((with_reducible apply wl_callin (f:=67));exact rfl;exact rfl;exact FnIn.msub (hS _) (MSub.pick pK (MSub.refl _));rintro _ _ ⟨rfl,rfl⟩)|refine sT ?_|refine sS ?_|refine sM fun _=> ?_|(refine sC ?_ ?_<;>intro hb<;>try omega)|fail)
 ·
  refine ⟨(vis++ [e],A2,cap2),hv.step he hne,?_,?_,sB,?_⟩
  ·
   have:=hv.lt he hne
   simp only [List.length_append,List.length_singleton]
   omega
  ·
   simp only [List.length_append,List.length_singleton]
   exact sB
  ·
   simp only [List.map_append,List.map_cons,List.map_nil,List.length_append,List.length_singleton,List.flatMap_append,List.flatMap_cons,List.flatMap_nil,List.append_nil]
   exact mS
 ·
  have hperm:=hv.perm hok hall
  have hl:vis.length=es.length:=hperm.length_eq
  have hf:sortRf (es.map fun e=>e.1)=sortRf (vis.map fun e=>e.1):=sortRf_perm (hperm.symm.map _)
  refine ret1 eIO rfl rfl (H' := .own A 38 2 es.length cap ((sortRf (es.map fun e=>e.1)).flatMap encF):: .obj gm (mobj keyF es es.length)::R) ?_ ⟨A,cap,by rw [hl],rfl⟩
  rw [hf,← hl]
  exact mS
end Go.SL
namespace Go.SL
open Go Go.Proofs
theorem w_le {P:Program} {n:Fr} {w0:World} {Q:Post} {s:Slots} {H:List Blk} {c:Code} {A:Option Nat} {t sz m cap:Nat} {xs:List Value} (hi:In (.own A t sz m cap xs) H) (h:m≤cap→W P n w0 c Q s H):W P n w0 c Q s H:=fun a w hs hmem=>
 h (hmem.on _ hi.mem).1.2.1 a w hs hmem
theorem reads_nil (w:World):Reads w (.slice none 0 0) 0 []:=⟨none,0,rfl,Nat.le_refl _,Nat.zero_le _,fun h=>absurd h (Nat.lt_irrefl 0)⟩
theorem w_nil {P:Program} {n:Fr} {w0:World} {Q:Post} {s:Slots} {H:List Blk} {c:Code} {t sz m cap:Nat} {xs:List Value} (hi:In (.own none t sz m cap xs) H) (h:m=0→W P n w0 c Q s H):W P n w0 c Q s H:=fun a w hs hmem=>
 h (hmem.on _ hi.mem).1.2.2.2.1 a w hs hmem
attribute [local irreducible] W WL WQ WG WA WX WLI WR WT WC WE VOp RW thn blk cutP scp retP retPP endB FnAt FnIn FnP ceP
theorem UpI.sort {G:Gr} {l:List Rct} {S:List Rf} (hG:SortG G) (h:UpI G l S []):sortRf S=aboveF G l:=by
 have hn:(aboveF G l).Nodup:=(above_sorted hG l).imp fun h=>lessF_ne h
 rw [sortRf_perm ((List.perm_ext_iff_of_nodup h.nodup hn).2 h.done),sortRf_sorted (above_sorted hG l)]
theorem Qu.pop_v (q:Qu) (sz:Nat):Value.slice (if q.c - q.k=1 then some ⟨q.g,q.off,none⟩ else (some (⟨q.g,q.off,none⟩:Addr)).map (·.add (1*sz))) (q.n - q.k - 1) (q.c - q.k - 1)=(q.pop sz).v:=by
 simp only [Qu.v,Qu.pop]
 rw [Nat.sub_sub,Nat.sub_sub]
 split
 ·
  rfl
 ·
  have h:(⟨q.g,q.off,none⟩:Addr).add (1*sz)=⟨q.g,q.off+1*sz,none⟩:=by unfold Addr.add;split<;>simp_all
  rw [Option.map_some,h]
theorem v_pop {P:Program} {w0:World} {s:Slots} {H:List Blk} {ty t e sz:Nat} {x:Operand} [ht:Und P t (.slice e)] [hz:Size P e sz] (q:Qu) (hx:ev s x=some q.v) (h1:1≤q.n - q.k) (h2:q.n≤q.c):
  VOp P w0 s H (.slice t x (some (.const (.int .i64 1))) none none) ty (q.pop sz).v:=by
 rw [← Qu.pop_v]
 exact v_slice (lo:=1) (hi:=q.n - q.k) hx ⟨_,rfl⟩ rfl h1 (by omega)
theorem Qu.ok.head {α:Type} {q:Qu} {enc:α→List Value} {sz:Nat} {a:α} {L:List α} (h:q.ok enc sz (a::L)) (he:(enc a).length=sz) (hc:q.n≤q.c):(q.ys.drop (q.off+0*sz)).take sz=enc a:=by
 have hl:=h.len
 rw [List.length_cons] at hl
 rw [h.off (by omega),Nat.zero_mul,Nat.add_zero,h.cells,List.flatMap_cons,← he,List.take_left]
theorem encR_len' (r:Rct):(encR r).length=4:=rfl
theorem CloneR_at (L:List Rct) (tv:Value) (w:World) (ht:Reads w tv L.length (L.flatMap encR)) (hlen:L.length≤1000000):
  FnAt Tryz.prog 89 [tv] w fun v H=> ∃ A cap,v=sl A L.length cap∧H= [.own A 24 4 L.length cap (L.flatMap encR)]:=by
 have ht' :=ht
 obtain ⟨At,ct,rfl,ht1,ht2,ht3⟩:=ht
 refine fn_at Tryz.func89 rfl Tryz.ntmps89 rfl ?_
 have hl:(L.flatMap encR).length=L.length*4:=flat_length' encR_len' L
 refine w_nilrow 24 4 ?_
 repeat' (first|((with_reducible apply wl_v);exact rfl;(with_reducible apply v_eqlnil);exact rfl)|((with_reducible apply wl_buildSlice0);exact rfl;intro gb)|((with_reducible apply wl_appendR (n' :=0) (c:=0) (A:=some _) (m:=L.length));(iterate 3 exact rfl);exact pK;(intro w hm;exact ht'.of_w0 hm);exact hl;exact encRs_one L;omega;(simp only [maxLen];omega);intro A' cap' hA)|refine sT ?_|refine sM fun _=> ?_|(refine sC ?_ ?_<;>intro hb<;>try omega)|fail)
 ·
  have e:L.length=0:=by
   rcases Nat.eq_zero_or_pos L.length with h|h
   ·
    exact h
   ·
    obtain ⟨g,o,rfl,_⟩:=ht3 h
    cases hb
  have e' :L= []:=List.eq_nil_of_length_eq_zero e
  subst e'
  exact ret1 (.inl rfl) Tryz.results89 rfl (.refl _) ⟨none,0,rfl,rfl⟩
 ·
  exact ret1 (.inl rfl) Tryz.results89 rfl (H' := [.own A' 24 4 (0+L.length) cap' ([]++L.flatMap encR)]) mS ⟨A',cap',by rw [Nat.zero_add],by rw [Nat.zero_add];rfl⟩
noncomputable def aboveR (G:Gr) (L:List Rct):List Rf:=if checkR [] L=0 then aboveF G L else []
theorem checkR_rects {L:List Rct} (h:checkR [] L=0): ∀ r∈L,rectOk r=true:=by
 unfold checkR at h
 split at h
 ·
  rename_i h1
  simp only [List.all_nil,Bool.true_and,List.all_eq_true] at h1
  exact h1
 ·
  cases h
theorem UpI.rect {G:Gr} {L:List Rct} {S:List Rf} {todo:List Rct} {r:Rct} (hG:GrOk G) (hL: ∀ r∈L,rectOk r=true) (h:UpI G L S (r::todo)):rectOk r=true:=by
 rcases h.from_ r List.mem_cons_self with h1|⟨d,hd,rfl⟩
 ·
  exact hL r h1
 ·
  obtain ⟨q,_,hq⟩:=h.sound d hd
  obtain ⟨e,he,rfl⟩:=mem_keysG.1 hq.key
  rw [rect_one]
  exact (hG.ent e he).at_
theorem aboveF_nil (G:Gr):aboveF G []= []:=by
 refine List.eq_nil_iff_forall_not_mem.2 fun c hc=> ?_
 obtain ⟨r,hr,_⟩:=mem_above.1 hc
 cases hr
set_option maxHeartbeats 4000000 in
theorem Above_in (gg:Nat) (G:Gr) (hG:GrOk G) (hGl:G.length≤900) (L:List Rct) (hL:L.length≤1000) (lv:Value) (B F:List Blk) (hB:MSub B F) (w0:World)
  (hU: ∀ r H,MSub B H→FnIn Tryz.prog 16 [.pointer (some ⟨gg,0,none⟩),.agg (encR r).toArray] w0 H fun v H' => ∃ A cap,v=sl A (usersG G r).length cap∧H' = .own A 38 2 (usersG G r).length cap ((usersG G r).flatMap encF)::H)
  (hrd: ∀ w,Mem w0 w F→Reads w lv L.length (L.flatMap encR)):
  FnIn Tryz.prog 46 [.pointer (some ⟨gg,0,none⟩),lv] w0 F fun v H' => ∃ A cap,v= .tuple #[sl A (aboveR G L).length cap,.int .i64 (checkR [] L)]∧H' = .own A 38 2 (aboveR G L).length cap ((aboveR G L).flatMap encF)::F:=by
 refine fn_in Tryz.func46 rfl Tryz.ntmps46 rfl ?_
 refine w_nilrow 38 2 ?_
 have hck:=fun w (hm:Mem w0 w F)=>checkA_at gg [] L (.slice none 0 0) lv w (reads_nil w) (hrd w hm) (by simp) (by omega)
 have hcl:=fun w (hm:Mem w0 w F)=>CloneR_at L lv w (hrd w hm) (by omega)
 unfold aboveR
 by_cases hc0:checkR [] L=0
 ·
  rw [if_pos hc0]
  rw [hc0] at hck ⊢
  have hr:=checkR_rects hc0
  repeat' (first|((with_reducible apply wl_callp (f:=88));exact rfl;exact rfl;(intro w' hm;exact hck w' (MSub.use mS hm)))|((with_reducible apply wl_call (f:=89));exact rfl;exact rfl;(intro w' hm;exact hcl w' (MSub.use mS hm));rintro _ _ ⟨A9,c9,rfl,rfl⟩)|((with_reducible apply wl_makeMap (enc:=keyF));exact rfl;intro gm)|refine sT ?_|refine sS ?_|refine sM fun _=> ?_|(refine sC ?_ ?_<;>intro hb<;>try omega)|fail)
  rename_i gb sb tb
  have hpa: ∀ r,SortG G∧(∀ c,rectOk r=true→(c∈usersG G r↔c∈keysG G∧touchesU (usesG G c) r=true)):=fun r=>⟨hG.sort,fun c h=>⟨fun hc=>⟨users_keys c hc,(mem_users hG.sort h (users_keys c hc)).1 hc⟩,fun hc=>(mem_users hG.sort h hc.1).2 hc.2⟩⟩
  cases A9 with
  |none=>
   refine w_nil pK fun hL0=> ?_
   have hL' :L= []:=List.length_eq_zero_iff.1 hL0
   subst hL'
   have hso:=sorted_in gm [] List.nodup_nil (by simp) F w0
   rw [show sortRf []= [] by simp [sortRf]] at hso
   rw [aboveF_nil]
   refine w_loopK [2,7,8,9] rfl (fun _:Unit=> []) (fun _=> .box tb 81 [.slice none 0 c9]:: .box sb 145 [.map (some gm)]:: .obj gm (mobj keyF (setM []) 0)::F) (fun _=>True) (fun _=>0) () trivial sB mS ?_
   rintro _ _
   repeat' (first|((with_reducible apply wl_callin (f:=91));exact rfl;exact rfl;exact FnIn.msub hso mS;rintro _ _ ⟨A5,c5,rfl,rfl⟩)|refine sT ?_|refine sS ?_|refine sM fun _=> ?_|(refine sC ?_ ?_<;>intro hb<;>try omega)|fail)
   all_goals first
    |(exfalso;omega)
    |(exact ret2 eIO rfl rfl rfl (H' := .own A5 38 2 0 c5 []::F) mS ⟨A5,c5,rfl,rfl⟩)
    |trace_state
  |some g9=>
   refine w_loopK [2,7,8,9] rfl (fun _:List Rf × Qu × List Rct=> []) (fun y=>abvB gb sb gm tb (.pointer (some ⟨gg,0,none⟩)) y.1 y.2.1++F) (fun y=>UpI G L y.1 y.2.2∧y.2.1.ok encR 4 y.2.2∧y.2.1.n≤L.length+y.1.length) (fun y=>y.2.2.length+(G.length - y.1.length)) ([],⟨g9,0,0,L.length,c9,L.flatMap encR⟩,L) ⟨UpI.start G L,⟨Nat.zero_le _,fun _=>by rw [Nat.zero_mul],Nat.sub_zero _,by rw [Nat.zero_mul];rfl⟩,Nat.le_refl _⟩ sB (by simp only [abvB,Qu.v,List.append_eq,List.cons_append,List.nil_append];exact mS) ?_
   rintro ⟨S,q,todo⟩ ⟨hI,hq,hqn⟩
   dsimp only at hI hq hqn ⊢
   have hSl:=hI.len hG.sort
   have hql:=hq.len
   simp only [abvB,List.append_eq,List.cons_append,List.nil_append]
   cases todo with
   |nil=>
    rw [List.length_nil] at hql
    have hso:FnIn Tryz.prog 91 [.map (some gm)] w0 (.obj gm (mobj keyF (setM S) S.length)::F) fun v H=> ∃ A cap,v=sl A (aboveF G L).length cap∧H= .own A 38 2 (aboveF G L).length cap ((aboveF G L).flatMap encF):: .obj gm (mobj keyF (setM S) S.length)::F:=by
     rw [← hI.sort hG.sort,show (sortRf S).length=S.length by simp [sortRf]]
     exact sorted_in gm S hI.nodup (by omega) F w0
    repeat' (first|((with_reducible apply wl_callin (f:=91));exact rfl;exact rfl;exact FnIn.msub hso mS;rintro _ _ ⟨A5,c5,rfl,rfl⟩)|refine sT ?_|refine sS ?_|refine sM fun _=> ?_|(refine sC ?_ ?_<;>intro hb<;>try omega)|fail)
    all_goals first
     |(exfalso;omega)
     |(exact ret2 eIO rfl rfl rfl (H' := .own A5 38 2 (aboveF G L).length c5 ((aboveF G L).flatMap encF)::F) mS ⟨A5,c5,rfl,rfl⟩)
     |trace_state
   |cons r todo=>
    rw [List.length_cons] at hql
    have hrr:=hI.rect hG hr
    refine w_le (A:=some q.g) pK fun hle=> ?_
    have hhd:=hq.head rfl hle
    have hp:=hq.pop rfl hle
    have hlook:=aboveLook_in gb sb gm tb (.pointer (some ⟨gg,0,none⟩)) G hG.sort hGl L r S (q.pop 4) todo hI hp (by show q.n≤10000;omega) (usersG G r) (fun c=>(hpa r).2 c hrr) (Nat.le_trans users_len hGl) B F hB w0 (hU r)
    repeat' (first|((with_reducible apply wl_v);exact rfl;(with_reducible apply v_indexAddr (j:=0));exact rfl;exact rfl;omega)|((with_reducible apply wl_v);exact rfl;(with_reducible apply v_loads_own);exact rfl;exact pK;exact hhd;exact rfl)|((with_reducible apply wl_v);exact rfl;(with_reducible apply v_pop q);exact rfl;omega;exact hle)|((with_reducible apply wl_callv);exact rfl;exact rfl;infer_instance;exact rfl;exact FnIn.msub hlook (by simp only [abvB,List.append_eq,List.cons_append,List.nil_append];exact mS);rintro _ _ ⟨rfl,S',q',todo',rfl,hq',hI',hsum,hqs⟩)|refine sT ?_|refine sS ?_|refine sM fun _=> ?_|(refine sC ?_ ?_<;>intro hb<;>try omega)|fail)
    all_goals first
     |(exfalso;omega)
     |(refine ⟨(S',q',todo'),⟨hI',hq',(by have:q'.n+S.length≤q.n+S'.length:=hqs;dsimp only;omega)⟩,(by have:=hI'.len hG.sort;dsimp only;rw [List.length_cons];omega),sB,sB,(by simp only [abvB,List.append_eq,List.cons_append,List.nil_append];exact mS)⟩)
     |trace_state
 ·
  rw [if_neg hc0]
  repeat' (first|((with_reducible apply wl_callp (f:=88));exact rfl;exact rfl;(intro w' hm;exact hck w' (MSub.use mS hm)))|refine sT ?_|refine sS ?_|refine sM fun _=> ?_|(refine sC ?_ ?_<;>intro hb<;>try omega)|fail)
  all_goals first
   |(exfalso;omega)
   |(exact ret2 eIO rfl rfl rfl (H' := .own none 38 2 0 0 []::F) mS ⟨none,0,rfl,rfl⟩)
   |trace_state
end Go.SL
