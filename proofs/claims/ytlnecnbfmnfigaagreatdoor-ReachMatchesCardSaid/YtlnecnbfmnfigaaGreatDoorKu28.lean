/-
  Lemmas and walks, put together: Q10 Q11 Q12 Q13 Q14.
-/
import Derived.Test.YtlnecnbfmnfigaaGreatDoorKu27
set_option linter.unusedSimpArgs false
set_option linter.unusedVariables false
set_option maxRecDepth 20000
namespace Go.SL
open Go Go.Proofs
attribute [local irreducible] W WL WQ WG WA WX WLI WR WT WC VOp RW thn blk bZ scp bA bV ck FnAt FnIn FnP ceP
def bG (e:En):List Value:= [.int .i64 e.at_.col,.int .i64 e.at_.row,e.tv,e.uv]
theorem qV (e:En):(bG e).length=4:=rfl
def rgB (g:Nat) (A:Option Nat) (cap:Nat) (L:List En):List Blk:= [.box g 138 [sl A L.length cap],.own A 135 4 L.length cap (L.flatMap bG)]
structure RGOk (R:List Blk) (L:List En) (G:Gr):Prop where
 en: ∀ e∈L,EnOk R e
 rel:L.map En.abs=G
theorem RGOk.sub {R R' :List Blk} {L:List En} {G:Gr} (h:RGOk R L G) (hs:MSub R R'):RGOk R' L G:=⟨fun e he=>(h.en e he).sub hs,h.rel⟩
theorem RGOk.len {R:List Blk} {L:List En} {G:Gr} (h:RGOk R L G):L.length=G.length:=by rw [← h.rel,Ps]
def CJ (L:List En) (a:Rf):Int:=match L.findIdx? (fun e=>decide (e.at_=a)) with|some i=>(i:Int)|none=> -1
theorem LX {L:List En} {a:Rf} {i:Nat} (h:i<L.length) (ha:L[i].at_=a) (hno: ∀ j (h:j<L.length),j<i→L[j].at_≠a):CJ L a=(i:Int):=by
 unfold CJ
 rw [P8.2 ⟨h,by simpa using ha,fun j hj=>by simpa using hno j (by omega) hj⟩]
theorem LW {L:List En} {a:Rf} (hno: ∀ j (h:j<L.length),L[j].at_≠a):CJ L a= -1:=by
 unfold CJ
 rw [Qg.2]
 intro e he
 obtain ⟨j,hj,rfl⟩:=P1 he
 simpa using hno j hj
structure RGm (w:World) (g:Nat) (Al:Option Addr) (cl:Nat) (L:List En):Prop where
 box:Ro w g 0 [.slice Al L.length cl]
 row:0<L.length→ ∃ gl ol,Al=some ⟨gl,ol,none⟩∧Ro w gl ol (L.flatMap bG)
theorem RGm.of {g:Nat} {A:Option Nat} {cap:Nat} {L:List En} {H:List Blk} {w0 w:World} (hH:MSub (rgB g A cap L) H) (hm:Mem w0 w H):RGm w g (A.map fun g=>⟨g,0,none⟩) cap L:=by
 have hm' :=hH.use hm
 refine ⟨Ro.of_box hm' .hd,fun hpos=> ?_⟩
 obtain ⟨Al,cl,hv,_,_,hl3⟩:=Reads.of_own hm' (.tl .hd)
 unfold sl at hv
 injection hv with hv1 hv2 hv3
 rw [hv1]
 exact hl3 hpos
set_option maxHeartbeats 1000000 in
theorem jY (g:Nat) (Al:Option Addr) (cl:Nat) (L:List En) (a:Rf) (w:World) (hr:RGm w g Al cl L) (hlen:L.length≤1000000):
    aF Tryz.prog 60 [.pointer (some ⟨g,0,none⟩),aO a] w (.int .i64 (CJ L a)):=by
  obtain ⟨hr,hl3⟩:=hr
  refine aA Tryz.func60 rfl Tryz.ntmps60 rfl ?_
  repeat' (first|refine sT ?_|refine sS ?_|refine sM fun _=> ?_|(refine sC ?_ ?_<;>intro hb<;>try omega)|fail)
  rename_i g3
  refine ax [0,3] rfl (fun i:Nat=> [(5,.int .i64 (i:Int))]) (fun _=> [.box g3 24 (aw a)]) (fun i=>i≤L.length∧ ∀ j (h:j<L.length),j<i→L[j].at_≠a) (fun i=>L.length - i) 0 ⟨by omega,fun j _ h=>by omega⟩ sB mS ?_
  rintro i ⟨hi,hno⟩
  by_cases hlt:i<L.length
  · obtain ⟨gl,ol,rfl,hrl⟩:=hl3 (by omega)
    have he:=hrl.elem qV i hlt
    have hno1 := fun (h : L[i].at_ ≠ a) (j : Nat) (hj : j < L.length) (hji : j < i + 1) => (show L[j].at_ ≠ a from by
      rcases (by omega:j<i∨j=i) with h1|rfl
      · exact hno j hj h1
      · exact h)
    have hat:=fun h=>LX hlt h hno
    generalize L[i]=e at he hno1 hat
    obtain ⟨c,hc⟩: ∃ c,decide (e.at_=a)=c:=⟨_,rfl⟩
    repeat' (first|(apply aj (d:=10);exact rfl;apply aN (o:=0) (off:=0);exact hr;exact rfl;exact rfl)|(apply aP (d:=18);exact rfl;apply aN (o:=0) (off:=0);exact hr;exact rfl;exact rfl)|(apply aP (d:=20);exact rfl;apply ag (j:=i);exact rfl;exact rfl;exact hlt)|(apply aP (d:=22);exact rfl;apply cI (off:=0) (ys:=aw e.at_) he;(iterate 3 exact rfl))|(apply aP (d:=24);exact rfl;apply GN;exact hc;exact rfl;exact rfl)|refine sT ?_|refine sS ?_|refine sQ ?_|refine sN ?_|refine sNQ ?_|refine sD ?_|refine sM fun _=> ?_|(refine sC ?_ ?_<;>intro hb<;>try omega)|(refine sCQ ?_ ?_<;>intro hb<;>try omega)|fail)
    all_goals try (exfalso;omega)
    · refine bK eIO rfl rfl (.nil _) ?_
      rw [hat (by simp_all)]
    · refine ⟨i+1,?_,(by first|omega|(dsimp only;omega)),sB,sB,mS⟩
      exact ⟨hlt,hno1 (by simp_all)⟩
  · have e2:i=L.length:=by omega
    subst e2
    repeat' (first|(apply aj (d:=10);exact rfl;apply aN (o:=0) (off:=0);exact hr;exact rfl;exact rfl)|refine sT ?_|refine sS ?_|refine sN ?_|refine sM fun _=> ?_|(refine sC ?_ ?_<;>intro hb<;>try omega)|fail)
    all_goals first
      |(exfalso;omega)
      | (refine bK eIO rfl rfl (.nil _) ?_
         rw [LW fun j hj=>hno j hj hj])
set_option maxHeartbeats 1000000 in
theorem jx (e:En) (r:Rct) (w:World) (ht:Reads w e.uv e.uses.length (e.uses.flatMap bQ)) (hlen:e.uses.length≤1000000):
  aF Tryz.prog 76 [.agg (bG e).toArray,.agg (aH r).toArray] w (.bool (aG e.uses r)):=by
 obtain ⟨Al,cl,hv,hl1,hl2,hl3⟩:=ht
 refine aA Tryz.func76 rfl Tryz.ntmps76 rfl ?_
 have he:bG e= [.int .i64 e.at_.col,.int .i64 e.at_.row,e.tv,.slice Al e.uses.length cl]:=by rw [← hv];rfl
 rw [he]
 generalize e.tv=tv
 generalize e.uses=L at hl1 hl3 hlen
 repeat' (first|refine sT ?_|refine sS ?_|refine sM fun _=> ?_|(refine sC ?_ ?_<;>intro hb<;>try omega)|fail)
 rename_i g2 g3
 refine ax [2,3] rfl (fun i:Nat=> [(5,.int .i64 (i:Int))]) (fun _=> [.box g3 53 (aH r),.box g2 135 [.int .i64 e.at_.col,.int .i64 e.at_.row,tv,.slice Al L.length cl]]) (fun i=>i≤L.length∧aG L r=aG (L.drop i) r) (fun i=>L.length - i) 0 ⟨by omega,rfl⟩ sB mS ?_
 rintro i ⟨hi,hrec⟩
 by_cases hlt:i<L.length
 ·
  obtain ⟨gl,ol,rfl,hrl⟩:=hl3 (by omega)
  have hu:=hrl.elem gG i hlt
  rw [Pf hlt] at hrec
  unfold aG at hrec
  rw [List.any_cons] at hrec
  unfold aG
  generalize L[i]=u at hu hrec
  have hM:=fun w=>Eu u.rect r w
  unfold ku at hrec
  generalize nU u.rect r=mr at hM hrec
  obtain ⟨m1,m2⟩:=mr
  dsimp only at hM
  repeat' (first|refine sT ?_|refine sS ?_|refine sN ?_|refine sM fun _=> ?_|(refine sC ?_ ?_<;>intro hb<;>try omega)|fail)
  all_goals try (exfalso;omega)
  refine aK 0 0 ?_
  refine uC (id:=4) (fun|11=>some fun g=> .pointer (some ⟨g.2,0,none⟩)|_=>none)
   (fun (D:fw) (q:Nat→Gh)=>(bif D 11 then Blk.box (q 11).2 53 (bif D 12 then aH m1 else [.int .i64 0,.int .i64 0,.int .i64 0,.int .i64 0]) else NG):: .box g3 53 (aH r):: .box g2 135 [.int .i64 e.at_.col,.int .i64 e.at_.row,tv,.slice (some ⟨gl,ol,none⟩) L.length cl]:: []) ?_ ?_ ?_ ?_
  ·
   kernel_rfl
  ·
   kernel_rfl
  ·
   intro γ
   exact mS
  intro γ
  repeat' (first|(apply y5 (d:=19);(iterate 3 exact rfl);(intro D ht;apply ag (j:=i);exact rfl;exact rfl;exact hlt);exact fun _=>rfl)|(apply y5 (d:=21);(iterate 3 exact rfl);(intro D ht;apply cI (off:=0) (ys:=aH u.rect) hu;(iterate 3 exact rfl));exact fun _=>rfl)|(apply uq (f:=128);(iterate 3 exact rfl);(decide+kernel);exact rfl;(intro D ht w hm;exact hM w);exact fun _=>rfl)|refine sT ?_|refine sS ?_|refine sX ?_|refine sM fun _=> ?_|(refine sC ?_ ?_<;>intro hb<;>try omega)|(refine sCX ?_ ?_<;>intro hb<;>try omega)|fail)
  refine uo rfl rfl rfl (fun D ht=> ?_) ?_
  ·
   have n10:D 11=false:=ht.not
   have n11:D 12=false:=ht.late (j:=12) (f:=60) (by decide+kernel)
   (simp only [gat,put,upd,Nat.reduceEqDiff,Nat.reduceAdd,reduceIte,n10,n11,cond_true,cond_false,O4,O3,Qq,Qv,PZ,Qa])
   (with_reducible apply AU);exact rfl;intro g
   refine pF ⟨rfl,(none,g),rfl,?_⟩
   (simp only [gat,put,upd,Nat.reduceEqDiff,Nat.reduceAdd,reduceIte,n10,n11,cond_true,cond_false,O4,O3,Qq,Qv,PZ,Qa])
   exact mS
  refine MT (T:=53) (vs:=aH m1) rfl rfl rfl rfl rfl rfl rfl (fun D ht=> ?_) ?_
  ·
   have n11:D 12=false:=ht.not
   have n10:D 11=true:=ht.early (i:=11) (f:=60) (by decide+kernel)
   (simp only [gat,put,upd,Nat.reduceEqDiff,Nat.reduceAdd,reduceIte,n10,n11,cond_true,cond_false,O4,O3,Qq,Qv,PZ,Qa])
   refine ⟨_,_,.hd,?_,?_⟩
   ·
    exact SJ rfl
   ·
    exact mS
  repeat' (first|refine sT ?_|refine sS ?_|refine sX ?_|refine sM fun _=> ?_|(refine sC ?_ ?_<;>intro hb<;>try omega)|(refine sCX ?_ ?_<;>intro hb<;>try omega)|fail)
  intro D hD
  have n10:=hD 11 (by decide)
  have n11:=hD 12 (by decide)
  (simp only [gat,put,upd,Nat.reduceEqDiff,Nat.reduceAdd,reduceIte,n10,n11,cond_true,cond_false,O4,O3,Qq,Qv,PZ,Qa])
  cases m2
  ·
   repeat' (first|refine sT ?_|refine sS ?_|refine sN ?_|refine sM fun _=> ?_|(refine sC ?_ ?_<;>intro hb<;>try omega)|fail)
   refine ⟨i+1,⟨hlt,hrec⟩,by omega,?_,?_,?_⟩
   ·
    exact sB
   ·
    exact sB
   ·
    exact mS
  ·
   repeat' (first|refine sT ?_|refine sS ?_|refine sN ?_|refine sM fun _=> ?_|(refine sC ?_ ?_<;>intro hb<;>try omega)|fail)
   refine bK eIO rfl rfl (.nil _) ?_
   rw [show L.any (ku r)=true from hrec]
 ·
  have e2:i=L.length:=by omega
  subst e2
  rw [PT] at hrec
  rw [hrec]
  repeat' (first|refine sT ?_|refine sS ?_|refine sN ?_|refine sM fun _=> ?_|(refine sC ?_ ?_<;>intro hb<;>try omega)|fail)
  all_goals first
   |(exfalso;omega)
   |exact bK eIO rfl rfl (.nil _) rfl
def eD (a:Rf) (x:En) (st:List En × Bool) (e:En):List En × Bool:=
 let st1:=if st.2=false∧bp a e.at_=true then (st.1++ [x],true) else st
 (if e.at_≠a then st1.1++ [e] else st1.1,st1.2)
def E5 (x:En) (st:List En × Bool):List En:=if st.2 then st.1 else st.1++ [x]
def xg (a:Rf) (x:En) (d:Bool) (L:List En):List En:=E5 x (L.foldl (eD a x) ([],d))
theorem wu (a:Rf) (x:En): ∀ (L:List En) (O:List En),L.foldl (eD a x) (O,true)=(O++L.filter (fun e=>decide (e.at_≠a)),true)
 | [],O=>by simp
 |e::r,O=>by
  rw [Qc]
  have:eD a x (O,true) e=(if e.at_≠a then O++ [e] else O,true):=by simp [eD]
  rw [this,wu a x r,RA]
  by_cases h:e.at_≠a
  ·
   simp [h]
  ·
   simp [h]
theorem Ju (a:Rf) (x:En) (L:List En):(xg a x true L).map En.abs=xy (L.map En.abs) a:=by
 unfold xg
 rw [wu]
 simp only [E5,if_true,O4,xy,SC]
 rfl
theorem wq {a:Rf} {x:En}: ∀ (L:List En) (O:List En),SortG (L.map En.abs)→
  E5 x (L.foldl (eD a x) (O,false))=O++(L.filter (fun e=>bp e.at_ a)++x::L.filter fun e=>bp a e.at_)
 | [],O,_=>by simp [E5]
 |e::r,O,hs=>by
  rw [PB] at hs
  obtain ⟨h1,h2⟩:=Qn.1 hs
  rw [Qc,RA,RA]
  cases hl:bp a e.at_ with
  |true=>
   have hne:e.at_≠a:=(iz hl).symm
   have hge:bp e.at_ a=false:=lm hl
   have hst:eD a x (O,false) e=(O++ [x]++ [e],true):=by simp [eD,hl,hne]
   have hall: ∀ f∈r,bp a f.at_=true:=fun f hf=>s9 hl (h1 f.abs (Py.2 ⟨f,hf,rfl⟩))
   have e1:r.filter (fun f=>decide (f.at_≠a))=r:=List.filter_eq_self.2 fun f hf=>by simpa using (iz (hall f hf)).symm
   have e2:r.filter (fun f=>bp f.at_ a)= []:=List.filter_eq_nil_iff.2 fun f hf=>by rw [lm (hall f hf)];simp
   have e3:r.filter (fun f=>bp a f.at_)=r:=List.filter_eq_self.2 hall
   rw [hst,wu,hge,e1,e2,e3]
   simp [E5]
  |false=>
   by_cases hne:e.at_=a
   ·
    have hst:eD a x (O,false) e=(O,false):=by simp [eD,hne,oH]
    have hle:bp e.at_ a=false:=by rw [hne];exact oH a
    rw [hst,wq r O h2,hle]
    simp
   ·
    have hst:eD a x (O,false) e=(O++ [e],false):=by simp [eD,hl,hne]
    have hle:bp e.at_ a=true:=by
     rcases CC hne with h|h
     ·
      exact h
     ·
      rw [hl] at h;cases h
    rw [hst,wq r _ h2,hle]
    simp
theorem Jt {a:Rf} {x:En} (hx:x.at_=a) {L:List En} (hs:SortG (L.map En.abs)):(xg a x false L).map En.abs=tO (L.map En.abs) a (x.tree,x.uses):=by
 unfold xg
 rw [wq L [] hs,O4,P4,PB,tO,SC,SC]
 subst hx
 rfl
theorem G7 {a:Rf} {x:En} {st:List En × Bool} {e f:En} (h:f∈(eD a x st e).1):f∈st.1∨f=x∨f=e:=by
 have h1: ∀ q:List En,f∈(if e.at_≠a then q++ [e] else q)→f∈q∨f=e:=by
  intro q hq
  split at hq
  ·
   rcases Pz.1 hq with hq|hq
   ·
    exact .inl hq
   ·
    exact .inr (Pv.1 hq)
  ·
   exact .inl hq
 unfold eD at h
 dsimp only at h
 rcases h1 _ h with h|h
 ·
  split at h
  ·
   rcases Pz.1 h with h|h
   ·
    exact .inl h
   ·
    exact .inr (.inl (Pv.1 h))
  ·
   exact .inl h
 ·
  exact .inr (.inr h)
theorem wo {a:Rf} {x:En}: ∀ (L:List En) (st:List En × Bool) {f:En},f∈(L.foldl (eD a x) st).1→f∈st.1∨f=x∨f∈L
 | [],_,_,h=> .inl h
 |e::r,st,f,h=>by
  rw [Qc] at h
  rcases wo r _ h with h|h|h
  ·
   rcases G7 h with h|h|h
   ·
    exact .inl h
   ·
    exact .inr (.inl h)
   ·
    exact .inr (.inr (h ▸ O7))
  ·
   exact .inr (.inl h)
  ·
   exact .inr (.inr (O9 _ h))
theorem Js {a:Rf} {x:En} {d:Bool} {L:List En} {f:En} (h:f∈xg a x d L):f=x∨f∈L:=by
 unfold xg E5 at h
 split at h
 ·
  rcases wo L _ h with h|h|h
  ·
   cases h
  ·
   exact .inl h
  ·
   exact .inr h
 ·
  rcases Pz.1 h with h|h
  ·
   rcases wo L _ h with h|h|h
   ·
    cases h
   ·
    exact .inl h
   ·
    exact .inr h
  ·
   exact .inl (Pv.1 h)
theorem CL {l:List Int} {fin:Int}: ∀ n∈(bT (bw bH l) fin).1,wfN n:=by
 have hnum:=sA l
 generalize bw bH l=x at hnum
 unfold bT
 split
 ·
  exact fun _ h=>by cases h
 ·
  split
  ·
   exact fun _ h=>by cases h
  ·
   exact fun _ h=>by cases h
  ·
   rename_i n p hp
   have hwf:=zx _ _ _ _ _ _ hp (⟨hnum,fun _ h=>by cases h⟩:Wf ⟨x.1,[]⟩)
   split
   ·
    exact fun _ h=>by cases h
   ·
    split
    ·
     exact fun _ h=>by cases h
    ·
     exact hwf.2
theorem Nz (b:ByteArray): ∀ n∈(ofP b).1.tree,wfN n:=by
 rw [JR]
 unfold ofR
 split
 ·
  exact fun _ h=>by cases h
 ·
  split
  ·
   exact fun _ h=>by cases h
  ·
   split
   ·
    exact fun _ h=>by cases h
   ·
    have h:=CL (l:=ap (sub b 1 b.size)) (fin:=((sub b 1 b.size).size:Int))
    generalize bT (bw bH (ap (sub b 1 b.size))) ((sub b 1 b.size).size:Int)=r at h
    obtain ⟨t,a,e⟩:=r
    dsimp only at h ⊢
    split
    ·
     exact fun _ h=>by cases h
    ·
     exact h
theorem fT {L:List En} {i:Nat} (h:i<L.length):((L.flatMap bG).drop (0+i*4+0)).take 2=aw L[i].at_:=by
 have he:=congrArg (List.take 2) (cK qV L i h)
 rw [List.take_take] at he
 rw [Pn]
 exact he
theorem jz {L:List En} {i:Nat} (h:i<L.length):((L.flatMap bG).drop (0+i*4)).take 4=bG L[i]:=by
 rw [Pn];exact cK qV L i h
theorem DN (L:List Nd):(iH L).1.length≤L.length:=by
 unfold iH
 split
 ·
  exact Pb _
 ·
  exact fL L 0
set_option maxHeartbeats 4000000 in
theorem BX (g:Nat) (A:Option Nat) (cap:Nat) (L:List En) (G:Gr) (a:Rf) (b:ByteArray) (R F:List Blk) (w0:World) (hR:RGOk R L G) (hs:SortG G) (hlen:L.length≤1000):
    FnIn Tryz.prog 49 [.pointer (some ⟨g,0,none⟩),aO a,.string b] w0 (rgB g A cap L++(R++F)) fun v H=>v= .int .i64 (fX G a b).2∧ ∃ A' cap' L' R',H=rgB g A' cap' L' ++(R' ++F)∧MSub R R' ∧RGOk R' L' (fX G a b).1:=by
  refine bM Tryz.func49 rfl Tryz.ntmps49 rfl ?_
  have hV:=fun (w' :World)=>(jw a.col a.row w' :aF Tryz.prog 113 [aO a] w' (.bool (valid a.col a.row)))
  have hO:=fun (w' :World)=>BN b w'
  unfold fX
  by_cases hv:a.valid=false
  · rw [if_pos hv]
    have hv' :valid a.col a.row=false:=hv
    rw [hv'] at hV
    repeat' (first|(apply aa;exact rfl;exact rfl;(intro w hm;exact hV w))|refine sT ?_|refine sS ?_|refine sM fun _=> ?_|(refine sC ?_ ?_<;>intro hb<;>try omega)|fail)
    all_goals exact bK eIO rfl rfl (by unfold rgB;exact mS) ⟨rfl,A,cap,L,R,rfl,MSub.refl _,hR⟩
  rw [if_neg hv]
  have hv' :valid a.col a.row=true:=by
    have:a.valid=valid a.col a.row:=rfl
    rw [this] at hv
    simpa using hv
  rw [hv'] at hV
  have hlen2:=zI b
  have htree:=vM (b:=b)
  have hwf:=Nz b
  generalize ofP b=r at hO hlen2 htree hwf
  obtain ⟨⟨fm,v,t⟩,at_,e⟩:=r
  simp only [ofV,z7] at hO
  dsimp only at hlen2 htree hwf ⊢
  by_cases he:e≠0
  · rw [if_pos he]
    repeat' (first|(apply aa;exact rfl;exact rfl;(intro w hm;exact hV w))|(apply aS (f:=114);exact rfl;exact rfl;(intro w' hm;exact hO w');rintro _ _ ⟨A0,cap0,rfl,rfl⟩)|refine sT ?_|refine sS ?_|refine sM fun _=> ?_|(refine sC ?_ ?_<;>intro hb<;>try omega)|fail)
    all_goals exact bK eIO rfl rfl (by unfold rgB;exact mS) ⟨rfl,A,cap,L,R,rfl,MSub.refl _,hR⟩
  rw [if_neg he]
  have he0:e=0:=by omega
  subst he0
  have hU:=fun (w' :World) (A:Option Nat) (cap:Nat) (H' :List Blk) (hi:In (.own A 157 11 t.length cap (t.flatMap bg)) H') (hm:Mem w0 w' H')=>Em t hwf (sl A t.length cap) w' (Reads.of_own hm hi)
  have hul:(iH t).1.length≤256:=PK (DN t) hlen2
  have hus:fm=true→dY t=(iH t).1:=fun h=>by unfold iH;rw [htree rfl h];rfl
  obtain ⟨⟨us,ue⟩,hue⟩: ∃ x,iH t=x:=⟨_,rfl⟩
  rw [hue] at hU hul hus
  dsimp only at hU hul hus
  refine aK 135 4 ?_
  repeat' (first|(apply aa;exact rfl;exact rfl;(intro w hm;exact hV w))|(apply aS (f:=114);exact rfl;exact rfl;(intro w' hm;exact hO w');rintro _ _ ⟨A0,cap0,rfl,rfl⟩)|(apply aS (f:=115);exact rfl;exact rfl;(intro w' hm;exact hU w' _ _ _ pK hm);rintro _ _ ⟨A2,cap2,rfl,rfl⟩)|refine sT ?_|refine sS ?_|refine sM fun _=> ?_|(refine sC ?_ ?_<;>intro hb<;>try omega)|fail)
  all_goals try (exfalso;omega)
  rename_i g4 g7
  obtain ⟨x,hxd⟩: ∃ x:En,x=⟨a,A0.map fun g=>⟨g,0,none⟩,cap0,A2.map fun g=>⟨g,0,none⟩,cap2,t,us,0⟩:=⟨_,rfl⟩
  have hxe:bG x= [.int .i64 a.col,.int .i64 a.row,sl A0 t.length cap0,sl A2 us.length cap2]:=by rw [hxd];rfl
  obtain ⟨d0,hd0⟩: ∃ d0,(!fm)=d0:=⟨_,rfl⟩
  have hfin:(xg a x d0 L).map En.abs=(if fm=false then (xy G a,(0:Int)) else (tO G a (t,dY t),0)).1:=by
    rw [← hd0]
    cases fm with
    |false=>rw [if_pos rfl,← hR.rel];exact Ju a x L
    |true=>
      rw [if_neg (by simp),hus rfl,← hR.rel]
      have:=Jt (x:=x) (a:=a) (by rw [hxd]) (L:=L) (by rw [hR.rel];exact hs)
      rw [hxd] at this ⊢
      exact this
  have hfin2:(if fm=false then (xy G a,(0:Int)) else (tO G a (t,dY t),0)).2=0:=by cases fm<;>rfl
  have hRx:RGOk (.own A0 157 11 t.length cap0 (t.flatMap bg):: .own A2 89 6 us.length cap2 (us.flatMap bQ)::R) (xg a x d0 L) (if fm=false then (xy G a,(0:Int)) else (tO G a (t,dY t),0)).1:=by
    refine ⟨fun f hf=> ?_,hfin⟩
    rcases Js hf with rfl|hf
    · rw [hxd]
      exact ⟨rdIn.own (A:=A0) pK,rdIn.own (A:=A2) pK,by dsimp only;omega,by dsimp only;omega⟩
    · exact (hR.en f hf).sub mS
  refine ax [0,4,7,10] rfl (fun y:Nat × List En × Bool × Option Nat × Nat=> [(12,sl y.2.2.2.1 y.2.1.length y.2.2.2.2),(13,.bool y.2.2.1),(14,.int .i64 (y.1:Int))]) (fun y=> .own y.2.2.2.1 135 4 y.2.1.length y.2.2.2.2 (y.2.1.flatMap bG):: .own A2 89 6 us.length cap2 (us.flatMap bQ):: .box g7 204 [.bool fm,.int .u8 v.kind,.int .i64 v.num,.string v.text,sl A0 t.length cap0]:: .own A0 157 11 t.length cap0 (t.flatMap bg):: .box g4 24 (aw a):: .box g 138 [sl A L.length cap]:: .own A 135 4 L.length cap (L.flatMap bG)::(R++F)) (fun y=>y.1≤L.length∧(L.take y.1).foldl (eD a x) ([],d0)=(y.2.1,y.2.2.1)∧y.2.1.length≤2*y.1) (fun y=>L.length - y.1) (0,[],d0,none,0) ⟨Pb _,rfl,Ph _⟩ (by subst hd0;exact sB) (by unfold rgB;simp only [O8,O3,O4];exact mS) ?_
  clear hU hO
  rintro ⟨i,O,d,A3,c3⟩ ⟨hi,hf,hOl⟩
  dsimp only at hi hf hOl ⊢
  by_cases hlt:i<L.length
  · refine bW (A:=A) pK (by omega) fun gl hA=> ?_
    subst hA
    have hnx:(L.take (i+1)).foldl (eD a x) ([],d0)=eD a x (O,d) L[i]:=by
      rw [Po hlt,RN,hf];rfl
    have hc:=fT hlt
    have ha:=jz hlt
    have hL:=fun w' =>vk a L[i].at_ w'
    generalize L[i]=e at hc ha hL hnx
    obtain ⟨c1,hc1⟩: ∃ c1,bp a e.at_=c1:=⟨_,rfl⟩
    obtain ⟨c2,hc2⟩: ∃ c2,decide (e.at_≠a)=c2:=⟨_,rfl⟩
    rw [hc1] at hL
    have hc2' :c2=true↔e.at_≠a:=by rw [← hc2];simp
    cases d with
    |false=>
      cases c1 with
      |true=>
        have hne:e.at_≠a:=(iz hc1).symm
        obtain rfl:c2=true:=hc2'.2 hne
        have hst:eD a x (O,false) e=(O++ [x]++ [e],true):=by simp [eD,hc1,hne]
        repeat' (first|(apply aP;exact rfl;apply ag (j:=i);exact rfl;exact rfl;exact hlt)|(apply aj;exact rfl;apply ag (j:=i);exact rfl;exact rfl;exact hlt)|(apply aP;exact rfl;apply az (ys:=aw e.at_);exact rfl;exact pK;exact hc;exact rfl)|(apply aj;exact rfl;apply az (ys:=bG e);exact rfl;exact pK;exact ha;exact rfl)|(apply aP;exact rfl;apply dC;exact hc2;exact rfl;exact rfl)|(apply bz;exact rfl;exact rfl;(intro w hm;exact hL w))|(apply aU;(iterate 3 exact rfl);exact pK;exact pK;exact rfl;(simp [bG,En.tv,En.uv,sl,Value.oneCell']);omega;(simp only [maxLen];omega);intro g8 c8)|refine sT ?_|refine sS ?_|refine sQ ?_|refine sN ?_|refine sNQ ?_|refine sD ?_|refine sM fun _=> ?_|(refine sC ?_ ?_<;>intro hb<;>try omega)|(refine sCQ ?_ ?_<;>intro hb<;>try omega)|fail)
        all_goals first
          |(exfalso;omega)
          | (refine ⟨(i + 1, O ++ [x] ++ [e], true, some g8, c8), ⟨hlt, (hnx.trans hst), (by (try simp only [List.length_append, List.length_singleton]); omega)⟩, (by dsimp only; omega), (by (try simp only [List.length_append, List.length_singleton]); exact sB), sB, ?_⟩
             simp only [O2,O6,Pj,Pd,Pq,Pa,O8,O3,O4,hxe]
             exact mS)
      |false=>
        by_cases hne:e.at_≠a
        · obtain rfl:c2=true:=hc2'.2 hne
          have hst:eD a x (O,false) e=(O++ [e],false):=by simp [eD,hc1,hne]
          repeat' (first|(apply aP;exact rfl;apply ag (j:=i);exact rfl;exact rfl;exact hlt)|(apply aj;exact rfl;apply ag (j:=i);exact rfl;exact rfl;exact hlt)|(apply aP;exact rfl;apply az (ys:=aw e.at_);exact rfl;exact pK;exact hc;exact rfl)|(apply aj;exact rfl;apply az (ys:=bG e);exact rfl;exact pK;exact ha;exact rfl)|(apply aP;exact rfl;apply dC;exact hc2;exact rfl;exact rfl)|(apply bz;exact rfl;exact rfl;(intro w hm;exact hL w))|(apply aU;(iterate 3 exact rfl);exact pK;exact pK;exact rfl;(simp [bG,En.tv,En.uv,sl,Value.oneCell']);omega;(simp only [maxLen];omega);intro g8 c8)|refine sT ?_|refine sS ?_|refine sQ ?_|refine sN ?_|refine sNQ ?_|refine sD ?_|refine sM fun _=> ?_|(refine sC ?_ ?_<;>intro hb<;>try omega)|(refine sCQ ?_ ?_<;>intro hb<;>try omega)|fail)
          all_goals first
            |(exfalso;omega)
            | (refine ⟨(i + 1, O ++ [e], false, some g8, c8), ⟨hlt, (hnx.trans hst), (by (try simp only [List.length_append, List.length_singleton]); omega)⟩, (by dsimp only; omega), (by (try simp only [List.length_append, List.length_singleton]); exact sB), sB, ?_⟩
               simp only [O2,O6,Pj,Pd,Pq,Pa,O8,O3,O4,hxe]
               exact mS)
        · obtain rfl:c2=false:=by cases c2 with|false=>rfl|true=>exact absurd (hc2'.1 rfl) hne
          have hst:eD a x (O,false) e=(O,false):=by
            have:=Classical.not_not.1 hne
            simp [eD,this,oH]
          repeat' (first|(apply aP;exact rfl;apply ag (j:=i);exact rfl;exact rfl;exact hlt)|(apply aj;exact rfl;apply ag (j:=i);exact rfl;exact rfl;exact hlt)|(apply aP;exact rfl;apply az (ys:=aw e.at_);exact rfl;exact pK;exact hc;exact rfl)|(apply aj;exact rfl;apply az (ys:=bG e);exact rfl;exact pK;exact ha;exact rfl)|(apply aP;exact rfl;apply dC;exact hc2;exact rfl;exact rfl)|(apply bz;exact rfl;exact rfl;(intro w hm;exact hL w))|(apply aU;(iterate 3 exact rfl);exact pK;exact pK;exact rfl;(simp [bG,En.tv,En.uv,sl,Value.oneCell']);omega;(simp only [maxLen];omega);intro g8 c8)|refine sT ?_|refine sS ?_|refine sQ ?_|refine sN ?_|refine sNQ ?_|refine sD ?_|refine sM fun _=> ?_|(refine sC ?_ ?_<;>intro hb<;>try omega)|(refine sCQ ?_ ?_<;>intro hb<;>try omega)|fail)
          all_goals first
            |(exfalso;omega)
            | (refine ⟨(i + 1, O, false, A3, c3), ⟨hlt, (hnx.trans hst), (by (try simp only [List.length_append, List.length_singleton]); omega)⟩, (by dsimp only; omega), (by (try simp only [List.length_append, List.length_singleton]); exact sB), sB, ?_⟩
               simp only [O2,O6,Pj,Pd,Pq,Pa,O8,O3,O4,hxe]
               exact mS)
    |true=>
      by_cases hne:e.at_≠a
      · obtain rfl:c2=true:=hc2'.2 hne
        have hst:eD a x (O,true) e=(O++ [e],true):=by simp [eD,hne]
        repeat' (first|(apply aP;exact rfl;apply ag (j:=i);exact rfl;exact rfl;exact hlt)|(apply aj;exact rfl;apply ag (j:=i);exact rfl;exact rfl;exact hlt)|(apply aP;exact rfl;apply az (ys:=aw e.at_);exact rfl;exact pK;exact hc;exact rfl)|(apply aj;exact rfl;apply az (ys:=bG e);exact rfl;exact pK;exact ha;exact rfl)|(apply aP;exact rfl;apply dC;exact hc2;exact rfl;exact rfl)|(apply bz;exact rfl;exact rfl;(intro w hm;exact hL w))|(apply aU;(iterate 3 exact rfl);exact pK;exact pK;exact rfl;(simp [bG,En.tv,En.uv,sl,Value.oneCell']);omega;(simp only [maxLen];omega);intro g8 c8)|refine sT ?_|refine sS ?_|refine sQ ?_|refine sN ?_|refine sNQ ?_|refine sD ?_|refine sM fun _=> ?_|(refine sC ?_ ?_<;>intro hb<;>try omega)|(refine sCQ ?_ ?_<;>intro hb<;>try omega)|fail)
        all_goals first
          |(exfalso;omega)
          | (refine ⟨(i + 1, O ++ [e], true, some g8, c8), ⟨hlt, (hnx.trans hst), (by (try simp only [List.length_append, List.length_singleton]); omega)⟩, (by dsimp only; omega), (by (try simp only [List.length_append, List.length_singleton]); exact sB), sB, ?_⟩
             simp only [O2,O6,Pj,Pd,Pq,Pa,O8,O3,O4,hxe]
             exact mS)
      · obtain rfl:c2=false:=by cases c2 with|false=>rfl|true=>exact absurd (hc2'.1 rfl) hne
        have hst:eD a x (O,true) e=(O,true):=by
          have:=Classical.not_not.1 hne
          simp [eD,this]
        repeat' (first|(apply aP;exact rfl;apply ag (j:=i);exact rfl;exact rfl;exact hlt)|(apply aj;exact rfl;apply ag (j:=i);exact rfl;exact rfl;exact hlt)|(apply aP;exact rfl;apply az (ys:=aw e.at_);exact rfl;exact pK;exact hc;exact rfl)|(apply aj;exact rfl;apply az (ys:=bG e);exact rfl;exact pK;exact ha;exact rfl)|(apply aP;exact rfl;apply dC;exact hc2;exact rfl;exact rfl)|(apply bz;exact rfl;exact rfl;(intro w hm;exact hL w))|(apply aU;(iterate 3 exact rfl);exact pK;exact pK;exact rfl;(simp [bG,En.tv,En.uv,sl,Value.oneCell']);omega;(simp only [maxLen];omega);intro g8 c8)|refine sT ?_|refine sS ?_|refine sQ ?_|refine sN ?_|refine sNQ ?_|refine sD ?_|refine sM fun _=> ?_|(refine sC ?_ ?_<;>intro hb<;>try omega)|(refine sCQ ?_ ?_<;>intro hb<;>try omega)|fail)
        all_goals first
          |(exfalso;omega)
          | (refine ⟨(i + 1, O, true, A3, c3), ⟨hlt, (hnx.trans hst), (by (try simp only [List.length_append, List.length_singleton]); omega)⟩, (by dsimp only; omega), (by (try simp only [List.length_append, List.length_singleton]); exact sB), sB, ?_⟩
             simp only [O2,O6,Pj,Pd,Pq,Pa,O8,O3,O4,hxe]
             exact mS)
  · have e2:i=L.length:=by omega
    subst e2
    rw [Qe] at hf
    have hset:xg a x d0 L=E5 x (O,d):=by unfold xg;rw [hf]
    rw [hset] at hRx
    cases d
    · repeat' (first|(apply aU;(iterate 3 exact rfl);exact pK;exact pK;exact rfl;(simp [bG,En.tv,En.uv,sl,Value.oneCell']);omega;(simp only [maxLen];omega);intro g8 c8)|refine sT ?_|refine sS ?_|refine sN ?_|refine sM fun _=> ?_|(refine sC ?_ ?_<;>intro hb<;>try omega)|fail)
      all_goals first
        |(exfalso;omega)
        | (refine bK eIO rfl rfl (H' := rgB g (some g8) c8 (O ++ [x]) ++ ((.own A0 157 11 t.length cap0 (t.flatMap bg) :: .own A2 89 6 us.length cap2 (us.flatMap bQ) :: R) ++ F)) ?_ ⟨by rw [hfin2], some g8, c8, O ++ [x], _, rfl, mS, hRx⟩
           simp only [rgB,O2,O6,Pj,Pd,Pq,Pa,O8,O3,O4,hxe]
           exact mS)
    · repeat' (first|refine sT ?_|refine sS ?_|refine sN ?_|refine sM fun _=> ?_|(refine sC ?_ ?_<;>intro hb<;>try omega)|fail)
      all_goals first
        |(exfalso;omega)
        | (refine bK eIO rfl rfl (H' := rgB g A3 c3 O ++ ((.own A0 157 11 t.length cap0 (t.flatMap bg) :: .own A2 89 6 us.length cap2 (us.flatMap bQ) :: R) ++ F)) ?_ ⟨by rw [hfin2], A3, c3, O, _, rfl, mS, hRx⟩
           simp only [rgB,O8,O3,O4]
           exact mS)
theorem LM (g:Nat) (A:Option Nat) (cap:Nat) (L:List En) (G:Gr) (a:Rf) (b:ByteArray) (R:List Blk) (w0:World) (hR:RGOk R L G) (hs:SortG G) (hlen:L.length≤1000):
  FnIn Tryz.prog 49 [.pointer (some ⟨g,0,none⟩),aO a,.string b] w0 (rgB g A cap L++R) fun v H=>v= .int .i64 (fX G a b).2∧ ∃ A' cap' L' R',H=rgB g A' cap' L' ++R' ∧MSub R R' ∧RGOk R' L' (fX G a b).1:=by
 have h:=BX g A cap L G a b R [] w0 hR hs hlen
 simp only [Pa] at h
 exact h
theorem gX (L:List En) (a:Rf):(CJ L a= -1∧dR L a=none)∨ ∃ (i:Nat) (h:i<L.length),CJ L a=(i:Int)∧dR L a=some L[i]:=by
 unfold CJ dR
 cases hf:L.findIdx? (fun e=>decide (e.at_=a)) with
 |none=>
  left
  refine ⟨rfl,?_⟩
  rw [Qg] at hf
  rw [QV]
  exact fun e he=>by simpa using hf e he
 |some i=>
  right
  obtain ⟨h,h1,h2⟩:=P8.1 hf
  exact ⟨i,h,rfl,Sn.2 ⟨h1,i,h,rfl,fun j hj=>by simpa using h2 j hj⟩⟩
theorem Ic {L:List En} {i:Nat} {e:En} (h:((L.flatMap bG).drop (0+i*4)).take 4=bG e):(L.flatMap bG)[0+i*4+3]? =some e.uv:=by
 have:=congrArg (fun l=>l[3]?) h
 rw [QC (by decide),Qi] at this
 exact this
theorem Ie {L:List En} {i:Nat} {e:En} (h:((L.flatMap bG).drop (0+i*4)).take 4=bG e):(L.flatMap bG)[0+i*4+2]? =some e.tv:=by
 have:=congrArg (fun l=>l[2]?) h
 rw [QC (by decide),Qi] at this
 exact this
set_option maxHeartbeats 2000000 in
theorem JD (g:Nat) (A:Option Nat) (cap:Nat) (L:List En) (a:Rf) (R:List Blk) (w0:World) (hE: ∀ e∈L,EnOk R e) (hlen:L.length≤1000):
  FnIn Tryz.prog 81 [.pointer (some ⟨g,0,none⟩),aO a] w0 (rgB g A cap L++R) fun v H=> ∃ A' cap',v=sl A' (aY L a).uses.length cap' ∧H= .own A' 89 6 (aY L a).uses.length cap' ((aY L a).uses.flatMap bQ)::(rgB g A cap L++R):=by
 refine bM Tryz.func81 rfl Tryz.ntmps81 rfl ?_
 have hI:=fun (H' :List Blk) (hs:MSub (rgB g A cap L) H') (w' :World) (hm:Mem w0 w' H')=>jY g _ cap L a w' (RGm.of hs hm) (by omega)
 refine aK 89 6 ?_
 rcases gX L a with ⟨hidx,hf⟩|⟨i,hlt,hidx,hf⟩
 ·
  rw [hidx] at hI
  have hfd:(aY L a).uses= []:=by rw [aY,hf];rfl
  rw [hfd]
  unfold rgB
  repeat' (first|(apply aa (f:=60);exact rfl;exact rfl;exact fun w' hm=>hI _ (by unfold rgB;exact mS) w' hm)|refine sT ?_|refine sS ?_|refine sM fun _=> ?_|(refine sC ?_ ?_<;>intro hb<;>try omega)|fail)
  all_goals first
   |(exfalso;omega)
   |exact bK eIO rfl rfl (H' := .own none 89 6 0 0 []::(rgB g A cap L++R)) (by unfold rgB;simp only [O8,O3,O4];exact mS) ⟨none,0,rfl,rfl⟩
 ·
  have hfd:aY L a=L[i]:=by rw [aY,hf];rfl
  rw [hidx] at hI
  rw [hfd]
  have hoke:=hE L[i] (PG hlt)
  have ha:=jz hlt
  generalize L[i]=e at hoke ha
  refine bW (A:=A) (by unfold rgB;exact pK) (by omega) fun gl hA=> ?_
  subst hA
  unfold rgB
  repeat' (first|(apply aa (f:=60);exact rfl;exact rfl;exact fun w' hm=>hI _ (by unfold rgB;exact mS) w' hm)|refine sT ?_|refine sS ?_|refine sM fun _=> ?_|(refine sC ?_ ?_<;>intro hb<;>try omega)|fail)
  all_goals try (exfalso;omega)
  rename_i g3
  refine aK 0 0 ?_
  refine aK 0 0 ?_
  refine uC (id:=3) (fun|0=>some fun g=> .slice (some ⟨g.2,0,none⟩) 0 0|11=>some fun g=>sl g.1 e.uses.length g.2|_=>none)
   (fun (D:fw) (q:Nat→Gh)=>(bif D 11 then Blk.own (q 11).1 89 6 e.uses.length (q 11).2 (e.uses.flatMap bQ) else bif D 0 then .own (some (q 0).2) 89 6 0 0 [] else NG):: .box g3 24 (aw a):: .box g 138 [sl (some gl) L.length cap]:: .own (some gl) 135 4 L.length cap (L.flatMap bG)::R) ?_ ?_ ?_ ?_
  ·
   kernel_rfl
  ·
   kernel_rfl
  ·
   intro γ
   exact mS
  intro γ
  refine uo rfl rfl rfl (fun D ht=> ?_) ?_
  ·
   have n10:D 0=false:=ht.not
   have n11:D 11=false:=ht.late (j:=11) (f:=60) (by decide+kernel)
   (simp only [gat,put,upd,Nat.reduceEqDiff,Nat.reduceAdd,reduceIte,n10,n11,cond_true,cond_false,O4,O3,Qq,Qv,PZ,Qa])
   (with_reducible apply cG);exact rfl;intro gs
   refine pF ⟨rfl,(none,gs),rfl,?_⟩
   (simp only [gat,put,upd,Nat.reduceEqDiff,Nat.reduceAdd,reduceIte,n10,n11,cond_true,cond_false,O4,O3,Qq,Qv,PZ,Qa])
   exact mS
  repeat' (first|(apply uq (f:=60);(iterate 3 exact rfl);(decide+kernel);exact rfl;(intro D ht w hm;exact hI _ (by unfold rgB;exact MSub.drop .hd (MSub.drop .hd mS)) w hm);exact fun _=>rfl)|(apply y5 (d:=21);(iterate 3 exact rfl);(intro D ht;apply ag (j:=i);exact rfl;exact rfl;exact hlt);exact fun _=>rfl)|(apply y5 (d:=23);(iterate 3 exact rfl);(intro D ht;apply aC;exact rfl;exact pK;exact Ic ha);exact fun _=>rfl)|refine sT ?_|refine sS ?_|refine sX ?_|refine sM fun _=> ?_|(refine sC ?_ ?_<;>intro hb<;>try omega)|(refine sCX ?_ ?_<;>intro hb<;>try omega)|fail)
  refine uo rfl rfl rfl (fun D ht=> ?_) ?_
  ·
   have n11:D 11=false:=ht.not
   have n10:D 0=true:=ht.early (i:=0) (f:=60) (by decide+kernel)
   (simp only [gat,put,upd,Nat.reduceEqDiff,Nat.reduceAdd,reduceIte,n10,n11,cond_true,cond_false,O4,O3,Qq,Qv,PZ,Qa])
   (with_reducible apply cB (n' :=0) (c:=0) (A:=some (γ 0).2) (m:=e.uses.length));(iterate 3 exact rfl);exact pK;(intro w hm;exact hoke.uses _ w (MSub.use mS hm));exact aQ gG _;exact yE _;(have:=hoke.ul;omega);(have:=hoke.ul;simp only [maxLen];omega);(intro A6 c6 h6)
   rw [Pn,O4]
   refine pF ⟨rfl,(A6,c6),rfl,?_⟩
   (simp only [gat,put,upd,Nat.reduceEqDiff,Nat.reduceAdd,reduceIte,n10,n11,cond_true,cond_false,O4,O3,Qq,Qv,PZ,Qa])
   exact mS
  repeat' (first|refine sT ?_|refine sS ?_|refine sX ?_|refine sM fun _=> ?_|(refine sC ?_ ?_<;>intro hb<;>try omega)|(refine sCX ?_ ?_<;>intro hb<;>try omega)|fail)
  intro D hD
  have n10:=hD 0 (by decide)
  have n11:=hD 11 (by decide)
  (simp only [gat,put,upd,Nat.reduceEqDiff,Nat.reduceAdd,reduceIte,n10,n11,cond_true,cond_false,O4,O3,Qq,Qv,PZ,Qa])
  repeat' (first|refine sT ?_|refine sS ?_|refine sM fun _=> ?_|(refine sC ?_ ?_<;>intro hb<;>try omega)|fail)
  all_goals exact bK eIO rfl rfl (H' := .own (γ 11).1 89 6 e.uses.length (γ 11).2 (e.uses.flatMap bQ)::(rgB g (some gl) cap L++R)) (by unfold rgB;simp only [O8,O3,O4];exact mS) ⟨(γ 11).1,(γ 11).2,rfl,rfl⟩
set_option maxHeartbeats 2000000 in
theorem JE (g:Nat) (A:Option Nat) (cap:Nat) (L:List En) (a:Rf) (R:List Blk) (w0:World) (hE: ∀ e∈L,EnOk R e) (hlen:L.length≤1000):
  FnIn Tryz.prog 82 [.pointer (some ⟨g,0,none⟩),aO a] w0 (rgB g A cap L++R) fun v H=> ∃ A' cap',v= .tuple #[sl A' (aY L a).tree.length cap',.bool (dR L a).isSome]∧H= .own A' 157 11 (aY L a).tree.length cap' ((aY L a).tree.flatMap bg)::(rgB g A cap L++R):=by
 refine bM Tryz.func82 rfl Tryz.ntmps82 rfl ?_
 have hI:=fun (H' :List Blk) (hs:MSub (rgB g A cap L) H') (w' :World) (hm:Mem w0 w' H')=>jY g _ cap L a w' (RGm.of hs hm) (by omega)
 refine aK 157 11 ?_
 rcases gX L a with ⟨hidx,hf⟩|⟨i,hlt,hidx,hf⟩
 ·
  rw [hidx] at hI
  have hfd:(aY L a).tree= []:=by rw [aY,hf];rfl
  rw [hfd,hf]
  unfold rgB
  repeat' (first|(apply aa (f:=60);exact rfl;exact rfl;exact fun w' hm=>hI _ (by unfold rgB;exact mS) w' hm)|refine sT ?_|refine sS ?_|refine sM fun _=> ?_|(refine sC ?_ ?_<;>intro hb<;>try omega)|fail)
  all_goals first
   |(exfalso;omega)
   |exact cN eIO rfl rfl rfl (H' := .own none 157 11 0 0 []::(rgB g A cap L++R)) (by unfold rgB;simp only [O8,O3,O4];exact mS) ⟨none,0,rfl,rfl⟩
 ·
  have hfd:aY L a=L[i]:=by rw [aY,hf];rfl
  rw [hidx] at hI
  rw [hfd,hf]
  have hoke:=hE L[i] (PG hlt)
  have ha:=jz hlt
  generalize L[i]=e at hoke ha
  refine bW (A:=A) (by unfold rgB;exact pK) (by omega) fun gl hA=> ?_
  subst hA
  unfold rgB
  repeat' (first|(apply aa (f:=60);exact rfl;exact rfl;exact fun w' hm=>hI _ (by unfold rgB;exact mS) w' hm)|refine sT ?_|refine sS ?_|refine sM fun _=> ?_|(refine sC ?_ ?_<;>intro hb<;>try omega)|fail)
  all_goals try (exfalso;omega)
  rename_i g3
  refine aK 0 0 ?_
  refine aK 0 0 ?_
  refine uC (id:=3) (fun|0=>some fun g=> .slice (some ⟨g.2,0,none⟩) 0 0|11=>some fun g=>sl g.1 e.tree.length g.2|_=>none)
   (fun (D:fw) (q:Nat→Gh)=>(bif D 11 then Blk.own (q 11).1 157 11 e.tree.length (q 11).2 (e.tree.flatMap bg) else bif D 0 then .own (some (q 0).2) 157 11 0 0 [] else NG):: .box g3 24 (aw a):: .box g 138 [sl (some gl) L.length cap]:: .own (some gl) 135 4 L.length cap (L.flatMap bG)::R) ?_ ?_ ?_ ?_
  ·
   kernel_rfl
  ·
   kernel_rfl
  ·
   intro γ
   exact mS
  intro γ
  refine uo rfl rfl rfl (fun D ht=> ?_) ?_
  ·
   have n10:D 0=false:=ht.not
   have n11:D 11=false:=ht.late (j:=11) (f:=60) (by decide+kernel)
   (simp only [gat,put,upd,Nat.reduceEqDiff,Nat.reduceAdd,reduceIte,n10,n11,cond_true,cond_false,O4,O3,Qq,Qv,PZ,Qa])
   (with_reducible apply cG);exact rfl;intro gs
   refine pF ⟨rfl,(none,gs),rfl,?_⟩
   (simp only [gat,put,upd,Nat.reduceEqDiff,Nat.reduceAdd,reduceIte,n10,n11,cond_true,cond_false,O4,O3,Qq,Qv,PZ,Qa])
   exact mS
  repeat' (first|(apply uq (f:=60);(iterate 3 exact rfl);(decide+kernel);exact rfl;(intro D ht w hm;exact hI _ (by unfold rgB;exact MSub.drop .hd (MSub.drop .hd mS)) w hm);exact fun _=>rfl)|(apply y5 (d:=22);(iterate 3 exact rfl);(intro D ht;apply ag (j:=i);exact rfl;exact rfl;exact hlt);exact fun _=>rfl)|(apply y5 (d:=24);(iterate 3 exact rfl);(intro D ht;apply aC;exact rfl;exact pK;exact Ie ha);exact fun _=>rfl)|refine sT ?_|refine sS ?_|refine sX ?_|refine sM fun _=> ?_|(refine sC ?_ ?_<;>intro hb<;>try omega)|(refine sCX ?_ ?_<;>intro hb<;>try omega)|fail)
  refine uo rfl rfl rfl (fun D ht=> ?_) ?_
  ·
   have n11:D 11=false:=ht.not
   have n10:D 0=true:=ht.early (i:=0) (f:=60) (by decide+kernel)
   (simp only [gat,put,upd,Nat.reduceEqDiff,Nat.reduceAdd,reduceIte,n10,n11,cond_true,cond_false,O4,O3,Qq,Qv,PZ,Qa])
   (with_reducible apply cB (n' :=0) (c:=0) (A:=some (γ 0).2) (m:=e.tree.length));(iterate 3 exact rfl);exact pK;(intro w hm;exact hoke.tree _ w (MSub.use mS hm));exact aQ cE _;exact yI _;(have:=hoke.tl;omega);(have:=hoke.tl;simp only [maxLen];omega);(intro A6 c6 h6)
   rw [Pn,O4]
   refine pF ⟨rfl,(A6,c6),rfl,?_⟩
   (simp only [gat,put,upd,Nat.reduceEqDiff,Nat.reduceAdd,reduceIte,n10,n11,cond_true,cond_false,O4,O3,Qq,Qv,PZ,Qa])
   exact mS
  repeat' (first|refine sT ?_|refine sS ?_|refine sX ?_|refine sM fun _=> ?_|(refine sC ?_ ?_<;>intro hb<;>try omega)|(refine sCX ?_ ?_<;>intro hb<;>try omega)|fail)
  intro D hD
  have n10:=hD 0 (by decide)
  have n11:=hD 11 (by decide)
  (simp only [gat,put,upd,Nat.reduceEqDiff,Nat.reduceAdd,reduceIte,n10,n11,cond_true,cond_false,O4,O3,Qq,Qv,PZ,Qa])
  repeat' (first|refine sT ?_|refine sS ?_|refine sM fun _=> ?_|(refine sC ?_ ?_<;>intro hb<;>try omega)|fail)
  all_goals exact cN eIO rfl rfl rfl (H' := .own (γ 11).1 157 11 e.tree.length (γ 11).2 (e.tree.flatMap bg)::(rgB g (some gl) cap L++R)) (by unfold rgB;simp only [O8,O3,O4];exact mS) ⟨(γ 11).1,(γ 11).2,rfl,rfl⟩
theorem RGOk.keys {R:List Blk} {L:List En} {G:Gr} (h:RGOk R L G):L.map En.at_=aq G:=by
 rw [aq,← h.rel,QQ];rfl
set_option maxHeartbeats 2000000 in
theorem zD (g:Nat) (A:Option Nat) (cap:Nat) (L:List En) (R:List Blk) (w0:World) (hlen:L.length≤1000):
    FnIn Tryz.prog 78 [.pointer (some ⟨g,0,none⟩)] w0 (rgB g A cap L++R) fun v H=> ∃ A' cap',v=sl A' (L.map En.at_).length cap' ∧H= .own A' 24 2 (L.map En.at_).length cap' ((L.map En.at_).flatMap aw)::(rgB g A cap L++R):=by
  refine bM Tryz.func78 rfl Tryz.ntmps78 rfl ?_
  refine aK 24 2 ?_
  unfold rgB
  rw [Ps]
  repeat' (first|refine sT ?_|refine sS ?_|refine sM fun _=> ?_|(refine sC ?_ ?_<;>intro hb<;>try omega)|fail)
  refine ax [0] rfl (fun y:Nat × Option Nat × Nat=> [(3,sl y.2.1 y.1 y.2.2),(4,.int .i64 (y.1:Int))]) (fun y=> .own y.2.1 24 2 y.1 y.2.2 (((L.take y.1).map En.at_).flatMap aw):: .box g 138 [sl A L.length cap]:: .own A 135 4 L.length cap (L.flatMap bG)::R) (fun y=>y.1≤L.length) (fun y=>L.length - y.1) (0,none,0) (Pb _) sB (by simp only [O8,O3,O4,Qj,P3,Pq];exact mS) ?_
  rintro ⟨i,A3,c3⟩ hi
  dsimp only at hi ⊢
  by_cases hlt:i<L.length
  · refine bW (A:=A) pK (by omega) fun gl hA=> ?_
    subst hA
    have hc:=fT hlt
    have hnx:(L.take (i+1)).map En.at_=(L.take i).map En.at_++ [L[i].at_]:=by rw [Po hlt,P4];rfl
    generalize L[i]=e at hc hnx
    repeat' (first|(apply aj;exact rfl;apply ag (j:=i);exact rfl;exact rfl;exact hlt)|(apply aj;exact rfl;apply az (ys:=aw e.at_);exact rfl;exact pK;exact hc;exact rfl)|(apply aU;(iterate 3 exact rfl);exact pK;exact pK;exact rfl;(simp [aw,Value.oneCell']);omega;(simp only [maxLen];omega);intro g8 c8)|refine sT ?_|refine sS ?_|refine sN ?_|refine sM fun _=> ?_|(refine sC ?_ ?_<;>intro hb<;>try omega)|fail)
    all_goals first
      |(exfalso;omega)
      | (refine ⟨(i + 1, some g8, c8), hlt, (by dsimp only; omega), sB, sB, ?_⟩
         dsimp only
         rw [hnx]
         simp only [Pj,Pd,Pq,Pa,O8,O3,O4]
         exact mS)
  · have e2:i=L.length:=by omega
    subst e2
    rw [Qe]
    repeat' (first|refine sT ?_|refine sS ?_|refine sN ?_|refine sM fun _=> ?_|(refine sC ?_ ?_<;>intro hb<;>try omega)|fail)
    all_goals first
      |(exfalso;omega)
      |exact bK eIO rfl rfl (H' := .own A3 24 2 L.length c3 ((L.map En.at_).flatMap aw)::(rgB g A cap L++R)) (by unfold rgB;simp only [O8,O3,O4];exact mS) ⟨A3,c3,rfl,rfl⟩
end Go.SL
