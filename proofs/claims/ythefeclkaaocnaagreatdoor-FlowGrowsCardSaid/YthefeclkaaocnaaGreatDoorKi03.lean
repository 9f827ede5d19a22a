/-
  Lemmas and walks, put together: Ng Hy Nh Jm Ni.
-/
import Derived.Test.YthefeclkaaocnaaGreatDoorKi02
set_option linter.unusedSimpArgs false
set_option linter.unusedVariables false
set_option maxRecDepth 20000
namespace Go.SL
open Go
theorem Bn {L:List Rl} (h:(dw 64 L).2=0): ∀ R∈L,aH R.rect=true:=by
 unfold dw at h
 split at h
 ·
  cases h
 split at h
 ·
  cases h
 split at h
 ·
  cases h
 have hf: ∀ (M:List Rl) (i:Int),(eR 64 M i).2=0→ ∀ R∈M,aH R.rect=true:=by
  intro M
  induction M with
  |nil=>intro _ _ R hR;cases hR
  |cons r M ih=>
   intro i hi R hR
   rw [eR] at hi
   split at hi
   ·
    cases hi
   rename_i h1
   split at hi
   ·
    cases hi
   rcases TS.1 hR with rfl|hR
   ·
    simpa using h1
   ·
    exact ih _ hi R hR
 exact hf L 0 h
theorem ovE_ok {L:List Rl} (h:(dw 64 L).2=0) {r:Rct} (hr:aH r=true):ovE r L=((lW (fun x=>x.read) r L,lW (fun x=>x.write) r L,lW (fun x=>x.own) r L),0):=by
 have hz:iT r L=0:=by
  unfold iT
  rw [if_neg (by rw [hr];decide)];exact h
 unfold ovE
 rw [if_neg (by rw [hz];decide)]
theorem CR {x:BitVec 64} {i:Nat} (h:x.getLsbD i=true):i<64:=by
 refine Nat.lt_of_not_le fun hn=> ?_
 rw [BitVec.getLsbD_of_ge _ _ hn] at h
 cases h
theorem Cd {L:List Rl} (h:(dw 64 L).2=0) {r:Rct} (hr:aH r=true) {i:Nat} (hi:i<64):(ovE r L).1.1.getLsbD i=true↔ ∀ a,cj r a=true→(lY (fun x=>x.read) L a).getLsbD i=true:=by
 rw [ovE_ok h hr]
 exact EJ hr (Bn h) hi
theorem Jw {L:List Rl} (h:(dw 64 L).2=0) {r:Rct} (hr:aH r=true) {i:Nat} (hi:i<64):(ovE r L).1.2.2.getLsbD i=true↔ ∀ a,cj r a=true→(lY (fun x=>x.own) L a).getLsbD i=true:=by
 rw [ovE_ok h hr]
 exact EJ hr (Bn h) hi
def eV (more:BitVec 64) (L:List Rl):List Rl:=L.map fun r=>⟨r.rect,r.read|||more,r.write,r.own⟩
theorem zD (more:BitVec 64) (L:List Rl) (n:Nat):((eV more L)[n]?).map (fun x=>x.rect)=(L[n]?).map fun x=>x.rect:=by
 unfold eV
 rw [Uq,Vz];rfl
theorem oC (more:BitVec 64) (L:List Rl):(eV more L).length=L.length:=Uf _
theorem zF (more:BitVec 64) (L:List Rl) (a:Rf):gh (eV more L) a=gh L a:=by
 unfold gh
 rw [oC]
 have h: ∀ n,oo a (eV more L) n=oo a L n:=by
  intro n
  induction n with
  |zero=>rfl
  |succ n ih=>rw [oo,oo,zD,ih]
 exact h _
theorem rT (more:BitVec 64) (L:List Rl) (h:(dw 64 L).2=0):(dw 64 (eV more L)).2=0:=by
 have hall: ~~~(jP 64).1=0#64:=by decide+kernel
 have hf: ∀ (M:List Rl) (i:Int),(eR 64 M i).2=0→(eR 64 (eV more M) i).2=0:=by
  intro M
  induction M with
  |nil=>intro _ _;rfl
  |cons r M ih=>
   intro i hi
   rw [eR] at hi
   split at hi
   ·
    cases hi
   rename_i h1
   split at hi
   ·
    cases hi
   rw [show eV more (r::M)=⟨r.rect,r.read|||more,r.write,r.own⟩::eV more M from rfl,eR,if_neg h1,if_neg (by rw [hall,BitVec.and_zero];exact fun h=>h rfl)]
   exact ih _ hi
 unfold dw at h ⊢
 split at h
 ·
  cases h
 rename_i h1
 split at h
 ·
  cases h
 rename_i h2
 split at h
 ·
  cases h
 rename_i h3
 have hn:eV more L≠ []:=fun e=>h1 (.inr (.inr (.inr (UW.1 (by rw [← oC more L,e];rfl)))))
 have hh:(eV more L).head?.map (fun x=>x.rect)=L.head?.map fun x=>x.rect:=by
  rw [Wh,Wh,zD]
 rw [if_neg (by rintro (h4|h4|h4|h4);exact absurd h4 (by decide);exact absurd h4 (by decide);exact absurd h4 (by decide);exact hn h4),if_neg (by rw [oC];exact h2),if_neg (by rw [hh];exact h3)]
 exact hf L 0 h
theorem zE (more:BitVec 64) (L:List Rl) (a:Rf) {i:Nat} (h:(lY (fun x=>x.read) L a).getLsbD i=true):(lY (fun x=>x.read) (eV more L) a).getLsbD i=true:=by
 unfold lY at h ⊢
 rw [zF]
 unfold eV
 rw [Uq,Vz]
 cases hx:L[gh L a]? with
 |none=>rw [hx] at h;exact h
 |some x=>
  rw [hx] at h
  simp only [UH,VI,Function.comp] at h ⊢
  rw [WD,h,Bool.true_or]
theorem Mj (more:BitVec 64) (L:List Rl) (a:Rf):lY (fun x=>x.own) (eV more L) a=lY (fun x=>x.own) L a:=by
 unfold lY
 rw [zF]
 unfold eV
 rw [Uq,Vz]
 cases L[gh L a]? <;>rfl
theorem J5 {more:BitVec 64} {L:List Rl} (h:(dw 64 L).2=0) {g:Gn} (hg:aH g.rect=true):vw g (eV more L)=vw g L:=by
 have hw:=rT more L h
 have e:(ovE g.rect (eV more L)).1.2.2=(ovE g.rect L).1.2.2:=jN fun i=>by
  by_cases hi:i<64
  ·
   rw [Jw hw hg hi,Jw h hg hi]
   simp only [Mj]
  ·
   exact ⟨fun h=>absurd (CR h) hi,fun h=>absurd (CR h) hi⟩
 unfold vw
 rw [e]
theorem Le {N:List Gn} (h:(gQ 64 N).2=0): ∀ g∈N,aH g.rect=true:=by
 unfold gQ at h
 split at h
 ·
  cases h
 split at h
 ·
  cases h
 have hf: ∀ (M:List Gn) (i:Int),(ic 64 M i).2=0→ ∀ R∈M,aH R.rect=true:=by
  intro M
  induction M with
  |nil=>intro _ _ R hR;cases hR
  |cons r M ih=>
   intro i hi R hR
   rw [ic] at hi
   split at hi
   ·
    cases hi
   rename_i h1
   split at hi
   ·
    cases hi
   rcases TS.1 hR with rfl|hR
   ·
    simpa using h1
   ·
    exact ih _ hi R hR
 exact hf N 0 h
theorem Dk {more:BitVec 64} {L:List Rl} (h:(dw 64 L).2=0) (fn:Int) (r:Rct): ∀ (N:List Gn) (i:Nat),(∀ g∈N,aH g.rect=true)→cJ fn r (eV more L) N i=cJ fn r L N i
 | [],_,_=>rfl
 |g::N,i,hN=>by
  have ih:=Dk h fn r (more:=more) N (i+1) fun g hg=>hN g (TM _ hg)
  rw [cJ,cJ,ih]
  unfold xE
  rw [J5 h (hN g TI)]
theorem Mm {more:BitVec 64} {L:List Rl} {N:List Gn} (h:(dw 64 L).2=0) (hN:(gQ 64 N).2=0) (fn:Int) (r:Rct):(dO fn r (eV more L) N).1=(dO fn r L N).1:=by
 unfold dO
 rw [Dk h fn r N 0 (Le hN),h,rT more L h]
theorem PI {i:Nat} {l:List (BitVec 64)}:(orS l).getLsbD i=true↔ ∃ x∈l,x.getLsbD i=true:=by
 have h: ∀ (l:List (BitVec 64)) (s:BitVec 64),(l.foldl (· ||| ·) s).getLsbD i=true↔s.getLsbD i=true∨ ∃ x∈l,x.getLsbD i=true:=by
  intro l
  induction l with
  |nil=>intro s;simp
  |cons a l ih=>
   intro s
   rw [UK,ih,WD,Vo]
   simp only [TS,exists_eq_or_imp,or_assoc]
 unfold orS
 rw [h]
 simp
theorem u7 (fn:Int) (r:Rct) (L:List Rl): ∀ (N M:List Gn) (i:Nat),∀ x∈cJ fn r L N i,x∈cJ fn r L (N++M) i
 | [],_,_,x,hx=>by cases hx
 |g::N,M,i,x,hx=>by
  have ih:=u7 fn r L N M (i+1)
  rw [TK,cJ]
  rw [cJ] at hx
  cases hg:xE fn r L g with
  |false=>rw [hg,cond_false] at hx;exact ih x hx
  |true=>
   rw [hg,cond_true] at hx
   rw [cond_true]
   rcases TS.1 hx with rfl|hx
   ·
    exact TI
   ·
    exact TM _ (ih x hx)
theorem NY {L:List Rl} {N M:List Gn} (hM:(gQ 64 (N++M)).2=0) {fn:Int} {r:Rct} {i:Nat} (h:(dO fn r L N).1.getLsbD i=true):(dO fn r L (N++M)).1.getLsbD i=true:=by
 unfold dO at h ⊢
 have h0: ∀ {x:BitVec 64},x=0#64→ ¬ x.getLsbD i=true:=fun h=>by rw [h];simp
 split at h
 ·
  exact absurd h (h0 rfl)
 rename_i h1
 split at h
 ·
  exact absurd h (h0 rfl)
 rename_i h2
 split at h
 ·
  exact absurd h (h0 rfl)
 rename_i h3
 split at h
 ·
  exact absurd h (h0 rfl)
 rw [if_neg h1,if_neg h2,if_neg h3,if_neg (by rw [hM];decide)]
 rw [PI] at h ⊢
 obtain ⟨y,hy,hb⟩:=h
 obtain ⟨x,hx,rfl⟩:=Ul.1 hy
 exact ⟨_,Ul.2 ⟨x,u7 fn r L N M 0 x hx,rfl⟩,hb⟩
theorem Ae {G:Gr} {w v:Lw} {u:Nat} (h1: ∀ d,(w.rd d).getLsbD u=true→(v.rd d).getLsbD u=true) (h2: ∀ c,∀ x∈aK G c,(w.ov x.rect).getLsbD u=true→(v.ov x.rect).getLsbD u=true) (h3: ∀ x,(w.to x).getLsbD u=true→(v.to x).getLsbD u=true) {c:Rf} (h:seesP G w u c):seesP G v u c:=by
 obtain ⟨p,hc,hp⟩:=h
 refine ⟨p,hc,fun d hd=>⟨h1 d (hp d hd).1,fun x hx=> ?_⟩⟩
 rcases (hp d hd).2 x hx with h4|⟨h4,h5⟩
 ·
  exact .inl (h3 x h4)
 ·
  exact .inr ⟨h2 d x hx h4,h5⟩
theorem DQ {x y:BitVec 64} (h: ∀ i,x.getLsbD i=true→y.getLsbD i=true):x &&& ~~~y=0#64:=by
 apply VT
 intro i hi
 rw [VO,BitVec.getLsbD_not]
 cases hx:x.getLsbD i with
 |false=>simp
 |true=>rw [h i hx];simp
theorem vF {G:Gr} {L:List Rl} {N M:List Gn} (hM:(gQ 64 (N++M)).2=0) {c:Rf}:dr G (aI L N) c &&& ~~~(dr G (aI L (N++M)) c)=0#64:=DQ fun i h=>by
 rw [iQ] at h ⊢
 refine Ae (w:=aI L N) (v:=aI L (N++M)) (fun _ h=>h) (fun _ _ _ h=>h) (fun x hx=> ?_) h
 unfold aI at hx ⊢
 dsimp only at hx ⊢
 split
 ·
  rename_i hn;rw [if_pos hn] at hx;exact hx
 ·
  rename_i hn;rw [if_neg hn] at hx;exact NY hM hx
theorem Ld {G:Gr} {L:List Rl} {N:List Gn} (hN:(gQ 64 N).2=0) {c:Rf}:dr G (aI L []) c &&& ~~~(dr G (aI L N) c)=0#64:=by
 have:=vF (G:=G) (L:=L) (N:= []) (M:=N) hN (c:=c)
 rwa [TL] at this
theorem Cu {G:Gr} (hG:GrOk G) {more:BitVec 64} {L:List Rl} {N:List Gn} (hL:(dw 64 L).2=0) (hN:(gQ 64 N).2=0) {c:Rf}:dr G (aI L N) c &&& ~~~(dr G (aI (eV more L) N) c)=0#64:=DQ fun i h=>by
 rw [iQ] at h ⊢
 have hi:i<64:=CR h.out.1
 have hw:=rT more L hL
 refine Ae (w:=aI L N) (v:=aI (eV more L) N) (fun d hd=> ?_) (fun c x hx hd=> ?_) (fun x hx=> ?_) h
 ·
  show (atE d (eV more L)).1.1.getLsbD i=true
  have hd:(atE d L).1.1.getLsbD i=true:=hd
  by_cases hv:d.valid=true
  ·
   rw [(uP hw hv).1]
   rw [(uP hL hv).1] at hd
   exact zE more L d hd
  ·
   have hw3:(rU d L).2=3:=by
    unfold rU
    rw [if_pos (by simpa using hv)]
   have h0:(atE d L).1.1=0#64:=by
    unfold atE
    rw [if_pos (by rw [hw3];decide)]
   rw [h0] at hd
   simp at hd
 ·
  show (ovE x.rect (eV more L)).1.1.getLsbD i=true
  have hd:(ovE x.rect L).1.1.getLsbD i=true:=hd
  have hr:aH x.rect=true:=(rectE_zero _).1 (jg hG hx)
  rw [Cd hL hr hi] at hd
  rw [Cd hw hr hi]
  exact fun a ha=>zE more L a (hd a ha)
 ·
  have e:(aI (eV more L) N).to x=(aI L N).to x:=by
   unfold aI
   dsimp only
   rw [Mm hL hN]
  rw [e];exact hx
def wu (ov:Rct→BitVec 64) (l:List Rct) (s:BitVec 64):BitVec 64:=l.foldl (fun s r=>s &&& ov r) s
theorem LM {ov:Rct→BitVec 64} {l:List Rct} {r:Rct} {s:BitVec 64}:wu ov (l++ [r]) s=wu ov l s &&& ov r:=by
 unfold wu;rw [U8];rfl
theorem FP {ov:Rct→BitVec 64} {i:Nat}: ∀ {l:List Rct} {s:BitVec 64},(wu ov l s).getLsbD i=true↔s.getLsbD i=true∧ ∀ r∈l,(ov r).getLsbD i=true
 | [],s=>by simp [wu]
 |r::l,s=>by
  have h:wu ov (r::l) s=wu ov l (s &&& ov r):=rfl
  rw [h,FP,VO,TU]
  simp only [TS,forall_eq_or_imp,and_assoc]
theorem Jk (L:List Rl) (x:Us):(aI L []).to x=0#64:=by
 unfold aI
 dsimp only
 split
 ·
  rfl
 ·
  unfold dO
  split
  ·
   rfl
  split
  ·
   rfl
  split
  ·
   rfl
  split
  ·
   rfl
  ·
   rfl
theorem tY {G:Gr} (hG:GrOk G) {c d:Rf} (hd:d∈aq G) (h:cM (aK G c) (fR d.col d.row)=true): ∃ u∈aK G c,cj u.rect d=true:=by
 unfold cM at h
 rw [VU] at h
 obtain ⟨u,hu,h2⟩:=h
 exact ⟨u,hu,by rw [← oM hG hu hd];exact h2⟩
theorem vE {G:Gr} (hG:GrOk G) {c d:Rf} {u:Us} (hu:u∈aK G c) (hd:d∈aq G) (h:cj u.rect d=true):cM (aK G c) (fR d.col d.row)=true:=by
 unfold cM
 rw [VU]
 exact ⟨u,hu,by rw [oM hG hu hd];exact h⟩
theorem GV {G:Gr} (hG:GrOk G) {L:List Rl} {i:Nat} {c:Rf} {r:Rct} (h:Rc G c r): ∀ d∈aq G,r=fR d.col d.row→seesP G (aI L []) i c→seesP G (aI L []) i d:=by
 have hstep: ∀ {c d:Rf},d∈aq G→cM (aK G c) (fR d.col d.row)=true→seesP G (aI L []) i c→seesP G (aI L []) i d:=by
  intro c d hd ht hs
  obtain ⟨u,hu,hh⟩:=tY hG hd ht
  rcases hs.out.2 u hu with h1|⟨_,h1⟩
  ·
   rw [Jk] at h1;simp at h1
  ·
   exact h1 d hd hh
 induction h with
 |use hc h=>intro d hd e hs;subst e;exact hstep hd h hs
 |via hc he h _ ih=>intro d hd e hs;exact ih d hd e (hstep he h hs)
theorem H5 {G:Gr} (hG:GrOk G) {L:List Rl} (hL:(dw 64 L).2=0) {c:Rf} (hc:c∈aq G):dr G (aI L []) c=wu (fun r=>(ovE r L).1.1) (ib G c) (atE c L).1.1:=jN fun i=>by
 rw [iQ,FP]
 constructor
 ·
  intro h
  refine ⟨h.out.1,fun r hr=> ?_⟩
  obtain ⟨x,hx,u,hu,rfl⟩:=kV.1 hr
  have hs:seesP G (aI L []) i x:=by
   rcases hx with rfl|hx
   ·
    exact h
   ·
    obtain ⟨hk,hr⟩:=kE.1 hx
    exact GV hG hr x hk rfl h
  rcases hs.out.2 u hu with h1|⟨h1,_⟩
  ·
   rw [Jk] at h1;simp at h1
  ·
   exact h1
 ·
  rintro ⟨h1,h2⟩
  have hi:=CR h1
  refine ⟨fun x=>x=c∨x∈n8 G c,.inl rfl,fun d hd=>⟨?_,fun u hu=> .inr ⟨h2 _ (kV.2 ⟨d,hd,u,hu,rfl⟩),fun f hf hh=> .inr (kE.2 ⟨hf,?_⟩)⟩⟩⟩
  ·
   show (atE d L).1.1.getLsbD i=true
   rcases hd with rfl|hd
   ·
    exact h1
   ·
    obtain ⟨hk,hr⟩:=kE.1 hd
    have hu: ∃ x,(x=c∨x∈n8 G c)∧ ∃ u∈aK G x,cj u.rect d=true:=by
     rcases hr.last with h3|⟨e,he,h3,h4⟩
     ·
      obtain ⟨u,hu,hh⟩:=tY hG hk h3
      exact ⟨c,.inl rfl,u,hu,hh⟩
     ·
      obtain ⟨u,hu,hh⟩:=tY hG hk h4
      exact ⟨e,.inr (kE.2 ⟨he,h3⟩),u,hu,hh⟩
    obtain ⟨x,hx,u,hu,hh⟩:=hu
    have h5:=h2 _ (kV.2 ⟨x,hx,u,hu,rfl⟩)
    rw [(uP hL (jr hG hk)).1]
    exact (Cd hL ((rectE_zero _).1 (jg hG hu)) hi).1 h5 d hh
  ·
   rcases hd with rfl|hd
   ·
    exact .use hc (vE hG hu hf hh)
   ·
    obtain ⟨hk,hr⟩:=kE.1 hd
    exact Rc.trans hr hk (.use hk (vE hG hu hf hh))
end Go.SL
namespace Go.SL
open Go Go.Proofs
attribute [local irreducible] W WL WQ WG WA WX WLI WR WT WC WE VOp RW thn blk bF scp ba aZ bC FnAt FnIn FnP ceP gA cP dR
section
variable {a:Rf} {gg:Nat} {G:Gr} {B F:List Blk} {w0:World} {L:List Rl} {N:List Gn} {x:BitVec 64} {e:Int} (R:Rdr gg G B w0) (hB:MSub B F) (Al An:Option Addr) (cl cn:Nat) (hl: ∀ w',Mem w0 w' F→Reads w' (.slice Al L.length cl) L.length (L.flatMap bM)) (hn: ∀ w',Mem w0 w' F→Reads w' (.slice An N.length cn) N.length (N.flatMap bp)) (hN:N.length≤1000000)
include R hB hl hn hN
theorem Labels_to {M:List (Rf × BitVec 64)} (h:lbsE G L N=(M,e)):FnIn Tryz.prog 40 [.pointer (some ⟨gg,0,none⟩),.slice Al L.length cl,.slice An N.length cn] w0 F fun v H' => ∃ A cap,v= .tuple #[sl A M.length cap,.int .i64 e]∧H' = .own A 109 3 M.length cap (M.flatMap encMk)::F:=by
 have h1:=Labels_in gg G B F w0 R hB L N Al An cl cn hl hn hN
 rw [h] at h1
 exact h1
end
theorem lbsE_ok {G:Gr} {L:List Rl} {N:List Gn} (hL:(dw 64 L).2=0) (hN:(gQ 64 N).2=0):lbsE G L N=(marksF G (aI L N),0):=by
 unfold lbsE
 rw [if_neg (by rw [oR rfl hL hN];decide)]
theorem put_one {xs:List Value} {k:Nat} (h:k<xs.length) (v:Value):xs.take k++ [v]++xs.drop (k+1)=xs.set k v:=by
 rw [VK,if_pos h,TY];rfl
theorem take_drop_len {α:Type} {T L:List α} {i:Nat} (hT:T.length=L.length) (hi:i≤L.length):(T.take i++L.drop i).length=L.length:=by
 rw [TG,Ue,Ug];omega
theorem take_drop_get {α:Type} {T L:List α} {i:Nat} (hT:T.length=L.length) (hi:i<L.length):(T.take i++L.drop i)[i]? =some L[i]:=by
 rw [Uj (by rw [Ue];omega),Ue,show i - min i T.length=0 by omega,UR,Vi,TJ hi]
theorem take_drop_set {α:Type} {T L:List α} {i:Nat} (hT:T.length=L.length) (hi:i<L.length):(T.take i++L.drop i).set i (T[i]'(by omega))=T.take (i+1)++L.drop (i+1):=by
 rw [TN hi,VL _ _ (by rw [Ue];omega),Ue,show i - min i T.length=0 by omega,Ww,TP (by omega:i<T.length),TY]
 rfl
end Go.SL
namespace Go.SL
open Go Go.Proofs
attribute [local irreducible] W WL WQ WG WA WX WLI WR WT WC WE VOp RW thn blk bF scp ba aZ bC FnAt FnIn FnP ceP
theorem Db (L:List Rl) (tv:Value) (w:World) (ht:Reads w tv L.length (L.flatMap bM)) (hlen:L.length≤1000000):
  FnAt Tryz.prog 47 [tv] w fun v H=> ∃ A cap,v=sl A L.length cap∧H= [.own A 38 7 L.length cap (L.flatMap bM)]:=by
 refine ax Tryz.func47 rfl Tryz.ntmps47 rfl ?_
 have hl:(L.flatMap bM).length=L.length*7:=aR dz L
 refine aW 38 7 ?_
 repeat' (first|(apply eF (n' :=0) (c:=0) (A:=none) (m:=L.length);(iterate 3 exact rfl);exact pK;(intro w hm;exact ht.of_w0 hm);exact hl;exact Iy L;omega;(simp only [maxLen];omega);intro A' cap' hA)|refine sT ?_|refine sM fun _=> ?_|(refine sC ?_ ?_<;>intro hb<;>try omega)|fail)
 exact cA (.inl rfl) Tryz.results47 rfl (H' := [.own A' 38 7 (0+L.length) cap' ([]++L.flatMap bM)]) mS ⟨A',cap',by rw [Uc],by rw [Uc];rfl⟩
end Go.SL
namespace Go.SL
open Go Go.Proofs
attribute [local irreducible] W WL WQ WG WA WX WLI WR WT WC WE VOp RW thn blk bF scp ba aZ bC FnAt FnIn FnP ceP gA cP dR
theorem nJ {G:Gr} {lw:Lw} {k:Nat} {c:Rf} (h:(aq G)[k]? =some c):(marksF G lw)[k]? =some (c,dr G lw c):=by
 rw [marksF,Uq,h];rfl
theorem Sa {M:List (Rf × BitVec 64)} {k:Nat} {c:Rf} {s:BitVec 64} (he:M[k]? =some (c,s)):((M.flatMap encMk).drop (0+k*3+0)).take 2=aC c:=by
 obtain ⟨h,he⟩:=TV.1 he
 have h1:=cf encMk_len M k h
 have h2:(((M.flatMap encMk).drop (k*3)).take 3).take 2=((M.flatMap encMk).drop (k*3)).take 2:=by rw [Wy];rfl
 rw [Uc,Vi,← h2,h1,he]
 rfl
theorem Cm {M:List (Rf × BitVec 64)} {k:Nat} {c:Rf} {s:BitVec 64} (he:M[k]? =some (c,s)):(M.flatMap encMk)[0+k*3+1+1]? =some (vS s):=by
 obtain ⟨h,he⟩:=TV.1 he
 have h1:=kG encMk_len M k 2 h (by decide)
 rw [he] at h1
 rw [show 0+k*3+1+1=k*3+2 by omega,h1]
 rfl
section
variable {P:Program} {w0:World} {s:aB} {H:List Blk} {ty:TypeId}
theorem ri {x y:Operand} {a b:BitVec 64} {t t' :TypeId} (h:a=b) (hx:ev s x=some (vS a)) (hy:ev s y=some (vS b)):VOp P w0 s H (.binOp .neq t x y t') ty (.bool false):=by
 subst h
 exact j6 hx hy
end
theorem Ml {more:BitVec 64} {L:List Rl} {i:Nat} (h:i<L.length):(eV more L)[i]'(by rw [oC];exact h)=⟨L[i].rect,L[i].read|||more,L[i].write,L[i].own⟩:=by
 unfold eV
 rw [List.getElem_map]
theorem NV (g:Gn): ∀ u∈bp g,u.oneCell' =true:=fun u hu=>by
 simp only [bp,TS,Vr,or_false] at hu
 rcases hu with rfl|rfl|rfl|rfl|rfl|rfl|rfl|rfl<;>rfl
theorem yD {α:Type} {enc:α→List Value} (L:List α) (x:α):L.flatMap enc++enc x=(L++ [x]).flatMap enc:=by
 rw [Ua,Wi]
theorem PP {G:Gr} (hG:GrOk G) {c:Rf} {r:Rct} (h:r∈ib G c):aH r=true:=by
 obtain ⟨x,_,u,hu,rfl⟩:=kV.1 h
 exact (rectE_zero _).1 (jg hG hu)
set_option maxHeartbeats 16000000 in
theorem Da (L:List Et) (R:List Rl) (N:List Gn) (x:Gn) (more:BitVec 64) (lv rv nv:Value) (w:World) (hl:Reads w lv L.length (L.flatMap du)) (hr:Reads w rv R.length (R.flatMap bM)) (hn:Reads w nv N.length (N.flatMap bp)) (hW:Words w):
  aD Tryz.prog 10 [lv,rv,nv,.agg (bp x).toArray,vS more] w (.bool true):=by
 have hg:=fun (w' :World) (H:List Blk) (hm:Mem w w' H)=>mN L R N lv rv nv w' (hl.of_w0 hm) (hr.of_w0 hm) (hn.of_w0 hm)
 have hg2:=fun (w' :World) (H:List Blk) (nv2:Value) (hm:Mem w w' H) (h2:Reads w' nv2 (N++ [x]).length ((N++ [x]).flatMap bp))=>mN L R (N++ [x]) lv rv nv2 w' (hl.of_w0 hm) (hr.of_w0 hm) h2
 have haw:=fun (w' :World) (H:List Blk) (hm:Mem w w' H)=>n9 w' (hW.next hm)
 refine ax Tryz.func10 rfl Tryz.ntmps10 rfl ?_
 cases hgd:tz L R N with
 |false=>
  rw [hgd] at hg
  obtain ⟨Al,cl,rfl, -⟩:=hl
  obtain ⟨Ar,cr,rfl, -⟩:=hr
  obtain ⟨An,cn,rfl, -⟩:=hn
  repeat' (first|((refine fu (id:=1) [3] [] [] (by kernel_rfl) (by kernel_rfl) (by kernel_rfl) (MSub.nil _) ?_))|(apply aa (f:=32);exact rfl;exact rfl;(intro w' hm;exact hg w' _ hm))|refine sT ?_|refine sS ?_|refine sW ?_|refine sM fun _=> ?_|(refine sC ?_ ?_<;>intro hb<;>try omega)|(refine sCW ?_ ?_<;>intro hb<;>try omega)|exact cT|fail)
  all_goals first|(exfalso;omega)|((refine rT1 ?_);rfl)|trace_state
 |true=>
  rw [hgd] at hg
  obtain ⟨k1,k2,k3,hL,hN,G,hG,hGo,hGl⟩:=pI hgd
  have hmd:=fun (w' :World) (H:List Blk) (hm:Mem w w' H)=>qi L hG k1 lv w' (hl.of_w0 hm) (hW.next hm)
  have hcg:=fun (w' :World) (H:List Blk) (hm:Mem w w' H)=>zz N nv w' (hn.of_w0 hm) (by omega)
  have hcr:=fun (w' :World) (H:List Blk) (hm:Mem w w' H)=>Db R rv w' (hr.of_w0 hm) (by omega)
  obtain ⟨Al,cl,rfl, -⟩:=hl
  have hr2:=hr
  have hn2:=hn
  obtain ⟨Ar,cr,rfl, -⟩:=hr
  obtain ⟨An,cn,rfl, -⟩:=hn
  obtain ⟨gb2,hgb2⟩: ∃ b,tz L R (N++ [x])=b:=⟨_,rfl⟩
  rw [hgb2] at hg2
  have hNx:(N++ [x]).length=N.length+1:=by simp
  have hg3: ∀ (w' :World) (H:List Blk) (ga ca:Nat),Mem w w' H→In (.own (some ga) 56 8 (N.length+1) ca (N.flatMap bp++bp x)) H→aD Tryz.prog 32 [.slice Al L.length cl,.slice Ar R.length cr,.slice (some ⟨ga,0,none⟩) (N.length+1) ca] w' (.bool gb2):=fun w' H ga ca hm hin=>hg2 w' H _ hm (by rw [hNx,← yD];exact Reads.of_own (A:=some ga) hm hin)
  repeat' (first|refine sT ?_|refine sS ?_|refine sM fun _=> ?_|(refine sC ?_ ?_<;>intro hb<;>try omega)|exact cT|fail)
  rename_i g8
  refine qZ (id:=1) (ι:=Unit) (fun _=> [(0,.slice Al L.length cl),(1,.slice Ar R.length cr),(2,.slice An N.length cn),(4,vS more),(8,.pointer (some ⟨g8,0,none⟩)),(46,.bool (!gb2))]) (fun _=> [.box g8 56 (bp x)]) (fun _=>True) ?_ (fun _ _=> ?_)
  ·
   refine ll (id:=1) [3,9,11,12,13] [.box g8 56 (bp x)] 16 rfl rfl mS ?_
   repeat' (first|(apply bY (i:=10);(iterate 4 exact rfl);decide+kernel;decide+kernel;decide+kernel;(apply oH;exact rfl;exact .hd;exact rfl;exact rfl))|(apply bY (i:=0);(iterate 4 exact rfl);decide+kernel;decide+kernel;decide+kernel;(exact vC))|(apply bY (i:=1);(iterate 4 exact rfl);decide+kernel;decide+kernel;decide+kernel;(exact vC))|(apply bY (i:=2);(iterate 4 exact rfl);decide+kernel;decide+kernel;decide+kernel;(exact vC))|(apply bY (i:=4);(iterate 4 exact rfl);decide+kernel;decide+kernel;decide+kernel;(exact vC))|(apply bY (i:=5);(iterate 4 exact rfl);decide+kernel;decide+kernel;decide+kernel;(exact vC))|(apply bY (i:=6);(iterate 4 exact rfl);decide+kernel;decide+kernel;decide+kernel;(exact vC))|(apply bY (i:=7);(iterate 4 exact rfl);decide+kernel;decide+kernel;decide+kernel;(exact vC))|(apply bY (i:=8);(iterate 4 exact rfl);decide+kernel;decide+kernel;decide+kernel;(exact vC))|(apply bY (i:=14);(iterate 4 exact rfl);decide+kernel;decide+kernel;decide+kernel;(exact vC))|(apply bY (i:=15);(iterate 4 exact rfl);decide+kernel;decide+kernel;decide+kernel;(exact vC))|(apply iq (i:=9) (j:=11);(iterate 6 exact rfl);decide+kernel)|(apply cG (i:=3);(iterate 3 exact rfl);decide+kernel)|(apply cG (i:=9);(iterate 3 exact rfl);decide+kernel)|(apply cG (i:=11);(iterate 3 exact rfl);decide+kernel)|(apply cG (i:=12);(iterate 3 exact rfl);decide+kernel)|(apply cG (i:=13);(iterate 3 exact rfl);decide+kernel)|(apply lj;decide+kernel)|(apply CN;(focus (exact mS;done)))|(apply aa (d:=34);exact rfl;exact rfl;(intro w' hm;exact hg w' _ hm))|(apply aF (f:=46);exact rfl;exact rfl;(intro w' hm;exact hcg w' _ hm);rintro _ _ ⟨Ag,cg,rfl,rfl⟩)|(apply aX (news:=bp x);(iterate 3 exact rfl);exact pK;exact pK;exact rfl;exact NV x;omega;(simp only [maxLen];omega);intro ga ca)|(apply aa (d:=44);exact rfl;exact rfl;(intro w' hm;exact hg3 w' _ ga ca hm pK))|refine sT ?_|refine sS ?_|refine sM fun _=> ?_|(refine sC ?_ ?_<;>intro hb<;>try omega)|exact cT|fail)
   all_goals (refine cO () trivial sB ?_;exact mS)
  cases gb2 with
  |false=>
   repeat' (first|refine sT ?_|refine sS ?_|refine sM fun _=> ?_|(refine sC ?_ ?_<;>intro hb<;>try omega)|exact cT|fail)
   all_goals first|(exfalso;omega)|((refine rT1 ?_);rfl)|trace_state
  |true=>
  obtain ⟨-, -, -, -,hN2, -⟩:=pI hgb2
  clear hg hg2 hg3
  repeat' (first|(apply aF (f:=33);exact rfl;exact rfl;(intro w' hm;exact hmd w' _ hm);rintro _ _ ⟨gg,gm,E,clock,Rb,rfl,rfl,hA⟩;refine pW (.box g8 56 (bp x)::(gB gg gm (E.map En.m) clock++Rb)) ⟨[],by rw [TR];exact Ut (l₁:=gB gg gm (E.map En.m) clock++Rb) (l₂:= [.box g8 56 (bp x)])⟩ ?_)|(apply aF (f:=47);exact rfl;exact rfl;(intro w' hm;exact hcr w' _ hm);rintro _ _ ⟨Aw,cw,rfl,rfl⟩)|refine sT ?_|refine sS ?_|refine sM fun _=> ?_|(refine sC ?_ ?_<;>intro hb<;>try omega)|exact cT|fail)
  all_goals try (exfalso;omega)
  have hR:=hA.rdr hGo (by omega) gg gm w
  generalize gB gg gm (E.map En.m) clock++Rb=B at hR ⊢
  obtain ⟨T,hT⟩: ∃ T,eV more R=T:=⟨_,rfl⟩
  have hTl:T.length=R.length:=by rw [← hT];exact oC more R
  refine ay [1,2,4,8,11,12] rfl (fun i:Nat=> [(13,.int .i64 (i:Int))]) (fun i=> .own Aw 38 7 R.length cw ((T.take i++R.drop i).flatMap bM):: .box g8 56 (bp x)::B) (fun i=>i≤R.length) (fun i=>R.length - i) 0 (TW _) sB (by simp only [U7,TL,UZ];exact mS) ?_
  rintro i hi
  by_cases hlt:i<R.length
  ·
   refine bK (A:=Aw) pK (by omega) fun go hA=> ?_
   subst hA
   have hXl:=take_drop_len hTl hi
   have hXg:=take_drop_get hTl hlt
   have hXs:=take_drop_set hTl hlt
   have hTi:T[i]'(by omega)=⟨R[i].rect,R[i].read|||more,R[i].write,R[i].own⟩:=by
    subst hT
    exact Ml hlt
   rw [hTi] at hXs
   clear hTi
   obtain ⟨Y,hYe⟩: ∃ Y,T.take (i+1)++R.drop (i+1)=Y:=⟨_,rfl⟩
   rw [hYe] at hXs
   generalize T.take i++R.drop i=X at hXl hXg hXs ⊢
   have hil:i<X.length:=by omega
   rw [TJ hil] at hXg
   replace hXg:=Option.some.inj hXg
   have hcell:=kG dz X i 4 hil (by decide)
   have hput:=uI dz X i 4 hil (by decide) (vS (R[i].read|||more)) ⟨R[i].rect,R[i].read|||more,R[i].write,R[i].own⟩ (by rw [hXg];rfl)
   rw [hXs] at hput
   rw [hXg] at hcell
   generalize R[i]=r at hcell hput
   have hcell2:(X.flatMap bM)[0+i*7+4]? =some (vS r.read):=by rw [show 0+i*7+4=i*7+4 by omega,hcell];rfl
   have hxl:(X.flatMap bM).length=X.length*7:=aR dz X
   rw [← put_one (by rw [hxl];omega),show i*7+4=0+i*7+4 by omega] at hput
   generalize X.flatMap bM=xs at hcell2 hput hxl ⊢
   repeat' (first|(apply ak;exact rfl;apply aj (j:=i);exact rfl;exact rfl;exact hlt)|(apply ak;exact rfl;apply bG;exact rfl;exact pK;exact hcell2)|(apply ak;exact rfl;apply rf;exact rfl;exact rfl)|(apply mY (vs:= [vS (r.read|||more)]) (off:=0+i*7+4);exact rfl;exact rfl;exact pK;exact rfl;exact rfl;(intro u hu;simp at hu;subst hu;rfl);(rw [hxl,hXl];omega))|refine sT ?_|refine sS ?_|refine sN ?_|refine sM fun _=> ?_|(refine sC ?_ ?_<;>intro hb<;>try omega)|exact cT|fail)
   all_goals first
    |(exfalso;omega)
    |(refine ⟨i+1,hlt,by omega,by exact sB,by exact sB,by rw [hYe,← hput];exact mS⟩;done)
    |trace_state
  ·
   have e:i=R.length:=by omega
   subst e
   have hfin:T.take R.length++R.drop R.length=T:=by rw [← hTl,Ux,hTl,UB,TR]
   rw [hfin]
   have hRp:=(CY (L:=R) (by rw [hL];decide)).1
   refine bK (A:=Aw) pK (by omega) fun gw hA=> ?_
   subst hA
   have hn0:(gQ 64 ([]:List Gn)).2=0:=rfl
   have hLT:(dw 64 T).2=0:=hT ▸ rT more R hL
   have hlb0:=lbsE_ok (G:=G) hL hn0
   have hlb1:=lbsE_ok (G:=G) hL hN
   have hlb2:=lbsE_ok (G:=G) hL hN2
   have hlb3:=lbsE_ok (G:=G) hLT hN
   have hml: ∀ lw,(marksF G lw).length=(aq G).length:=fun lw=>by rw [marksF,Uf]
   have hm0:=fun k c=>nJ (G:=G) (lw:=aI R []) (k:=k) (c:=c)
   have hm1:=fun k c=>nJ (G:=G) (lw:=aI R N) (k:=k) (c:=c)
   have hm2:=fun k c=>nJ (G:=G) (lw:=aI R (N++ [x])) (k:=k) (c:=c)
   have hm3:=fun k c=>nJ (G:=G) (lw:=aI T N) (k:=k) (c:=c)
   have hl0:=hml (aI R [])
   have hl1:=hml (aI R N)
   have hl2:=hml (aI R (N++ [x]))
   have hl3:=hml (aI T N)
   have hKl:(aq G).length≤40:=by rw [aq,Uf];omega
   clear hml
   generalize marksF G (aI R [])=M0 at hlb0 hm0 hl0
   generalize marksF G (aI R N)=M1 at hlb1 hm1 hl1
   generalize marksF G (aI R (N++ [x]))=M2 at hlb2 hm2 hl2
   generalize marksF G (aI T N)=M3 at hlb3 hm3 hl3
   have hL2: ∀ (F:List Blk) (ga ca:Nat),MSub B F→In (.own (some ga) 56 8 (N.length+1) ca (N.flatMap bp++bp x)) F→FnIn Tryz.prog 40 [.pointer (some ⟨gg,0,none⟩),.slice Ar R.length cr,.slice (some ⟨ga,0,none⟩) (N.length+1) ca] w F fun v H' => ∃ A cap,v= .tuple #[sl A M2.length cap,.int .i64 0]∧H' = .own A 109 3 M2.length cap (M2.flatMap encMk)::F:=by
    intro F ga ca hs hin
    have h1:=Labels_to (N:=N++ [x]) hR hs Ar (some ⟨ga,0,none⟩) cr ca (fun w' hm=>hr2.of_w0 hm) (fun w' hm=>by rw [hNx,← yD];exact Reads.of_own (A:=some ga) hm hin) (by omega) hlb2
    rw [hNx] at h1
    exact h1
   have hL3: ∀ (F:List Blk),MSub B F→In (.own (some gw) 38 7 R.length cw (T.flatMap bM)) F→FnIn Tryz.prog 40 [.pointer (some ⟨gg,0,none⟩),.slice (some ⟨gw,0,none⟩) R.length cw,.slice An N.length cn] w F fun v H' => ∃ A cap,v= .tuple #[sl A M3.length cap,.int .i64 0]∧H' = .own A 109 3 M3.length cap (M3.flatMap encMk)::F:=by
    intro F hs hin
    have h1:=Labels_to (L:=T) hR hs (some ⟨gw,0,none⟩) An cw cn (fun w' hm=>by rw [hTl];exact Reads.of_own (A:=some gw) hm hin) (fun w' hm=>hn2.of_w0 hm) (by omega) hlb3
    rw [hTl] at h1
    exact h1
   repeat' (first|(apply au (d:=73);exact rfl;exact rfl;exact Labels_to (N:= []) hR mS Ar none cr 0 (fun w' hm=>hr2.of_w0 hm) (fun w' hm=>qd w') (by decide) hlb0;rintro _ _ ⟨A6,c6,rfl,rfl⟩)|(apply au (d:=80);exact rfl;exact rfl;exact Labels_to hR mS Ar An cr cn (fun w' hm=>hr2.of_w0 hm) (fun w' hm=>hn2.of_w0 hm) (by omega) hlb1;rintro _ _ ⟨A7,c7,rfl,rfl⟩)|refine sT ?_|refine sS ?_|refine sN ?_|refine sM fun _=> ?_|(refine sC ?_ ?_<;>intro hb<;>try omega)|exact cT|fail)
   all_goals try (exfalso;omega)
   refine qZ (id:=13) (ι:=Option Nat × Nat) (fun y=> [(1,.slice Ar R.length cr),(2,.slice An N.length cn),(11,.pointer (some ⟨gg,0,none⟩)),(12,.slice (some ⟨gw,0,none⟩) R.length cw),(14,sl A6 M0.length c6),(15,.int .i64 0),(16,sl A7 M1.length c7),(17,.int .i64 0),(18,sl y.1 M2.length y.2),(19,.int .i64 0)]) (fun y=> .own y.1 109 3 M2.length y.2 (M2.flatMap encMk):: .own A7 109 3 M1.length c7 (M1.flatMap encMk):: .own A6 109 3 M0.length c6 (M0.flatMap encMk):: .own (some gw) 38 7 R.length cw (T.flatMap bM)::B) (fun _=>True) ?_ (fun y _=> ?_)
   ·
    refine ll (id:=13) [3,5,6,7] [.box g8 56 (bp x)] 13 rfl rfl mS ?_
    repeat' (first|(apply bY (i:=4);(iterate 4 exact rfl);decide+kernel;decide+kernel;decide+kernel;(apply oH;exact rfl;exact .hd;exact rfl;exact rfl))|(apply bY (i:=0);(iterate 4 exact rfl);decide+kernel;decide+kernel;decide+kernel;(exact vC))|(apply bY (i:=1);(iterate 4 exact rfl);decide+kernel;decide+kernel;decide+kernel;(exact vC))|(apply bY (i:=2);(iterate 4 exact rfl);decide+kernel;decide+kernel;decide+kernel;(exact vC))|(apply bY (i:=8);(iterate 4 exact rfl);decide+kernel;decide+kernel;decide+kernel;(exact vC))|(apply bY (i:=9);(iterate 4 exact rfl);decide+kernel;decide+kernel;decide+kernel;(exact vC))|(apply bY (i:=10);(iterate 4 exact rfl);decide+kernel;decide+kernel;decide+kernel;(exact vC))|(apply bY (i:=11);(iterate 4 exact rfl);decide+kernel;decide+kernel;decide+kernel;(apply fX;exact rfl))|(apply bY (i:=12);(iterate 4 exact rfl);decide+kernel;decide+kernel;decide+kernel;(apply fX;exact rfl))|(apply iq (i:=3) (j:=5);(iterate 6 exact rfl);decide+kernel)|(apply cG (i:=3);(iterate 3 exact rfl);decide+kernel)|(apply cG (i:=5);(iterate 3 exact rfl);decide+kernel)|(apply cG (i:=6);(iterate 3 exact rfl);decide+kernel)|(apply cG (i:=7);(iterate 3 exact rfl);decide+kernel)|(apply lj;decide+kernel)|(apply CN;(focus (exact mS;done)))|(apply aF (f:=46);exact rfl;exact rfl;(intro w' hm;exact hcg w' _ hm);rintro _ _ ⟨Ag,cg,rfl,rfl⟩)|(apply aX (news:=bp x);(iterate 3 exact rfl);exact pK;exact pK;exact rfl;exact NV x;omega;(simp only [maxLen];omega);intro ga ca)|(apply au (d:=91);exact rfl;exact rfl;exact hL2 _ ga ca mS pK;rintro _ _ ⟨A8,c8,rfl,rfl⟩)|refine sT ?_|refine sS ?_|refine sM fun _=> ?_|(refine sC ?_ ?_<;>intro hb<;>try omega)|exact cT|fail)
    all_goals (refine cO (A8,c8) trivial sB ?_;exact mS)
   obtain ⟨A8,c8⟩:=y
   dsimp only
   repeat' (first|(apply au (d:=98);exact rfl;exact rfl;exact hL3 _ mS pK;rintro _ _ ⟨A9,c9,rfl,rfl⟩)|refine sT ?_|refine sS ?_|refine sN ?_|refine sM fun _=> ?_|(refine sC ?_ ?_<;>intro hb<;>try omega)|exact cT|fail)
   all_goals try (exfalso;omega)
   refine ay [1,11,14,16,18,20] rfl (fun k:Nat=> [(22,.int .i64 (k:Int))]) (fun _=> .own A9 109 3 M3.length c9 (M3.flatMap encMk):: .own A8 109 3 M2.length c8 (M2.flatMap encMk):: .own A7 109 3 M1.length c7 (M1.flatMap encMk):: .own A6 109 3 M0.length c6 (M0.flatMap encMk)::B) (fun k=>k≤M1.length) (fun k=>M1.length - k) 0 (TW _) sB mS ?_
   rintro k hk
   by_cases hltk:k<M1.length
   ·
    refine bK (A:=A9) pK (by omega) fun g9 hA=> ?_
    subst hA
    refine bK (A:=A8) pK (by omega) fun g8' hA=> ?_
    subst hA
    refine bK (A:=A7) pK (by omega) fun g7 hA=> ?_
    subst hA
    refine bK (A:=A6) pK (by omega) fun g6 hA=> ?_
    subst hA
    obtain ⟨c,hkc⟩: ∃ c,(aq G)[k]? =some c:=⟨_,TJ (by omega)⟩
    have hck:=Vp hkc
    have hcv:=jr hGo hck
    have hrf:=Sa (hm0 k c hkc)
    have hb0:=Cm (hm0 k c hkc)
    have hb1:=Cm (hm1 k c hkc)
    have hb2:=Cm (hm2 k c hkc)
    have hb3:=Cm (hm3 k c hkc)
    have hf0:=H5 hGo hL hck
    have hf1:=Ld (G:=G) (L:=R) hN (c:=c)
    have hf2:=vF (G:=G) (L:=R) hN2 (c:=c)
    have hf3:=Cu hGo (more:=more) hL hN (c:=c)
    rw [hT] at hf3
    have hat:=fun (w' :World) (H:List Blk) (hm:Mem w w' H)=>wN c R _ w' (hr2.of_w0 hm)
    rw [(uP hL hcv).2] at hat
    have hlv:=fun (F:List Blk) (hs:MSub B F)=>hR.leaves hs c
    have hcr0:l5 [c] []=0:=by unfold l5;simp [hcv]
    have hlr:ku G c=ib G c:=by unfold ku;rw [if_pos hcr0]
    rw [hlr,hcr0] at hlv
    have hlf:=fun r (h:r∈ib G c)=>PP hGo h
    generalize dr G (aI R []) c=s0 at hb0 hf0 hf1
    generalize dr G (aI R N) c=s1 at hb1 hf1 hf2 hf3
    generalize dr G (aI R (N++ [x])) c=s2 at hb2 hf2
    generalize dr G (aI T N) c=s3 at hb3 hf3
    generalize (atE c R).1.1=rd at hat hf0
    generalize (atE c R).1.2.1=rd2 at hat
    generalize (atE c R).1.2.2=rd3 at hat
    generalize ib G c=LV at hlv hf0 hlf
    repeat' (first|(apply ak;exact rfl;apply aj (j:=k);exact rfl;exact rfl;omega)|(apply ak;exact rfl;apply aA (ys:=aC c);exact rfl;exact pK;exact hrf;exact rfl)|(apply aa (f:=31);exact rfl;exact rfl;(intro w' hm;exact hat w' _ hm))|(apply au (f:=48);exact rfl;exact rfl;exact hlv _ mS;rintro _ _ ⟨Av,cv,rfl,rfl⟩)|refine sT ?_|refine sS ?_|refine sN ?_|refine sM fun _=> ?_|(refine sC ?_ ?_<;>intro hb<;>try omega)|exact cT|fail)
    all_goals try (exfalso;omega)
    refine ay [1,11,14,16,18,20,22,25] rfl (fun j:Nat=> [(27,vS (wu (fun r=>(ovE r R).1.1) (LV.take j) rd)),(28,.int .i64 (j:Int))]) (fun _=> .own Av 33 4 LV.length cv (LV.flatMap aN):: .own (some g9) 109 3 M3.length c9 (M3.flatMap encMk):: .own (some g8') 109 3 M2.length c8 (M2.flatMap encMk):: .own (some g7) 109 3 M1.length c7 (M1.flatMap encMk):: .own (some g6) 109 3 M0.length c6 (M0.flatMap encMk)::B) (fun j=>j≤LV.length) (fun j=>LV.length - j) 0 (TW _) sB mS ?_
    rintro j hj
    by_cases hltj:j<LV.length
    ·
     refine I5 (A:=Av) pK fun _ hle hcm=> ?_
     simp only [maxLen] at hcm
     refine bK (A:=Av) pK (by omega) fun gv hA=> ?_
     subst hA
     have hrd:((LV.flatMap aN).drop (0+j*4)).take 4=aN LV[j]:=by rw [Uc];exact cf kH LV j hltj
     have hok:=ovE_ok hL (hlf _ (UA hltj))
     have hsn:wu (fun r=>(ovE r R).1.1) (LV.take (j+1)) rd=wu (fun r=>(ovE r R).1.1) (LV.take j) rd &&& (ovE LV[j] R).1.1:=by rw [TP hltj,LM]
     generalize LV[j]=r at hrd hok hsn
     have hov:=fun (w' :World) (H:List Blk) (hm:Mem w w' H)=>wL r R _ w' (hr2.of_w0 hm)
     rw [hok] at hov hsn
     generalize lW (fun x=>x.read) r R=o1 at hov hsn
     generalize lW (fun x=>x.write) r R=o2 at hov
     generalize lW (fun x=>x.own) r R=o3 at hov
     dsimp only at hsn hov
     generalize wu (fun r=>(ovE r R).1.1) (LV.take j) rd=acc at hsn ⊢
     repeat' (first|(apply ak;exact rfl;apply aj (j:=j);exact rfl;exact rfl;exact hltj)|(apply ak;exact rfl;apply aA (ys:=aN r);exact rfl;exact pK;exact hrd;exact rfl)|(apply aa (f:=30);exact rfl;exact rfl;(intro w' hm;exact hov w' _ hm))|(apply ak;exact rfl;apply ng;exact rfl;exact rfl)|refine sT ?_|refine sS ?_|refine sN ?_|refine sM fun _=> ?_|(refine sC ?_ ?_<;>intro hb<;>try omega)|exact cT|fail)
     all_goals first
      |(exfalso;omega)
      |(refine ⟨j+1,hltj,by omega,by rw [hsn];exact sB,by exact sB,by exact mS⟩;done)
      |trace_state
    ·
     have e:j=LV.length:=by omega
     subst e
     rw [Ux,← hf0]
     repeat' (first|(apply iw (id:=32);kernel_rfl;kernel_rfl)|(apply aO;exact rfl;apply aj (j:=k);exact rfl;exact rfl;omega)|(apply aO;exact rfl;apply bG;exact rfl;exact pK;first|exact hb0|exact hb1|exact hb2|exact hb3)|(apply aO;exact rfl;apply m9;exact rfl;exact rfl)|(apply aO;exact rfl;apply j6;exact rfl;exact rfl)|(apply aO;exact rfl;apply ri (b:=0#64) hf1;exact rfl;exact rfl)|(apply aO;exact rfl;apply ri (b:=0#64) hf2;exact rfl;exact rfl)|(apply aO;exact rfl;apply ri (b:=0#64) hf3;exact rfl;exact rfl)|refine sT ?_|refine sS ?_|refine sQ ?_|refine sN ?_|refine sNQ ?_|refine sM fun _=> ?_|(refine sC ?_ ?_<;>intro hb<;>try omega)|(refine sCQ ?_ ?_<;>intro hb<;>try omega)|exact cT|fail)
     all_goals first
      |(exfalso;omega)
      |(refine ⟨k+1,hltk,by omega,by exact sB,by exact sB,by exact mS⟩;done)
      |trace_state
   ·
    repeat' (first|(apply aa (f:=37);exact rfl;exact rfl;(intro w' hm;exact haw w' _ hm))|refine sT ?_|refine sS ?_|refine sN ?_|refine sM fun _=> ?_|(refine sC ?_ ?_<;>intro hb<;>try omega)|exact cT|fail)
    all_goals first
     |(exfalso;omega)
     |((refine rT1 ?_);rfl)
     |trace_state
end Go.SL
