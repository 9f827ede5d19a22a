/-
  Lemmas and walks, put together: Pf Sl36 Rj Rk Pl7 Rl Rm Rn Ro Hp Mp Hq.
-/
import Derived.Test.YthefeclkaaocnaaGreatDoorKf31
set_option linter.unusedSimpArgs false
set_option linter.unusedVariables false
set_option maxRecDepth 20000
namespace Go.SL
open Go
structure Lw where
 rd:Rf→BitVec 64
 ov:Rct→BitVec 64
 to:Us→BitVec 64
def seesP (G:Gr) (w:Lw) (u:Nat) (c:Rf):Prop:=
 ∃ p:Rf→Prop,p c∧ ∀ d,p d→(w.rd d).getLsbD u=true∧ ∀ x∈aK G d,(w.to x).getLsbD u=true∨((w.ov x.rect).getLsbD u=true∧ ∀ f∈aq G,cj x.rect f=true→p f)
theorem seesP.out {G:Gr} {w:Lw} {u:Nat} {c:Rf} (h:seesP G w u c):(w.rd c).getLsbD u=true∧ ∀ x∈aK G c,(w.to x).getLsbD u=true∨((w.ov x.rect).getLsbD u=true∧ ∀ f∈aq G,cj x.rect f=true→seesP G w u f):=by
 obtain ⟨p,hc,hp⟩:=h
 refine ⟨(hp c hc).1,fun x hx=> ?_⟩
 rcases (hp c hc).2 x hx with h1|⟨h1,h2⟩
 ·
  exact .inl h1
 ·
  exact .inr ⟨h1,fun f hf hh=>⟨p,h2 f hf hh,hp⟩⟩
theorem Af {G:Gr} {w:Lw} {u:Nat} {c:Rf}:seesP G w u c↔(w.rd c).getLsbD u=true∧ ∀ x∈aK G c,(w.to x).getLsbD u=true∨((w.ov x.rect).getLsbD u=true∧ ∀ f∈aq G,cj x.rect f=true→seesP G w u f):=by
 refine ⟨seesP.out,fun h=>⟨fun d=>seesP G w u d∨d=c,.inr rfl,fun d hd=> ?_⟩⟩
 have h2:(w.rd d).getLsbD u=true∧ ∀ x∈aK G d,(w.to x).getLsbD u=true∨((w.ov x.rect).getLsbD u=true∧ ∀ f∈aq G,cj x.rect f=true→seesP G w u f):=by
  rcases hd with hd|rfl
  ·
   exact hd.out
  ·
   exact h
 refine ⟨h2.1,fun x hx=> ?_⟩
 rcases h2.2 x hx with h3|⟨h3,h4⟩
 ·
  exact .inl h3
 ·
  exact .inr ⟨h3,fun f hf hh=> .inl (h4 f hf hh)⟩
def FT (K:List Rf) (lab:Rf→BitVec 64) (r:Rct) (s:BitVec 64):BitVec 64:=K.foldl (fun s c=>if cj r c=true then s &&& lab c else s) s
theorem FR {lab:Rf→BitVec 64} {r:Rct} {i:Nat}: ∀ {K:List Rf} {s:BitVec 64},(FT K lab r s).getLsbD i=true↔s.getLsbD i=true∧ ∀ c∈K,cj r c=true→(lab c).getLsbD i=true
 | [],s=>by simp [FT]
 |c::K,s=>by
  have h:FT (c::K) lab r s=FT K lab r (if cj r c=true then s &&& lab c else s):=rfl
  rw [h,FR]
  by_cases hc:cj r c=true
  ·
   rw [if_pos hc,VO,TU]
   simp only [TS,forall_eq_or_imp,hc,forall_const,and_assoc]
  ·
   rw [if_neg hc]
   simp only [TS,forall_eq_or_imp]
   exact ⟨fun h=>⟨h.1,fun h2=>absurd h2 hc,h.2⟩,fun h=>⟨h.1,h.2.2⟩⟩
def ovL (G:Gr) (w:Lw) (lab:Rf→BitVec 64) (r:Rct):BitVec 64:=FT (aq G) lab r (w.ov r)
def eO (G:Gr) (w:Lw) (lab:Rf→BitVec 64) (U:List Us) (s:BitVec 64):BitVec 64:=U.foldl (fun s x=>s &&& (ovL G w lab x.rect|||w.to x)) s
theorem xw {G:Gr} {w:Lw} {lab:Rf→BitVec 64} {U:List Us} {x:Us} {s:BitVec 64}:eO G w lab (U++ [x]) s=eO G w lab U s &&& (ovL G w lab x.rect|||w.to x):=by
 unfold eO;rw [U8];rfl
theorem ed {G:Gr} {w:Lw} {lab:Rf→BitVec 64} {i:Nat}: ∀ {U:List Us} {s:BitVec 64},(eO G w lab U s).getLsbD i=true↔s.getLsbD i=true∧ ∀ x∈U,(w.to x).getLsbD i=true∨((w.ov x.rect).getLsbD i=true∧ ∀ f∈aq G,cj x.rect f=true→(lab f).getLsbD i=true)
 | [],s=>by simp [eO]
 |x::U,s=>by
  have h:eO G w lab (x::U) s=eO G w lab U (s &&& (ovL G w lab x.rect|||w.to x)):=rfl
  rw [h,ed,VO,WD,TU,Vo,ovL,FR]
  simp only [TS,forall_eq_or_imp]
  constructor
  ·
   rintro ⟨⟨h1,h2⟩,h3⟩;exact ⟨h1,h2.symm,h3⟩
  ·
   rintro ⟨h1,h2,h3⟩;exact ⟨⟨h1,h2.symm⟩,h3⟩
theorem jN {x y:BitVec 64} (h: ∀ i,x.getLsbD i=true↔y.getLsbD i=true):x=y:=
 VT fun i _=>Uy.2 (h i)
theorem GK {G:Gr} {w:Lw} {lab:Rf→BitVec 64} {U:List Us} {s:BitVec 64}:eO G w lab U (eO G w lab U s)=eO G w lab U s:=jN fun i=>by
 rw [ed,ed]
 exact ⟨fun h=>h.1,fun h=>⟨h,h.2⟩⟩
def zb (lab:Rf→BitVec 64) (c:Rf) (s:BitVec 64):Rf→BitVec 64:=fun d=>if d=c then s else lab d
theorem mi {lab:Rf→BitVec 64} {c:Rf} {s:BitVec 64}:zb lab c s c=s:=if_pos rfl
theorem iy {lab:Rf→BitVec 64} {c d:Rf} {s:BitVec 64} (h:d≠c):zb lab c s d=lab d:=if_neg h
structure FlI (G:Gr) (w:Lw) (lab:Rf→BitVec 64) (todo:List Rf):Prop where
 up: ∀ i,∀ c∈aq G,seesP G w i c→(lab c).getLsbD i=true
 st: ∀ c∈aq G,c∉todo→eO G w lab (aK G c) (lab c)=lab c
 rd: ∀ c∈aq G,∀ i,(lab c).getLsbD i=true→(w.rd c).getLsbD i=true
 nd:todo.Nodup
 sub: ∀ c∈todo,c∈aq G
theorem FlI.start {G:Gr} (hG:GrOk G) (w:Lw):FlI G w w.rd (aq G):=
 ⟨fun _ _ _ h=>h.out.1,fun c hc hn=>absurd hc hn,fun _ _ _ h=>h,hG.sort.nodup,fun _ h=>h⟩
theorem Gx {G:Gr} {c:Rf} (h:c∉aq G):aK G c= []:=by
 have h1:lK G c=none:=nM.2 fun e he h2=>h (gH.2 ⟨e,he,h2⟩)
 rw [aK,h1];rfl
theorem FlI.done {G:Gr} {w:Lw} {lab:Rf→BitVec 64} (h:FlI G w lab []) {c:Rf} (hc:c∈aq G) (i:Nat):(lab c).getLsbD i=true↔seesP G w i c:=by
 refine ⟨fun hi=>⟨fun d=>d∈aq G∧(lab d).getLsbD i=true,⟨hc,hi⟩,fun d hd=>⟨h.rd d hd.1 i hd.2,fun x hx=> ?_⟩⟩,h.up i c hc⟩
 have h1:=h.st d hd.1 (by simp)
 have h2:=hd.2
 rw [← h1,ed] at h2
 rcases h2.2 x hx with h3|⟨h3,h4⟩
 ·
  exact .inl h3
 ·
  exact .inr ⟨h3,fun f hf hh=>⟨hf,h4 f hf hh⟩⟩
theorem GU {G:Gr} {w:Lw} {i:Nat} {c:Rf} (h:c∉aq G):seesP G w i c↔(w.rd c).getLsbD i=true:=by
 rw [Af,Gx h]
 simp
theorem FlI.skip {G:Gr} {w:Lw} {lab:Rf→BitVec 64} {x:Rf} {todo:List Rf} (h:FlI G w lab (x::todo)) (he:eO G w lab (aK G x) (lab x)=lab x):FlI G w lab todo:=by
 refine ⟨h.up,fun c hc hn=> ?_,h.rd,(VH.1 h.nd).2,fun c hc=>h.sub c (TM _ hc)⟩
 by_cases e:c=x
 ·
  subst e;exact he
 ·
  exact h.st c hc fun hm=>by rcases TS.1 hm with hm|hm;exact e hm;exact hn hm
theorem Ks {G:Gr} {w:Lw} {lab:Rf→BitVec 64} {c x:Rf} {t s:BitVec 64} (hx: ∀ u∈aK G c,cj u.rect x=false):eO G w (zb lab x t) (aK G c) s=eO G w lab (aK G c) s:=jN fun i=>by
 rw [ed,ed]
 refine and_congr_right fun _=>⟨fun h u hu=> ?_,fun h u hu=> ?_⟩
 all_goals
  rcases h u hu with h1|⟨h1,h2⟩
  ·
   exact .inl h1
  ·
   refine .inr ⟨h1,fun f hf hh=> ?_⟩
   have hne:f≠x:=fun e=>by subst e;rw [hx u hu] at hh;cases hh
   have h3:=h2 f hf hh
   first
    |rwa [iy hne] at h3
    |rwa [iy hne]
theorem Ns {G:Gr} (hG:GrOk G) {c x:Rf} (hc:c∈aq G) (hx:x∈aq G) (h:c∉eJ G (fR x.col x.row)): ∀ u∈aK G c,cj u.rect x=false:=fun u hu=>by
 rw [← V5]
 intro hh
 refine h ((zT hG (jr hG hx)).2 ⟨hc,?_⟩)
 unfold cM
 rw [VU]
 exact ⟨u,hu,by rw [oM hG hu hx];exact hh⟩
theorem FlI.turn {G:Gr} (hG:GrOk G) {w:Lw} {lab:Rf→BitVec 64} {x:Rf} {todo todo' :List Rf} (h:FlI G w lab (x::todo)) (hnd:todo'.Nodup) (hsub: ∀ c∈todo',c∈aq G) (hold: ∀ c∈todo,c∈todo') (hall: ∀ c∈eJ G (fR x.col x.row),c∈todo'):
  FlI G w (zb lab x (eO G w lab (aK G x) (lab x))) todo' :=by
 have hx:x∈aq G:=h.sub x TI
 refine ⟨fun i c hc hs=> ?_,fun c hc hn=> ?_,fun c hc i hi=> ?_,hnd,hsub⟩
 ·
  by_cases e:c=x
  ·
   subst e
   rw [mi,ed]
   refine ⟨h.up i c hc hs,fun u hu=> ?_⟩
   rcases hs.out.2 u hu with h1|⟨h1,h2⟩
   ·
    exact .inl h1
   ·
    exact .inr ⟨h1,fun f hf hh=>h.up i f hf (h2 f hf hh)⟩
  ·
   rw [iy e];exact h.up i c hc hs
 ·
  rw [Ks (Ns hG hc hx fun hm=>hn (hall c hm))]
  by_cases e:c=x
  ·
   subst e
   rw [mi,GK]
  ·
   rw [iy e]
   exact h.st c hc fun hm=>by rcases TS.1 hm with hm|hm;exact e hm;exact hn (hold c hm)
 ·
  by_cases e:c=x
  ·
   subst e
   rw [mi,ed] at hi
   exact h.rd c hc i hi.1
  ·
   rw [iy e] at hi
   exact h.rd c hc i hi
end Go.SL
namespace Go.SL
open Go Go.RowKit
section
variable {P:Program} {n:Fr} {w0:World} {Q:ck} {s sb:aB} {H:List Blk} {l:Nat}
variable {B:Exit→Act→World→Prop}
theorem JV {α:Type} {id:Nat} {g:Operand} {ps:List Tmp} {assign body:Code} {m:Nat} {f:FuncId} [hcf:Callable P f] {caps:List Value} {us:List α} {encs:α→List Value} {Hc HU0:List Blk} (hg:ev s g=some (.func (.func f) #[] caps.toArray))
  (hps: ∀ u,(encs u).length=ps.length) (hpn:ps.all (fun t=>Nat.blt t m)=true) (hseq:Seqs P f caps w0 Hc us encs) (U:List α→List Blk→Prop) (X:List Blk→Prop) (hH:MSub (HU0++Hc) H) (h0:U [] HU0)
  (hround: ∀ l pre u post,us=pre++u::post→ ∀ HU,U pre HU→ ∀ F F',WR P ⟨m,[]⟩ w0 l assign (cP fun s1 H1=> ∃ HU1,MSub (HU1++(Hc++F)) H1∧WR P ⟨m,[]⟩ w0 l body (dR U X (pre++ [u]) (Hc++F')) s1 (HU1++(Hc++F'))) ((ps.zip (encs u)).reverse++s) (HU++(Hc++F)))
  (hdone: ∀ D HU,U us HU→bC ⟨m,[v6 D]⟩ w0 B .normal s (dH D::(HU++Hc)))
  (hexit: ∀ D HU,X HU→bC ⟨m,[v6 D]⟩ w0 B .ret s (dH D::(HU++Hc))):
  WT P ⟨m,[]⟩ w0 (.block id (.rangeFunc g ps.toArray assign body)) B s H:=by
 intro a w hs hm
 have hm0:Mem w0 w (HU0++Hc):=hH.use hm
 refine wpIn_block (wpIn_rangeFunc fun fn _=> ?_)
 obtain ⟨rec,hrec⟩: ∃ rec:LoopState→Option Code→Loop,rec=fun st pe=>{ state:=st,pending:=pe,fn,tmps:=a.tmps,params:=ps.toArray,assign,body,defers:=w.heap.size }:=⟨_,rfl⟩
 obtain ⟨W1,hW1⟩: ∃ W1,(w.alloc (.deferred (some []))).alloc (.loop (rec .ready none))=W1:=⟨_,rfl⟩
 have hm1:Mem w0 W1 (.obj (w.heap.size+1) (.loop (rec .ready none))::dH w.heap.size::(HU0++Hc)):=by
  have h1:Mem w0 (w.alloc (.deferred (some []))) (dH w.heap.size::(HU0++Hc)):=hm0.new (World.grownBy_alloc w _ none) (World.alloc_heap_new w _) fun k hk=>by
   simp only [dH,Blk.key,Option.some.injEq] at hk;omega
  rw [← hW1]
  refine h1.new (World.grownBy_alloc _ _ none) ?_ fun k hk=> ?_
  ·
   have:=World.alloc_heap_new (w.alloc (.deferred (some []))) (.loop (rec .ready none))
   rwa [World.size_alloc] at this
  ·
   simp only [Blk.key,Option.some.injEq] at hk
   rw [World.size_alloc]
   omega
 have hcall:=hseq (w.heap.size+1) (fun pre H1=> ∃ HU,U pre HU∧H1= .obj (w.heap.size+1) (.loop (rec .ready none))::dH w.heap.size::HU)
  (fun _ H1=> ∃ HU,X HU∧H1= .obj (w.heap.size+1) (.loop (rec .done (some .ret)))::dH w.heap.size::HU)
  (.obj (w.heap.size+1) (.loop (rec .ready none))::dH w.heap.size::HU0) ?_ ⟨HU0,h0,rfl⟩ W1 (by simpa using hm1)
 rotate_left
 ·
  -- one round
  rintro pre u post hus H1 F ⟨HU,hU,rfl⟩ w1 hmr
  have hl:w1.heap[w.heap.size+1]? =some (.loop (rec .ready none)):=(hmr.on _ TI).1
  have hy:=run_yield (P:=P) (args:=(encs u).toArray) hl (by rw [hrec];simp [hps u])
  rw [hrec] at hy
  have hzip:(ps.toArray.zip (encs u).toArray).foldl (fun (tmps:Array Value) (x:Tmp × Value)=>tmps.setIfInBounds x.1 x.2) a.tmps=(ps.zip (encs u)).foldl (fun (tmps:Array Value) (x:Tmp × Value)=>tmps.setIfInBounds x.1 x.2) a.tmps:=by
   rw [← Array.foldl_toList];simp
  have hpar:=nU m ps (encs u) a.tmps s hs.size hs.has hpn
  refine ⟨fn,_,assign,body,hy,roundIn_of_wpIn trivial ?_⟩
  have hin:(fen none).inRound (w.heap.size+1)=fen (some (w.heap.size+1)):=rfl
  rw [hin]
  have hperm: ∀ (o:Blk) (HU:List Blk),((o::dH w.heap.size::HU)++(Hc++F)).Perm (HU++(Hc++(o::dH w.heap.size::F))):=fun o HU=>by
   have h1:((o::dH w.heap.size::HU)++(Hc++F))= [o,dH w.heap.size]++((HU++Hc)++F):=by simp
   have h2:(HU++(Hc++(o::dH w.heap.size::F)))=(HU++Hc)++([o,dH w.heap.size]++F):=by simp
   have h3:=(Ut (l₁:= [o,dH w.heap.size]) (l₂:=HU++Hc)).append_right F
   rw [TY,TY (HU++Hc)] at h3
   rw [h1,h2]
   exact h3
  have hst:St ⟨m,[]⟩ ((ps.zip (encs u)).reverse++s) { tmps:=(ps.toArray.zip (encs u).toArray).foldl (fun (tmps:Array Value) (x:Tmp × Value)=>tmps.setIfInBounds x.1 x.2) a.tmps,defers:= [] }:=by
   rw [hzip]
   exact ⟨hpar.1,rfl,hpar.2⟩
  refine wpIn_mono (hround (w.heap.size+1) pre u post hus HU hU (.obj (w.heap.size+1) (.loop (rec .ready none))::dH w.heap.size::F) (.obj (w.heap.size+1) (.loop (rec .busy none))::dH w.heap.size::F) _ w1 hst (hmr.perm (hperm _ _))) ?_
  rintro e a1 w2 ⟨s1,H1,hs1,hm2,rfl,HU1,hsub,hbody⟩
  have hm3:=(hsub.use hm2).perm (hperm _ _).symm
  have hl2:w2.heap[w.heap.size+1]? =some (.loop (rec .ready none)):=(hm3.on _ TI).1
  have turn: ∀ (w2:World) (st:LoopState) (pe:Option Code) (HU1:List Blk) (o' :Obj),Mem w0 w2 ((.obj (w.heap.size+1) (.loop (rec st pe))::dH w.heap.size::HU1)++(Hc++F))→Mem w0 (w2.putObj (w.heap.size+1) o') ((.obj (w.heap.size+1) o' ::dH w.heap.size::HU1)++(Hc++F)):=by
   intro w2 st pe HU1 o' hm3
   have hl2:w2.heap[w.heap.size+1]? =some (.loop (rec st pe)):=(hm3.on _ TI).1
   exact Mem.upd (b:= .obj (w.heap.size+1) (.loop (rec st pe))) (b' := .obj (w.heap.size+1) o') hm3 (grownBy_putObj' w2 _ _) (World.putObj_heap_same (Um.1 hl2).1) fun k hk=> .inl hk
  refine ⟨_,run_beginRound hl2 (by rw [hrec]),?_⟩
  have hb:=turn w2 _ _ HU1 (.loop { rec .ready none with state:= .busy }) hm3
  have hbusy:({ rec .ready none with state:= .busy }:Loop)=rec .busy none:=by rw [hrec]
  rw [hbusy] at hb ⊢
  refine wpIn_mono (hbody a1 _ hs1 (hb.perm (hperm _ _))) ?_
  rintro e a3 w3 ⟨s3,H3,hs3,hm4,hq⟩
  cases e with
  |normal=>
   obtain ⟨HU2,hsub2,hU2⟩:=hq
   have hm5:=(hsub2.use hm4).perm (hperm _ _).symm
   have hl5:w3.heap[w.heap.size+1]? =some (.loop (rec .busy none)):=(hm5.on _ TI).1
   refine ⟨_,_,run_endRound none hl5,true,_,rfl,turn w3 _ _ HU2 _ hm5,?_⟩
   refine ⟨HU2,hU2,?_⟩
   rw [hrec]
   rfl
  |ret=>
   obtain ⟨HU2,hsub2,hX⟩:=hq
   have hm5:=(hsub2.use hm4).perm (hperm _ _).symm
   have hl5:w3.heap[w.heap.size+1]? =some (.loop (rec .busy none)):=(hm5.on _ TI).1
   refine ⟨_,_,run_endRound (some .ret) hl5,false,_,rfl,turn w3 _ _ HU2 _ hm5,?_⟩
   refine ⟨HU2,hX,?_⟩
   rw [hrec]
   rfl
  |exit id=>exact hq.elim
  |goto t=>exact hq.elim
  |panic c=>exact hq.elim
  |outgrown=>exact hq.elim
 have hev:=hs.eval g _ hg
 refine ⟨w.heap.size+1,[v6 w.heap.size],W1,{ target:= .fn (.func f) caps.toArray,args:= #[.func (.yield (w.heap.size+1)) #[] #[]] },W1,f,#[.func (.yield (w.heap.size+1)) #[] #[]]++caps.toArray,W1,?_,?_,fun _ _=>trivial,?_,mQ none,?_⟩
 ·
  rw [← hW1,hrec]
  exact run_enterLoop_outer _ _ _ _ _
 ·
  simp only [resolve,hev]
  simp [go_sem]
 ·
  simp [invoke,hcf.out]
 ·
  have harr:(#[.func (.yield (w.heap.size+1)) #[] #[]]++caps.toArray:Array Value)=(.func (.yield (w.heap.size+1)) #[] #[]::caps).toArray:=by simp
  rw [harr]
  refine CallsIn.mono (uN (r:=none) hcall) ?_
  rintro e w2 ⟨v,H',rfl,hm2,H1,hI,hsub⟩
  have hm3:=hsub.use hm2
  have fin: ∀ (st:LoopState) (pe:Option Code) (HU:List Blk),st≠ .busy→Mem w0 w2 ((.obj (w.heap.size+1) (.loop (rec st pe))::dH w.heap.size::HU)++Hc)→
    ∃ w4,(Instr.endLoop (w.heap.size+1)).run P w2= .ok pe w4∧Mem w0 w4 (dH w.heap.size::(HU++Hc)):=by
   intro st pe HU hst hm4
   have hl:w2.heap[w.heap.size+1]? =some (.loop (rec st pe)):=(hm4.on _ TI).1
   have hr:=run_endLoop (P:=P) hl (by rw [hrec];exact hst)
   have hp:(rec st pe).pending=pe:=by rw [hrec]
   rw [hp] at hr
   refine ⟨_,hr,?_⟩
   exact (Mem.upd (b:= .obj (w.heap.size+1) (.loop (rec st pe))) (b' := .obj (w.heap.size+1) (.loop { rec st pe with state:= .exhausted,pending:=pe })) hm4 (grownBy_putObj' w2 _ _) (World.putObj_heap_same (Um.1 hl).1) fun k hk=> .inl hk).tail
  have hst:St ⟨m,[v6 w.heap.size]⟩ s { a with defers:= [v6 w.heap.size]++a.defers }:=⟨hs.size,by rw [hs.defers];rfl,hs.has⟩
  rcases hI with ⟨HU,hU,rfl⟩|⟨pre,HU,hX,rfl⟩
  ·
   obtain ⟨w4,hr,hm4⟩:=fin _ _ HU (by decide) hm3
   exact ⟨none,w4,hr,hdone _ HU hU _ w4 hst hm4⟩
  ·
   obtain ⟨w4,hr,hm4⟩:=fin _ _ HU (by decide) hm3
   exact ⟨some .ret,w4,hr,wpIn_ret (hexit _ HU hX _ w4 hst hm4)⟩
theorem MSub.perm36 {H H' :List Blk} (h:H'.Perm H):MSub H H' :=⟨[],by simpa using h⟩
theorem Ca (A X C:List Blk):(A++(C++X)).Perm ((A++X)++C):=by
 rw [TY]
 exact List.Perm.append_left A Ut
theorem Seqs.frame {α:Type} {f:FuncId} {caps:List Value} {us:List α} {encs:α→List Value} {Hc:List Blk} (h:Seqs P f caps w0 Hc us encs) (X:List Blk):Seqs P f caps w0 (Hc++X) us encs:=by
 intro l I J H0 hy h0
 have h1:=h l (fun pre H1=> ∃ H2,H1=H2++X∧I pre H2) (fun pre H1=> ∃ H2,H1=H2++X∧J pre H2) (H0++X) (by
  rintro pre u post hus H1 F ⟨H2,rfl,hI⟩ w hm
  have hp: ∀ A:List Blk,((A++X)++(Hc++F)).Perm (A++((Hc++X)++F)):=fun A=>by
   have:=(Ca A X Hc).symm.append_right F
   simpa using this
  obtain ⟨fn,tmps,assign,body,hy1,hy2⟩:=hy pre u post hus H2 F hI w (hm.perm (hp H2))
  refine ⟨fn,tmps,assign,body,hy1,hy2.mono ?_⟩
  rintro e w' ⟨b,H3,he,hm3,hb⟩
  refine ⟨b,H3++X,he,hm3.perm (hp H3).symm,?_⟩
  cases b
  ·
   exact ⟨H3,rfl,hb⟩
  ·
   exact ⟨H3,rfl,hb⟩) ⟨H0,rfl,h0⟩
 refine (FnIn.msub h1 (MSub.perm36 (Ca H0 X Hc))).mono ?_
 rintro v H' ⟨H1,hI,hsub⟩
 have hq: ∀ H2:List Blk,H1=H2++X→MSub (H2++(Hc++X)) H' :=fun H2 e=>by
  subst e
  exact MSub.trans (MSub.perm36 (Ca H2 X Hc).symm) hsub
 rcases hI with ⟨H2,e,hI⟩|⟨pre,H2,e,hJ⟩
 ·
  exact ⟨H2,.inl hI,hq H2 e⟩
 ·
  exact ⟨H2,.inr ⟨pre,hJ⟩,hq H2 e⟩
end
end Go.SL
namespace Go.SL
open Go Go.Proofs
attribute [local irreducible] W WL WQ WG WA WX WLI WR WT WC WE VOp RW thn blk bF scp ba aZ bC FnAt FnIn FnP ceP
theorem kM {G:Gr} (hG:GrOk G) (d:Rf):(aK G d).length≤1000:=Uo (Ki hG d) (by decide)
structure Rdr (gg:Nat) (G:Gr) (B:List Blk) (w0:World):Prop where
 g:GrOk G
 l:G.length≤900
 ur: ∀ r H,MSub B H→FnIn Tryz.prog 139 [.pointer (some ⟨gg,0,none⟩),.agg (aN r).toArray] w0 H fun v H' => ∃ A cap,v=sl A (eJ G r).length cap∧H' = .own A 51 2 (eJ G r).length cap ((eJ G r).flatMap aC)::H
 fm: ∀ H,MSub B H→FnIn Tryz.prog 34 [.pointer (some ⟨gg,0,none⟩)] w0 H fun v H' => ∃ A cap,v=sl A (aq G).length cap∧H' = .own A 51 2 (aq G).length cap ((aq G).flatMap aC)::H
 us: ∀ d H,MSub B H→FnIn Tryz.prog 42 [.pointer (some ⟨gg,0,none⟩),aY d] w0 H fun v H' => ∃ A cap,v=sl A (aK G d).length cap∧H' = .own A 100 6 (aK G d).length cap ((aK G d).flatMap cV)::H
theorem GOk.rdr {R:List Blk} {E:List En} {clock:Nat} {G:Gr} (h:GOk R E clock G) (hG:GrOk G) (hl:G.length≤900) (gg gm:Nat) (w0:World):Rdr gg G (gB gg gm (E.map En.m) clock++R) w0:=
 ⟨hG,hl,fun r _ hs=>h.users_any gg gm hs w0 hl hG r,fun _ hs=>h.formulas_any gg gm hs w0 hl,fun d _ hs=>h.uses_any gg gm hs w0 d⟩
end Go.SL
namespace Go.SL
open Go Go.Proofs
attribute [local irreducible] W WL WQ WG WA WX WLI WR WT WC WE VOp RW thn blk bF scp ba aZ bC FnAt FnIn FnP ceP gA cP dR
theorem xN (a:Rf) (L:List Rl) (gb:Nat) (gv rv nv cv lm rm tm:Value) (w0:World) (F:List Blk) (hl: ∀ w',Mem w0 w' F→Reads w' rv L.length (L.flatMap bM)):
  FnIn Tryz.prog 90 [.pointer (some ⟨gb,0,none⟩),aY a] w0 (.box gb 164 [gv,rv,nv,cv,lm,rm,tm]::F) fun v H' =>v=vS (atE a L).1.1∧H' = .box gb 164 [gv,rv,nv,cv,lm,rm,tm]::F:=by
 refine cF Tryz.func90 rfl Tryz.ntmps90 rfl ?_
 have h1:=fun (w' :World) (H:List Blk) (hs:MSub F H) (hm:Mem w0 w' H)=>wN a L rv w' (hl w' (hs.use hm))
 generalize (atE a L).2=e at h1
 generalize (atE a L).1.1=s1 at h1 ⊢
 generalize (atE a L).1.2.1=s2 at h1
 generalize (atE a L).1.2.2=s3 at h1
 repeat' (first|refine sT ?_|refine sS ?_|refine sM fun _=> ?_|(refine sC ?_ ?_<;>intro hb<;>try omega)|fail)
 rename_i g3
 refine ll (id:=1) [5,9,10] [.box g3 51 (aC a),.box gb 164 [gv,rv,nv,cv,lm,rm,tm]] 12 rfl rfl mS ?_
 repeat' (first|(apply bY (i:=0);(iterate 4 exact rfl);decide+kernel;decide+kernel;decide+kernel;(exact vC))|(apply bY (i:=1);(iterate 4 exact rfl);decide+kernel;decide+kernel;decide+kernel;(exact vC))|(apply bY (i:=2);(iterate 4 exact rfl);decide+kernel;decide+kernel;decide+kernel;(exact vC))|(apply bY (i:=3);(iterate 4 exact rfl);decide+kernel;decide+kernel;decide+kernel;(exact vC))|(apply bY (i:=4);(iterate 4 exact rfl);decide+kernel;decide+kernel;decide+kernel;(exact vC))|(apply bY (i:=6);(iterate 4 exact rfl);decide+kernel;decide+kernel;decide+kernel;(exact vC))|(apply bY (i:=7);(iterate 4 exact rfl);decide+kernel;decide+kernel;decide+kernel;(exact vC))|(apply bY (i:=8);(iterate 4 exact rfl);decide+kernel;decide+kernel;decide+kernel;(exact vC))|(apply bY (i:=11);(iterate 4 exact rfl);decide+kernel;decide+kernel;decide+kernel;(apply fX;exact rfl))|(apply iq (i:=5) (j:=9);(iterate 6 exact rfl);decide+kernel)|(apply cG (i:=5);(iterate 3 exact rfl);decide+kernel)|(apply cG (i:=9);(iterate 3 exact rfl);decide+kernel)|(apply cG (i:=10);(iterate 3 exact rfl);decide+kernel)|(apply lj;decide+kernel)|(apply CN;(focus (exact mS;done)))|(apply aa (f:=31);exact rfl;exact rfl;(intro w' hm;exact h1 w' _ mS hm))|refine sT ?_|refine sS ?_|refine sM fun _=> ?_|(refine sC ?_ ?_<;>intro hb<;>try omega)|fail)
 all_goals exact cA eIO rfl rfl (H' := .box gb 164 [gv,rv,nv,cv,lm,rm,tm]::F) mS ⟨rfl,rfl⟩
set_option maxHeartbeats 8000000 in
theorem Gb (r:Rct) (K:List Rf) (hK:K.length≤1000000) (gw gr gb:Nat) (gv rv nv lm rm tm:Value) (Ac:Option Nat) (cap:Nat) (w0:World):
  Seqs Tryz.prog 182 [.pointer (some ⟨gw,0,none⟩),.pointer (some ⟨gr,0,none⟩)] w0
   [.box gw 156 [.pointer (some ⟨gb,0,none⟩)],.box gr 33 (aN r),.box gb 164 [gv,rv,nv,sl Ac K.length cap,lm,rm,tm],.own Ac 51 2 K.length cap (K.flatMap aC)] (K.filter fun c=>cj r c) (fun c=> [aY c]):=by
 intro l I J H0 hy h0
 refine FnIn.msub (H' := [.box gw 156 [.pointer (some ⟨gb,0,none⟩)],.box gr 33 (aN r),.box gb 164 [gv,rv,nv,sl Ac K.length cap,lm,rm,tm],.own Ac 51 2 K.length cap (K.flatMap aC)]++H0) ?_ (MSub.appC H0 [] _)
 refine cF Tryz.func182 rfl Tryz.ntmps182 rfl ?_
 repeat' (first|refine sT ?_|refine sS ?_|refine sM fun _=> ?_|(refine sC ?_ ?_<;>intro hb<;>try omega)|fail)
 refine ay [0,1,2,9,10] rfl (fun y:Nat × List Rf × List Blk=> [(11,.int .i64 (y.1:Int))]) (fun y=> [.box gw 156 [.pointer (some ⟨gb,0,none⟩)],.box gr 33 (aN r),.box gb 164 [gv,rv,nv,sl Ac K.length cap,lm,rm,tm],.own Ac 51 2 K.length cap (K.flatMap aC)]++y.2.2) (fun y=>y.1≤K.length∧(K.filter fun c=>cj r c)=y.2.1++(K.drop y.1).filter (fun c=>cj r c)∧I y.2.1 y.2.2) (fun y=>K.length - y.1) (0,[],H0) ⟨TW _,rfl,h0⟩ sB (by exact MSub.refl _) ?_
 rintro ⟨i,pre,H1⟩ ⟨hi,hus,hI⟩
 dsimp only at hi hus hI ⊢
 simp only [TK,TL]
 by_cases hlt:i<K.length
 ·
  refine bK (A:=Ac) (.tl (.tl (.tl .hd))) (by omega) fun gk hA=> ?_
  subst hA
  have hread:=xJ hlt
  rw [TN hlt,Vf] at hus
  generalize K[i]=c at hus hread
  have hN:=fun w=>IU r c w
  generalize cj r c=c2 at hN hus
  repeat' (first|(apply je (id:=3))|(apply ak;exact rfl;apply aj (j:=i);exact rfl;exact rfl;exact hlt)|(apply ak;exact rfl;apply aA;exact rfl;exact pK;exact hread;exact rfl)|(apply l8;exact rfl;exact rfl)|(apply pV;(iterate 4 exact rfl))|(apply wQ<;>first|exact rfl|(intro hb;replace hb:=Tidy.out hb;try (exfalso;omega)))|(apply tP (f:=59);(iterate 3 exact rfl);(intro w' hm;exact hN w'))|refine sT ?_|refine sS ?_|refine sI ?_|refine sN ?_|refine sM fun _=> ?_|(refine sC ?_ ?_<;>intro hb<;>try omega)|fail)
  ·
   have hus2:(K.filter fun c=>cj r c)=pre++c::(K.drop (i+1)).filter (fun c=>cj r c):=by rw [hus,if_pos hb]
   rename_i g5
   (with_reducible apply il)
   ·
    exact rfl
   ·
    exact rfl
   ·
    exact rfl
   ·
    exact MSub.appC [.box g5 51 (aC c)] [.box gw 156 [.pointer (some ⟨gb,0,none⟩)],.box gr 33 (aN r),.box gb 164 [gv,rv,nv,sl (some gk) K.length cap,lm,rm,tm],.own (some gk) 51 2 K.length cap (K.flatMap aC)] H1
   ·
    exact fun w hm=>hy pre c _ hus2 H1 _ hI w hm
   intro bb H3 hq
   cases bb
   ·
    repeat' (first|(apply l8;exact rfl;exact rfl)|(apply pV;(iterate 4 exact rfl))|refine sT ?_|refine sS ?_|refine sI ?_|refine sM fun _=> ?_|(refine sC ?_ ?_<;>intro hb<;>try omega)|fail)
    exact fL eIO rfl (MSub.appE [.box g5 51 (aC c)] [.box gw 156 [.pointer (some ⟨gb,0,none⟩)],.box gr 33 (aN r),.box gb 164 [gv,rv,nv,sl (some gk) K.length cap,lm,rm,tm],.own (some gk) 51 2 K.length cap (K.flatMap aC)] H3) ⟨H3,.inr ⟨_,hq⟩,MSub.refl _⟩
   ·
    repeat' (first|(apply l8;exact rfl;exact rfl)|(apply pV;(iterate 4 exact rfl))|refine sT ?_|refine sS ?_|refine sI ?_|refine sN ?_|refine sM fun _=> ?_|(refine sC ?_ ?_<;>intro hb<;>try omega)|fail)
    refine ⟨(i+1,_,H3),⟨hlt,hus2.trans (by rw [List.append_assoc];rfl),hq⟩,(by dsimp only;omega),sB,sB,?_⟩
    dsimp only
    exact MSub.trans (MSub.drop .hd (MSub.refl _)) (MSub.appD [.box g5 51 (aC c)] [.box gw 156 [.pointer (some ⟨gb,0,none⟩)],.box gr 33 (aN r),.box gb 164 [gv,rv,nv,sl (some gk) K.length cap,lm,rm,tm],.own (some gk) 51 2 K.length cap (K.flatMap aC)] H3)
  all_goals
   refine ⟨(i+1,pre,H1),⟨hlt,by rw [hus,if_neg (by rw [hb];decide)],hI⟩,(by dsimp only;omega),sB,sB,?_⟩
   exact MSub.drop .hd (MSub.refl _)
 ·
  have e:i=K.length:=by omega
  subst e
  rw [UB,List.filter_nil,TR] at hus
  repeat' (first|refine sT ?_|refine sS ?_|refine sM fun _=> ?_|(refine sC ?_ ?_<;>intro hb<;>try omega)|fail)
  exact fL eIO rfl (.refl _) ⟨H1,.inl (hus ▸ hI),MSub.appS [.box gw 156 [.pointer (some ⟨gb,0,none⟩)],.box gr 33 (aN r),.box gb 164 [gv,rv,nv,sl Ac K.length cap,lm,rm,tm],.own Ac 51 2 K.length cap (K.flatMap aC)] H1⟩
end Go.SL
namespace Go.SL
open Go Go.RowKit
section
variable {κ:Type}
def Ta (f:κ→Value) (x:κ × Nat):κ × Value × Nat:=(x.1,f x.1,x.2)
def mapM (f:κ→Value) (S:List κ):List (κ × Value × Nat):=S.zipIdx.map (Ta f)
theorem jK (f:κ→Value) (S:List κ) (i:Nat):(mapM f S)[i]? =S[i]?.map fun a=>(a,f a,i):=by
 unfold mapM
 rw [Uq,List.getElem?_zipIdx,Vz]
 cases S[i]? <;>simp [Ta]
theorem s6 (f:κ→Value) (S:List κ):(mapM f S).length=S.length:=by simp [mapM]
theorem AJ (f:κ→Value) (S:List κ):(mapM f S).map (fun e=>e.1)=S:=by
 apply Vv
 intro i
 rw [Uq,jK,Vz]
 cases S[i]? <;>rfl
variable [DecidableEq κ]
def nj (f:κ→Value) (k:κ) (v:Value):κ→Value:=fun x=>if x=k then v else f x
theorem AK {k:κ}: ∀ {es:List (κ × Value × Nat)} {i:Nat},k∉es.map (fun e=>e.1)→bJ k es i=none
 | [],_,_=>rfl
 |e::es,i,h=>by
  rw [Ud,TS,not_or] at h
  rw [bJ,if_neg h.1]
  exact AK h.2
theorem EY {k:κ}: ∀ {es:List (κ × Value × Nat)} {i:Nat},k∈es.map (fun e=>e.1)→ ∃ j v,bJ k es i=some (j,v)
 | [],_,h=>by cases h
 |e::es,i,h=>by
  by_cases hk:k=e.1
  ·
   exact ⟨i,e.2.1,by rw [bJ,if_pos hk]⟩
  ·
   rw [Ud,TS] at h
   rw [bJ,if_neg hk]
   exact EY (h.resolve_left hk)
theorem uo {f:κ→Value} {S:List κ} {k:κ} (h:k∈S): ∃ i,bJ k (mapM f S) 0=some (i,f k)∧S[i]? =some k:=by
 obtain ⟨j,v,hj⟩:=EY (k:=k) (es:=mapM f S) (i:=0) (by rw [AJ];exact h)
 obtain ⟨b,_,hb⟩:=kF hj
 rw [U9,jK] at hb
 cases hS:S[j]? with
 |none=>rw [hS] at hb;cases hb
 |some a=>
  rw [hS] at hb
  simp only [UH,Option.some.injEq,Prod.mk.injEq] at hb
  obtain ⟨h1,h2,_⟩:=hb
  subst h1
  exact ⟨j,by rw [hj,← h2],hS⟩
theorem pE {f:κ→Value} {S:List κ} {k:κ} (h:k∉S):bJ k (mapM f S) 0=none:=AK (by rw [AJ];exact h)
theorem py (f:κ→Value) (S:List κ) (k:κ) (z:Value):(match bJ k (mapM f S) 0 with|some (_,v)=>v|none=>z)=if k∈S then f k else z:=by
 by_cases h:k∈S
 ·
  obtain ⟨i,h1,_⟩:=uo (f:=f) h
  rw [h1,if_pos h]
 ·
  rw [pE h,if_neg h]
theorem rE (f:κ→Value) (S:List κ) (k:κ) (z:Value):(match bJ k (mapM f S) 0 with|some (_,v)=>Value.tuple #[v,.bool true]|none=> .tuple #[z,.bool false])= .tuple #[if k∈S then f k else z,.bool (decide (k∈S))]:=by
 by_cases h:k∈S
 ·
  obtain ⟨i,h1,_⟩:=uo (f:=f) h
  rw [h1,if_pos h,decide_eq_true h]
 ·
  rw [pE h,if_neg h,decide_eq_false h]
theorem BX {f:κ→Value} {S:List κ} {k:κ} {v:Value} (h:k∉S):iA k v S.length (mapM f S)=(mapM (nj f k v) (S++ [k]),S.length+1):=by
 have h1:mapM (nj f k v) (S++ [k])=mapM f S++ [(k,v,S.length)]:=by
  apply Vv
  intro i
  rw [jK]
  rcases Nat.lt_trichotomy i S.length with h2|h2|h2
  ·
   rw [Uh h2,Uh (by rw [s6];exact h2),jK,TJ h2]
   have:S[i]≠k:=fun e=>h (e ▸ UA h2)
   simp [nj,this]
  ·
   subst h2
   rw [Uj (TQ _),Uj (by rw [s6];exact TQ _),s6]
   simp [nj]
  ·
   rw [UN (by simp;omega),UN (by rw [TG,s6];simp;omega)];rfl
 unfold iA
 rw [pE h,h1]
theorem BW {f:κ→Value} {S:List κ} {k:κ} {v:Value} {c:Nat} (hn:S.Nodup) (h:k∈S):iA k v c (mapM f S)=(mapM (nj f k v) S,c):=by
 obtain ⟨i,h1,h2⟩:=uo (f:=f) h
 have h3:(mapM f S).modify i (fun e=>(k,v,e.2.2))=mapM (nj f k v) S:=by
  apply Vv
  intro j
  rw [V0,jK,jK]
  by_cases e:i=j
  ·
   subst e
   simp [h2,nj]
  ·
   cases hj:S[j]? with
   |none=>simp
   |some a=>
    have:a≠k:=fun e2=>e (by
     subst e2
     obtain ⟨l1,g1⟩:=TV.1 h2
     obtain ⟨l2,g2⟩:=TV.1 hj
     exact (List.getElem_inj hn).1 (g1.trans g2.symm))
    simp [e,nj,this]
 unfold iA
 rw [h1]
 simp only [h3]
end
end Go.SL
namespace Go.SL
open Go Go.Proofs
attribute [local irreducible] W WL WQ WG WA WX WLI WR WT WC WE VOp RW thn blk bF scp ba aZ bC FnAt FnIn FnP ceP gA cP dR
theorem tW {κ:Type} [DecidableEq κ] {f:κ→Value} {k:κ} {v:Value} (h:v=f k):nj f k v=f:=by
 funext x;unfold nj;split
 ·
  rename_i e;subst e;exact h
 ·
  rfl
theorem FQ {K:List Rf} {lab:Rf→BitVec 64} {r:Rct} {s:BitVec 64}:(K.filter fun c=>cj r c).foldl (fun s c=>s &&& lab c) s=FT K lab r s:=by
 unfold FT;rw [List.foldl_filter]
def qU (lab:Rf→BitVec 64) (l:List Rf) (s:BitVec 64):BitVec 64:=l.foldl (fun s c=>s &&& lab c) s
theorem Ip {lab:Rf→BitVec 64} {l:List Rf} {c:Rf} {s:BitVec 64}:qU lab (l++ [c]) s=qU lab l s &&& lab c:=by unfold qU;rw [U8];rfl
theorem J4 (r:Rct) (gb:Nat) (w:World):FnAt Tryz.prog 143 [.pointer (some ⟨gb,0,none⟩),.agg (aN r).toArray] w fun v H=> ∃ gw gq,v= .func (.func 182) #[] #[.pointer (some ⟨gw,0,none⟩),.pointer (some ⟨gq,0,none⟩)]∧H= [.box gw 156 [.pointer (some ⟨gb,0,none⟩)],.box gq 33 (aN r)]:=by
 refine ax Tryz.func143 rfl Tryz.ntmps143 rfl ?_
 repeat' (first|refine sT ?_|refine sM fun _=> ?_|(refine sC ?_ ?_<;>intro hb<;>try omega)|fail)
 rename_i gw gq
 exact cA eIO rfl rfl (H' := [.box gw 156 [.pointer (some ⟨gb,0,none⟩)],.box gq 33 (aN r)]) mS ⟨gw,gq,rfl,rfl⟩
set_option maxHeartbeats 8000000 in
theorem yj (r:Rct) (gb gl gr ga:Nat) (gv rv nv:Value) (Ac:Option Nat) (cap:Nat) (K:List Rf) (L:List Rl) (hK:K.length≤1000000) (lab:Rf→BitVec 64) (SR:List Rct) (w0:World) (F:List Blk) (hl: ∀ w',Mem w0 w' F→Reads w' rv L.length (L.flatMap bM)):
  FnIn Tryz.prog 95 [.pointer (some ⟨gb,0,none⟩),.agg (aN r).toArray] w0 (.box gb 164 [gv,rv,nv,sl Ac K.length cap,.map (some gl),.map (some gr),.map (some ga)]:: .own Ac 51 2 K.length cap (K.flatMap aC):: .obj gl (aU aY (mapM (fun c=>vS (lab c)) K) K.length):: .obj gr (aU iR (mapM (fun r=>vS (ovE r L).1.1) SR) (SR).length)::F) fun v H' =>v=vS (FT K lab r (ovE r L).1.1)∧H' = .box gb 164 [gv,rv,nv,sl Ac K.length cap,.map (some gl),.map (some gr),.map (some ga)]:: .own Ac 51 2 K.length cap (K.flatMap aC):: .obj gl (aU aY (mapM (fun c=>vS (lab c)) K) K.length):: .obj gr (aU iR (mapM (fun r=>vS (ovE r L).1.1) (if r∈SR then SR else SR++ [r])) ((if r∈SR then SR else SR++ [r])).length)::F:=by
 refine yt Tryz.func95 rfl Tryz.ntmps95 (by rfl) ?_
 have h1:=fun (w' :World) (H:List Blk) (hs:MSub F H) (hm:Mem w0 w' H)=>wL r L rv w' (hl w' (hs.use hm))
 have h2:=fun w=>J4 r gb w
 have hlook:=rE (fun r=>vS (ovE r L).1.1) SR r (vS 0#64)
 have hnew:=fun h:r∉SR=>BX (f:=fun r=>vS (ovE r L).1.1) (v:=vS (ovE r L).1.1) h
 have hup:=tW (f:=fun r=>vS (ovE r L).1.1) (k:=r) rfl
 try dsimp only at hlook
 try dsimp only at hup
 obtain ⟨s1,hs1⟩: ∃ s,(ovE r L).1.1=s:=⟨_,rfl⟩
 rw [hs1] at h1 hlook hnew hup ⊢
 generalize (ovE r L).2=e at h1
 generalize (ovE r L).1.2.1=s2 at h1
 generalize (ovE r L).1.2.2=s3 at h1
 rw [hup] at hnew
 by_cases hr:r∈SR
 focus
  rw [if_pos hr,decide_eq_true hr] at hlook
  rw [if_pos hr]
  repeat' (first|(apply eW (id:=1) [9,10] [];kernel_rfl;kernel_rfl;kernel_rfl)|(apply eG (d:=16);(iterate 3 exact rfl);apply fV (enc:=iR) (k:=r);exact rfl;exact rfl;exact pK;exact hlook)|(apply aF (f:=143);exact rfl;exact rfl;(intro w' hm;exact h2 w');rintro _ _ ⟨gw,gq,rfl,rfl⟩)|refine sT ?_|refine sS ?_|refine sR ?_|refine sW ?_|refine sM fun _=> ?_|(refine sC ?_ ?_<;>intro hb<;>try omega)|(refine sCR ?_ ?_<;>intro hb<;>try omega)|(refine sCW ?_ ?_<;>intro hb<;>try omega)|fail)
  rename_i g2 g3 g5
  generalize SR=S'
 rotate_left
 focus
  rw [if_neg hr,decide_eq_false hr] at hlook
  rw [if_neg hr]
  have hnew:=hnew hr
  repeat' (first|(apply eW (id:=1) [9,10] [];kernel_rfl;kernel_rfl;kernel_rfl)|(apply eG (d:=16);(iterate 3 exact rfl);apply fV (enc:=iR) (k:=r);exact rfl;exact rfl;exact pK;exact hlook)|refine sT ?_|refine sS ?_|refine sR ?_|refine sW ?_|refine sM fun _=> ?_|(refine sC ?_ ?_<;>intro hb<;>try omega)|(refine sCR ?_ ?_<;>intro hb<;>try omega)|(refine sCW ?_ ?_<;>intro hb<;>try omega)|fail)
  rename_i g2 g3 g5
  refine ll (id:=3) [5,9,10] [.box g2 156 [.pointer (some ⟨gb,0,none⟩)],.box g3 33 (aN r),.box gb 164 [gv,rv,nv,sl Ac K.length cap,.map (some gl),.map (some gr),.map (some ga)]] 12 rfl rfl mS ?_
  repeat' (first|(apply bY (i:=0);(iterate 4 exact rfl);decide+kernel;decide+kernel;decide+kernel;(exact vC))|(apply bY (i:=1);(iterate 4 exact rfl);decide+kernel;decide+kernel;decide+kernel;(exact vC))|(apply bY (i:=2);(iterate 4 exact rfl);decide+kernel;decide+kernel;decide+kernel;(exact vC))|(apply bY (i:=3);(iterate 4 exact rfl);decide+kernel;decide+kernel;decide+kernel;(exact vC))|(apply bY (i:=4);(iterate 4 exact rfl);decide+kernel;decide+kernel;decide+kernel;(exact vC))|(apply bY (i:=6);(iterate 4 exact rfl);decide+kernel;decide+kernel;decide+kernel;(exact vC))|(apply bY (i:=7);(iterate 4 exact rfl);decide+kernel;decide+kernel;decide+kernel;(exact vC))|(apply bY (i:=8);(iterate 4 exact rfl);decide+kernel;decide+kernel;decide+kernel;(exact vC))|(apply bY (i:=11);(iterate 4 exact rfl);decide+kernel;decide+kernel;decide+kernel;(apply fX;exact rfl))|(apply iq (i:=5) (j:=9);(iterate 6 exact rfl);decide+kernel)|(apply cG (i:=5);(iterate 3 exact rfl);decide+kernel)|(apply cG (i:=9);(iterate 3 exact rfl);decide+kernel)|(apply cG (i:=10);(iterate 3 exact rfl);decide+kernel)|(apply lj;decide+kernel)|(apply CN;(focus (exact mS;done)))|(apply aa (f:=30);exact rfl;exact rfl;(intro w' hm;exact h1 w' _ mS hm))|refine sT ?_|refine sS ?_|refine sR ?_|refine sM fun _=> ?_|(refine sC ?_ ?_<;>intro hb<;>try omega)|(refine sCR ?_ ?_<;>intro hb<;>try omega)|fail)
  all_goals
   rename_i g7
   refine fu (id:=5) [6] [] [.box g2 156 [.pointer (some ⟨gb,0,none⟩)],.box g3 33 (aN r),.box g5 34 [vS s1],.box gb 164 [gv,rv,nv,sl Ac K.length cap,.map (some gl),.map (some gr),.map (some ga)]] (by kernel_rfl) (by kernel_rfl) (by kernel_rfl) mS ?_
   repeat' (first|(apply eU (enc:=iR) (k:=r);(iterate 3 exact rfl);exact pK;rw [hnew])|(apply aF (f:=143);exact rfl;exact rfl;(intro w' hm;exact h2 w');rintro _ _ ⟨gw,gq,rfl,rfl⟩)|refine sT ?_|refine sS ?_|refine sR ?_|refine sW ?_|refine sM fun _=> ?_|(refine sC ?_ ?_<;>intro hb<;>try omega)|(refine sCR ?_ ?_<;>intro hb<;>try omega)|(refine sCW ?_ ?_<;>intro hb<;>try omega)|fail)
   rw [show SR.length+1=(SR++ [r]).length by simp]
   generalize SR++ [r]=S'
 all_goals
  refine JV (ps:= [41]) (us:=K.filter fun c=>cj r c) (encs:=fun c=> [aY c]) (Hc:= .box gw 156 [.pointer (some ⟨gb,0,none⟩)]:: .box gq 33 (aN r):: .box gb 164 [gv,rv,nv,sl Ac K.length cap,.map (some gl),.map (some gr),.map (some ga)]:: .own Ac 51 2 K.length cap (K.flatMap aC)::F) (HU0:= .box g2 156 [.pointer (some ⟨gb,0,none⟩)]:: .box g5 34 [vS (s1)]:: .obj gl (aU aY (mapM (fun c=>vS (lab c)) K) K.length):: .obj gr (aU iR (mapM (fun r=>vS (ovE r L).1.1) S') S'.length):: []) rfl (fun _=>rfl) rfl ((Gb r K hK gw gq gb gv rv nv _ _ _ Ac cap w0).frame F) (fun pre HU=>HU= .box g2 156 [.pointer (some ⟨gb,0,none⟩)]:: .box g5 34 [vS (qU lab pre s1)]:: .obj gl (aU aY (mapM (fun c=>vS (lab c)) K) K.length):: .obj gr (aU iR (mapM (fun r=>vS (ovE r L).1.1) S') S'.length):: []) (fun _=>False) ?_ rfl ?_ ?_ ?_
  ·
   exact mS
  ·
   rintro l pre c post hus _ rfl F1 F2
   have hcK:c∈K:=(Vb.1 (hus ▸ UJ _ TI:c∈K.filter fun c=>cj r c)).1
   have hlk:=py (fun c=>vS (lab c)) K c (vS 0#64)
   rw [if_pos hcK] at hlk
   change WR _ _ _ l _ _ ((41,aY c)::_) (.box g2 156 [.pointer (some ⟨gb,0,none⟩)]:: .box g5 34 [vS (qU lab pre s1)]:: .obj gl (aU aY (mapM (fun c=>vS (lab c)) K) K.length):: .obj gr (aU iR (mapM (fun r=>vS (ovE r L).1.1) S') S'.length):: .box gw 156 [.pointer (some ⟨gb,0,none⟩)]:: .box gq 33 (aN r):: .box gb 164 [gv,rv,nv,sl Ac K.length cap,.map (some gl),.map (some gr),.map (some ga)]:: .own Ac 51 2 K.length cap (K.flatMap aC)::(F++F1))
   repeat' (first|refine sT ?_|refine sR ?_|refine sM fun _=> ?_|(refine sC ?_ ?_<;>intro hb<;>try omega)|(refine sCR ?_ ?_<;>intro hb<;>try omega)|fail)
   rename_i g9
   refine pU ⟨.box g9 51 (aC c):: .box g2 156 [.pointer (some ⟨gb,0,none⟩)]:: .box g5 34 [vS (qU lab pre s1)]:: .obj gl (aU aY (mapM (fun c=>vS (lab c)) K) K.length):: .obj gr (aU iR (mapM (fun r=>vS (ovE r L).1.1) S') S'.length):: [],MSub.refl _,?_⟩
   change WR _ _ _ l _ _ _ (.box g9 51 (aC c):: .box g2 156 [.pointer (some ⟨gb,0,none⟩)]:: .box g5 34 [vS (qU lab pre s1)]:: .obj gl (aU aY (mapM (fun c=>vS (lab c)) K) K.length):: .obj gr (aU iR (mapM (fun r=>vS (ovE r L).1.1) S') S'.length):: .box gw 156 [.pointer (some ⟨gb,0,none⟩)]:: .box gq 33 (aN r):: .box gb 164 [gv,rv,nv,sl Ac K.length cap,.map (some gl),.map (some gr),.map (some ga)]:: .own Ac 51 2 K.length cap (K.flatMap aC)::(F++F2))
   refine Dd ?_
   refine rQ (id:=8) [8] [0] [.box g9 51 (aC c),.box g2 156 [.pointer (some ⟨gb,0,none⟩)],.obj gl (aU aY (mapM (fun c=>vS (lab c)) K) K.length),.box gb 164 [gv,rv,nv,sl Ac K.length cap,.map (some gl),.map (some gr),.map (some ga)]] (by kernel_rfl) (by kernel_rfl) (by kernel_rfl) rfl mS ?_
   repeat' (first|(apply Ss (d:=42);(iterate 4 exact rfl);(exact vC))|(apply eG (d:=48);(iterate 3 exact rfl);apply ep (enc:=aY) (k:=c);exact rfl;exact rfl;exact pK;exact hlk)|(apply eG (d:=49);(iterate 3 exact rfl);apply ng;exact rfl;exact rfl)|refine sT ?_|refine sS ?_|refine sR ?_|refine sW ?_|refine sM fun _=> ?_|(refine sC ?_ ?_<;>intro hb<;>try omega)|(refine sCR ?_ ?_<;>intro hb<;>try omega)|(refine sCW ?_ ?_<;>intro hb<;>try omega)|fail)
   refine lz (.box g2 156 [.pointer (some ⟨gb,0,none⟩)]:: .box g5 34 [vS (qU lab pre s1 &&& lab c)]:: .obj gl (aU aY (mapM (fun c=>vS (lab c)) K) K.length):: .obj gr (aU iR (mapM (fun r=>vS (ovE r L).1.1) S') S'.length):: []) ?_ ?_
   ·
    change MSub (.box g2 156 [.pointer (some ⟨gb,0,none⟩)]:: .box g5 34 [vS (qU lab pre s1 &&& lab c)]:: .obj gl (aU aY (mapM (fun c=>vS (lab c)) K) K.length):: .obj gr (aU iR (mapM (fun r=>vS (ovE r L).1.1) S') S'.length):: .box gw 156 [.pointer (some ⟨gb,0,none⟩)]:: .box gq 33 (aN r):: .box gb 164 [gv,rv,nv,sl Ac K.length cap,.map (some gl),.map (some gr),.map (some ga)]:: .own Ac 51 2 K.length cap (K.flatMap aC)::(F++F2)) _
    exact mS
   ·
    rw [Ip]
  ·
   rintro D _ rfl
   change bC _ _ _ _ _ (dH D:: .box g2 156 [.pointer (some ⟨gb,0,none⟩)]:: .box g5 34 [vS (qU lab (K.filter fun c=>cj r c) s1)]:: .obj gl (aU aY (mapM (fun c=>vS (lab c)) K) K.length):: .obj gr (aU iR (mapM (fun r=>vS (ovE r L).1.1) S') S'.length):: .box gw 156 [.pointer (some ⟨gb,0,none⟩)]:: .box gq 33 (aN r):: .box gb 164 [gv,rv,nv,sl Ac K.length cap,.map (some gl),.map (some gr),.map (some ga)]:: .own Ac 51 2 K.length cap (K.flatMap aC)::F)
   repeat' (first|refine sT ?_|refine sS ?_|refine sR ?_|refine sM fun _=> ?_|(refine sC ?_ ?_<;>intro hb<;>try omega)|(refine sCR ?_ ?_<;>intro hb<;>try omega)|fail)
   refine pP pK ?_
   exact cA eIO rfl rfl (H' := .box gb 164 [gv,rv,nv,sl Ac K.length cap,.map (some gl),.map (some gr),.map (some ga)]:: .own Ac 51 2 K.length cap (K.flatMap aC):: .obj gl (aU aY (mapM (fun c=>vS (lab c)) K) K.length):: .obj gr (aU iR (mapM (fun r=>vS (ovE r L).1.1) S') S'.length)::F) mS ⟨by rw [← FQ];rfl,rfl⟩
  ·
   rintro D HU h
   exact h.elim
set_option maxHeartbeats 8000000 in
theorem NX (u:Us) (gb gl gr ga:Nat) (gv rv nv:Value) (Ac:Option Nat) (cap:Nat) (K:List Rf) (L:List Rl) (N:List Gn) (hN:N.length≤1000000) (SA:List Ak) (w0:World) (F:List Blk) (hl: ∀ w',Mem w0 w' F→Reads w' rv L.length (L.flatMap bM)) (hn: ∀ w',Mem w0 w' F→Reads w' nv N.length (N.flatMap bp)):
  FnIn Tryz.prog 97 [.pointer (some ⟨gb,0,none⟩),.agg (cV u).toArray] w0 (.box gb 164 [gv,rv,nv,sl Ac K.length cap,.map (some gl),.map (some gr),.map (some ga)]:: .obj ga (aU kv (mapM (fun a=>vS (dO a.fn a.rect L N).1) SA) (SA).length)::F) fun v H' => ∃ S',(SA.Nodup→S'.Nodup)∧v=vS (if u.node<0 then 0#64 else (dO u.fn u.rect L N).1)∧H' = .box gb 164 [gv,rv,nv,sl Ac K.length cap,.map (some gl),.map (some gr),.map (some ga)]:: .obj ga (aU kv (mapM (fun a=>vS (dO a.fn a.rect L N).1) S') (S').length)::F:=by
 refine cF Tryz.func97 rfl Tryz.ntmps97 rfl ?_
 have h1:=fun (w' :World) (H:List Blk) (hs:MSub F H) (hm:Mem w0 w' H)=>C9 u.fn u.rect L N rv nv w' (hl w' (hs.use hm)) (hn w' (hs.use hm)) hN
 have hlook:=rE (fun a=>vS (dO a.fn a.rect L N).1) SA ⟨u.fn,u.rect⟩ (vS 0#64)
 have hnew:=fun h:(⟨u.fn,u.rect⟩:Ak)∉SA=>BX (f:=fun a=>vS (dO a.fn a.rect L N).1) (v:=vS (dO u.fn u.rect L N).1) h
 have hup:=tW (f:=fun a:Ak=>vS (dO a.fn a.rect L N).1) (k:=⟨u.fn,u.rect⟩) rfl
 try dsimp only at hlook
 try dsimp only at hup
 obtain ⟨s1,hs1⟩: ∃ s,(dO u.fn u.rect L N).1=s:=⟨_,rfl⟩
 rw [hs1] at h1 hlook hnew hup ⊢
 generalize (dO u.fn u.rect L N).2.1=ps at h1
 generalize (dO u.fn u.rect L N).2.2=e at h1
 rw [hup] at hnew
 by_cases hr:(⟨u.fn,u.rect⟩:Ak)∈SA
 ·
  rw [if_pos hr,decide_eq_true hr] at hlook
  repeat' (first|(apply aO (d:=20);exact rfl;apply fV (enc:=kv) (k:=⟨u.fn,u.rect⟩);exact rfl;exact rfl;exact pK;exact hlook)|refine sT ?_|refine sS ?_|refine sQ ?_|refine sD ?_|refine sM fun _=> ?_|(refine sC ?_ ?_<;>intro hb<;>try omega)|(refine sCQ ?_ ?_<;>intro hb<;>try omega)|fail)
  all_goals first
   |(exfalso;omega)
   |(rw [if_pos hb];exact cA eIO rfl rfl (H' := .box gb 164 [gv,rv,nv,sl Ac K.length cap,.map (some gl),.map (some gr),.map (some ga)]:: .obj ga (aU kv (mapM (fun a=>vS (dO a.fn a.rect L N).1) SA) (SA).length)::F) mS ⟨SA,fun h=>h,rfl,rfl⟩)
   |(rw [if_neg (by omega)];exact cA eIO rfl rfl (H' := .box gb 164 [gv,rv,nv,sl Ac K.length cap,.map (some gl),.map (some gr),.map (some ga)]:: .obj ga (aU kv (mapM (fun a=>vS (dO a.fn a.rect L N).1) SA) (SA).length)::F) mS ⟨_,fun h=>h,rfl,rfl⟩)
   |trace_state
 ·
  rw [if_neg hr,decide_eq_false hr] at hlook
  have hnew:=hnew hr
  rw [show SA.length+1=(SA++ [(⟨u.fn,u.rect⟩:Ak)]).length by simp] at hnew
  have hnd:SA.Nodup→(SA++ [(⟨u.fn,u.rect⟩:Ak)]).Nodup:=fun h=>Vu.2 ⟨h,U4 _ _,fun a ha b hb e=>hr (by rw [TX.1 hb] at e;exact e ▸ ha)⟩
  generalize SA++ [(⟨u.fn,u.rect⟩:Ak)]=S2 at hnew hnd
  repeat' (first|(apply eW (id:=5) [12] [];kernel_rfl;kernel_rfl;kernel_rfl)|(rename_i g3;refine fu (id:=6) [10] [] [.box g3 100 (cV u),.box gb 164 [gv,rv,nv,sl Ac K.length cap,.map (some gl),.map (some gr),.map (some ga)]] (by kernel_rfl) (by kernel_rfl) (by kernel_rfl) mS ?_)|(apply aO (d:=20);exact rfl;apply fV (enc:=kv) (k:=⟨u.fn,u.rect⟩);exact rfl;exact rfl;exact pK;exact hlook)|(apply aF (f:=44);exact rfl;exact rfl;(intro w' hm;exact h1 w' _ mS hm);rintro _ _ ⟨A2,cap2,rfl,rfl⟩)|(apply eU (enc:=kv) (k:=⟨u.fn,u.rect⟩);(iterate 3 exact rfl);exact pK;rw [hnew])|refine sT ?_|refine sS ?_|refine sQ ?_|refine sW ?_|refine sD ?_|refine sM fun _=> ?_|(refine sC ?_ ?_<;>intro hb<;>try omega)|(refine sCQ ?_ ?_<;>intro hb<;>try omega)|(refine sCW ?_ ?_<;>intro hb<;>try omega)|fail)
  all_goals first
   |(exfalso;omega)
   |(rw [if_pos hb];exact cA eIO rfl rfl (H' := .box gb 164 [gv,rv,nv,sl Ac K.length cap,.map (some gl),.map (some gr),.map (some ga)]:: .obj ga (aU kv (mapM (fun a=>vS (dO a.fn a.rect L N).1) SA) (SA).length)::F) mS ⟨SA,fun h=>h,rfl,rfl⟩)
   |(rw [if_neg (by omega)];exact cA eIO rfl rfl (H' := .box gb 164 [gv,rv,nv,sl Ac K.length cap,.map (some gl),.map (some gr),.map (some ga)]:: .obj ga (aU kv (mapM (fun a=>vS (dO a.fn a.rect L N).1) S2) (S2).length)::F) mS ⟨_,hnd,rfl,rfl⟩)
   |trace_state
end Go.SL
