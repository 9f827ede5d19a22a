/-
  Lemmas and walks, put together: D8 G2a Pf Pf2 D12 K2 Ex Fd Sl29 Ic Sl33 Ra He Rf Rh Ta Ro Ri Ha Yi.
-/
import Derived.Test.YthgjiibbmkiplaaGreatDoorKw15
set_option linter.unusedSimpArgs false
set_option linter.unusedVariables false
set_option maxRecDepth 20000
set_option maxHeartbeats 16000000
namespace Go.SL
open Go Go.Proofs
attribute [local irreducible] W WL WQ WG WA WX WLI WR WT WC VOp RW thn blk bA scp aY aX bw FnAt FnIn FnP ceP
theorem SQ (gg gm clock:Nat) (E:List En) (G:Gr) (a:Rf) (b:ByteArray) (R F:List Blk) (w0:World) (hG:GOk R E clock G) (hW:Words w0):
 FnIn Tryz.prog 48 [.pointer (some ⟨gg,0,none⟩),aC a,.string b] w0 (gB gg gm (E.map En.m) clock++(R++F)) fun v H=>v= .int .i64 (qD G a b).2∧ ∃ E' clock' R',H=gB gg gm (E'.map En.m) clock' ++(R' ++F)∧MSub R R' ∧GOk R' E' clock' (qD G a b).1:=by
 refine bI Tryz.func48 rfl Tryz.ntmps48 rfl ?_;have hV:=fun (w' :World) (H' :List Blk) (hm:Mem w0 w' H')=>(iQ a.col a.row w' :aL Tryz.prog 50 [aC a] w' (.bool (valid a.col a.row)));have hO:=fun (w' :World) (H' :List Blk) (hm:Mem w0 w' H')=>TI b w' (hW.next hm);unfold gB;unfold qD;by_cases hv:a.valid=false
 ·rw [if_pos hv];have hv' :valid a.col a.row=false:=hv;rw [hv'] at hV;repeat' (first|apply aa (f:=50);exact rfl;exact rfl;intro w' hm;exact hV w' _ hm|refine zZM ?_|refine sM fun _=>?_|refine sC ?_ ?_<;>intro hb<;>try omega|refine sCW ?_ ?_<;>intro hb<;>try omega|fail)
  all_goals exact bo eIO rfl rfl mS ⟨rfl,E,clock,R,rfl,MSub.refl _,hG⟩
 rw [if_neg hv];have hv' :valid a.col a.row=true:=by
  have:a.valid=valid a.col a.row:=rfl;rw [this] at hv;simpa using hv
 rw [hv'] at hV;have hlen:=Ks b;have htree:=FM (b:=b);generalize ofP b=r at hO hlen htree;obtain ⟨⟨fm,v,t⟩,at_,e⟩:=r;simp only [ofV,MD] at hO;dsimp only at hlen htree ⊢;by_cases he:e≠0
 ·rw [if_pos he];repeat' (first|apply aa (f:=50);exact rfl;exact rfl;intro w' hm;exact hV w' _ hm|apply aw (f:=90);exact rfl;exact rfl;intro w' hm;exact hO w' _ hm;rintro _ _ ⟨A,cap,rfl,rfl⟩|refine zZM ?_|refine sM fun _=>?_|refine sC ?_ ?_<;>intro hb<;>try omega|refine sCW ?_ ?_<;>intro hb<;>try omega|fail)
  all_goals exact bo eIO rfl rfl mS ⟨rfl,E,clock,R,rfl,MSub.refl _,hG⟩
 rw [if_neg he];have he0:e=0:=by omega
 subst he0
 cases fm with
 |false=>
  obtain ⟨E',hE',hG'⟩:=hG.del a;rw [if_pos rfl];repeat' (first|apply aa (f:=50);exact rfl;exact rfl;intro w' hm;exact hV w' _ hm|apply aw (f:=90);exact rfl;exact rfl;intro w' hm;exact hO w' _ hm;rintro _ _ ⟨A,cap,rfl,rfl⟩|refine zZM ?_|refine sM fun _=>?_|refine sC ?_ ?_<;>intro hb<;>try omega|refine sCW ?_ ?_<;>intro hb<;>try omega|fail)
  rename_i g4 g7;refine bT (id:=9) [5] [] [.box gg 104 [.map (some gm)],.box g4 34 (aq a)] (by kernel_rfl) (by kernel_rfl) (by kernel_rfl) mS ?_;repeat' (first|apply fH;(iterate 3 exact rfl);apply ij;exact rfl|apply KZ (enc:=aC) (t:=102);(iterate 3 exact rfl);exact pK;rw [← hE']|refine zZM ?_|refine sM fun _=>?_|refine sC ?_ ?_<;>intro hb<;>try omega|refine sCW ?_ ?_<;>intro hb<;>try omega|fail)
  all_goals exact bo eIO rfl rfl mS ⟨rfl,E',clock,R,rfl,MSub.refl _,hG'⟩
 |true=>
  have hck:=htree rfl rfl;rw [if_neg (by simp)];have hU:=fun (w' :World) (A:Option Nat) (cap:Nat) (H' :List Blk) (hi:In (.own A 283 11 t.length cap (t.flatMap gW)) H') (hm:Mem w0 w' H')=>SN t (sl A t.length cap) w' (Reads.of_own hm hi) (by omega);have hue:xM t=(fA t,0):=by unfold xM;rw [hck];rfl
  have hul:(fA t).length≤256:=XU (iS t 0) hlen;rw [hue] at hU;repeat' (first|apply aa (f:=50);exact rfl;exact rfl;intro w' hm;exact hV w' _ hm|apply aw (f:=90);exact rfl;exact rfl;intro w' hm;exact hO w' _ hm;rintro _ _ ⟨A,cap,rfl,rfl⟩|apply aw (f:=91);exact rfl;exact rfl;intro w' hm;exact hU w' _ _ _ pK hm;rintro _ _ ⟨A2,cap2,rfl,rfl⟩|refine zZM ?_|refine sM fun _=>?_|refine sC ?_ ?_<;>intro hb<;>try omega|refine sCW ?_ ?_<;>intro hb<;>try omega|fail)
  rename_i g4 g7;have hGR:=hG.sub (R' := .own A 283 11 t.length cap (t.flatMap gW):: .own A2 159 6 (fA t).length cap2 ((fA t).flatMap bP)::R) mS;obtain ⟨E',hE',hG'⟩:=hGR.put ⟨a,A.map fun g=>⟨g,0,none⟩,cap,A2.map fun g=>⟨g,0,none⟩,cap2,t,fA t,0⟩ ⟨rdIn.own (A:=A) pK,rdIn.own (A:=A2) pK,by dsimp only;omega,by dsimp only;omega⟩;generalize hck2:(gK a (.agg #[sl A t.length cap,sl A2 (fA t).length cap2]) clock (E.map En.m))=kp;have hE2:E'.map En.m=kp.1:=hck2 ▸ hE';have hG2:GOk _ E' kp.2 (I8 G a (t,fA t)):=hck2 ▸ hG';refine bT (id:=14) [9] [] [.box gg 104 [.map (some gm)],.box g4 34 (aq a),.box g7 176 [.bool true,.int .u8 v.kind,.int .i64 v.num,.string v.text,sl A t.length cap]] (by kernel_rfl) (by kernel_rfl) (by kernel_rfl) mS ?_;repeat' (first|apply fH;(iterate 3 exact rfl);apply ij;exact rfl|apply cB (enc:=aC);(iterate 3 exact rfl);exact pK;rw [hck2,← hE2]|refine zZM ?_|refine sM fun _=>?_|refine sC ?_ ?_<;>intro hb<;>try omega|refine sCW ?_ ?_<;>intro hb<;>try omega|fail)
  all_goals exact bo eIO rfl rfl (H' :=gB gg gm (E'.map En.m) kp.2++((.own A 283 11 t.length cap (t.flatMap gW):: .own A2 159 6 (fA t).length cap2 ((fA t).flatMap bP)::R)++F)) (by unfold gB;simp only [XH,Xc,Xd];exact mS) ⟨rfl,E',kp.2,_,rfl,mS,hG2⟩
theorem UZ (gg gm clock:Nat) (E:List En) (G:Gr) (a:Rf) (b:ByteArray) (R:List Blk) (w0:World) (hG:GOk R E clock G) (hW:Words w0):
 FnIn Tryz.prog 48 [.pointer (some ⟨gg,0,none⟩),aC a,.string b] w0 (gB gg gm (E.map En.m) clock++R) fun v H=>v= .int .i64 (qD G a b).2∧ ∃ E' clock' R',H=gB gg gm (E'.map En.m) clock' ++R' ∧MSub R R' ∧GOk R' E' clock' (qD G a b).1:=by
 have h:=SQ gg gm clock E G a b R [] w0 hG hW;simp only [Xm] at h;exact h
end Go.SL
namespace Go.SL
open Go Go.Proofs
attribute [local irreducible] W WL WQ WG WA WX WLI WR WT WC VOp RW thn blk bA scp aY aX bw FnAt FnP ceP
theorem IE {f:FuncId} {args:List Value} {w0:World} {B H:List Blk} {φ:Value→Option Nat→Nat→Prop} {t sz n:Nat} {cs:List Value}
 (h: ∀ F,FnIn Tryz.prog f args w0 (B++F) fun v H' => ∃ A cap,φ v A cap∧H' = .own A t sz n cap cs::(B++F)) (hs:MSub B H):
 FnIn Tryz.prog f args w0 H fun v H' => ∃ A cap,φ v A cap∧H' = .own A t sz n cap cs::H:=by
 obtain ⟨F,hp⟩:=hs;refine ((h F).msub (MSub.of_perm hp)).re ?_;rintro v H' ⟨A,cap,hv,rfl⟩;exact ⟨_,MSub.of_perm (hp.symm.cons _),A,cap,hv,rfl⟩
section
variable {R:List Blk} {E:List En} {clock:Nat} {G:Gr} (h:GOk R E clock G) (gg gm:Nat) {H:List Blk} (hs:MSub (gB gg gm (E.map En.m) clock++R) H) (w0:World)
include h hs
theorem GOk.uses_any (c:Rf):FnIn Tryz.prog 78 [.pointer (some ⟨gg,0,none⟩),aC c] w0 H fun v H' => ∃ A cap,v=sl A (aG G c).length cap∧H' = .own A 159 6 (aG G c).length cap ((aG G c).flatMap bP)::H:=by
 refine IE (φ:=fun v A cap=>v=sl A (aG G c).length cap) (fun F=> ?_) hs;have h1:=SM gg gm clock E c (R++F) w0 (fun e he=>(h.en e he).sub (MSub.appL R F));rw [h.uses] at h1;rw [XE];exact h1
variable (hl:G.length≤900)
include hl
theorem GOk.formulas_any:FnIn Tryz.prog 92 [.pointer (some ⟨gg,0,none⟩)] w0 H fun v H' => ∃ A cap,v=sl A (ap G).length cap∧H' = .own A 34 2 (ap G).length cap ((ap G).flatMap aq)::H:=by
 refine IE (φ:=fun v A cap=>v=sl A (ap G).length cap) (fun F=> ?_) hs;have h1:=v8 gg gm clock (E.map En.m) h.ok (by rw [Xq,h.len];omega) (R++F) w0;rw [h.forms,show (E.map En.m).length=(ap G).length by rw [Xq,h.len,ap,Xq]] at h1;rw [XE];exact h1
variable (hG:GrOk G)
include hG
theorem GOk.users_any (r:Rct):FnIn Tryz.prog 95 [.pointer (some ⟨gg,0,none⟩),.agg (ay r).toArray] w0 H fun v H' => ∃ A cap,v=sl A (cV G r).length cap∧H' = .own A 34 2 (cV G r).length cap ((cV G r).flatMap aq)::H:=by
 refine IE (φ:=fun v A cap=>v=sl A (cV G r).length cap) (fun F=> ?_) hs;have h1:=Qs gg gm clock E r h.ok (by rw [h.len];omega) (XU (h.allLen hG) (by omega)) (R++F) w0 (fun e he=>(h.en e he).sub (MSub.appL R F));rw [h.users] at h1;rw [XE];exact h1
end
structure Lw where
 rd:Rf→BitVec 64
 ov:Rct→BitVec 64
 to:Us→BitVec 64
def seesP (G:Gr) (w:Lw) (u:Nat) (c:Rf):Prop:=
 ∃ p:Rf→Prop,p c∧ ∀ d,p d→(w.rd d).getLsbD u=true∧ ∀ x∈aG G d,(w.to x).getLsbD u=true∨((w.ov x.rect).getLsbD u=true∧ ∀ f∈ap G,aI x.rect f=true→p f)
theorem seesP.out {G:Gr} {w:Lw} {u:Nat} {c:Rf} (h:seesP G w u c):(w.rd c).getLsbD u=true∧ ∀ x∈aG G c,(w.to x).getLsbD u=true∨((w.ov x.rect).getLsbD u=true∧ ∀ f∈ap G,aI x.rect f=true→seesP G w u f):=by
 obtain ⟨p,hc,hp⟩:=h;refine ⟨(hp c hc).1,fun x hx=> ?_⟩;rcases (hp c hc).2 x hx with h1|⟨h1,h2⟩
 ·exact .inl h1
 ·exact .inr ⟨h1,fun f hf hh=>⟨p,h2 f hf hh,hp⟩⟩
theorem LI {G:Gr} {w:Lw} {u:Nat} {c:Rf}:seesP G w u c↔(w.rd c).getLsbD u=true∧ ∀ x∈aG G c,(w.to x).getLsbD u=true∨((w.ov x.rect).getLsbD u=true∧ ∀ f∈ap G,aI x.rect f=true→seesP G w u f):=by
 refine ⟨seesP.out,fun h=>⟨fun d=>seesP G w u d∨d=c,.inr rfl,fun d hd=> ?_⟩⟩;have h2:(w.rd d).getLsbD u=true∧ ∀ x∈aG G d,(w.to x).getLsbD u=true∨((w.ov x.rect).getLsbD u=true∧ ∀ f∈ap G,aI x.rect f=true→seesP G w u f):=by
  rcases hd with hd|rfl
  ·exact hd.out
  ·exact h
 refine ⟨h2.1,fun x hx=> ?_⟩;rcases h2.2 x hx with h3|⟨h3,h4⟩
 ·exact .inl h3
 ·exact .inr ⟨h3,fun f hf hh=> .inl (h4 f hf hh)⟩
def Ht (K:List Rf) (lab:Rf→BitVec 64) (r:Rct) (s:BitVec 64):BitVec 64:=K.foldl (fun s c=>if aI r c=true then s &&& lab c else s) s
theorem G9 {lab:Rf→BitVec 64} {r:Rct} {i:Nat}: ∀ {K:List Rf} {s:BitVec 64},(Ht K lab r s).getLsbD i=true↔s.getLsbD i=true∧ ∀ c∈K,aI r c=true→(lab c).getLsbD i=true
 | [],s=>by simp [Ht]
 |c::K,s=>by
  have h:Ht (c::K) lab r s=Ht K lab r (if aI r c=true then s &&& lab c else s):=rfl;rw [h,G9];by_cases hc:aI r c=true
  ·rw [if_pos hc,aad,Xo];simp only [Xt,forall_eq_or_imp,hc,forall_const,and_assoc]
  ·rw [if_neg hc];simp only [Xt,forall_eq_or_imp];exact ⟨fun h=>⟨h.1,fun h2=>absurd h2 hc,h.2⟩,fun h=>⟨h.1,h.2.2⟩⟩
def ovL (G:Gr) (w:Lw) (lab:Rf→BitVec 64) (r:Rct):BitVec 64:=Ht (ap G) lab r (w.ov r)
def fM (G:Gr) (w:Lw) (lab:Rf→BitVec 64) (U:List Us) (s:BitVec 64):BitVec 64:=U.foldl (fun s x=>s &&& (ovL G w lab x.rect|||w.to x)) s
theorem Iq {G:Gr} {w:Lw} {lab:Rf→BitVec 64} {U:List Us} {x:Us} {s:BitVec 64}:fM G w lab (U++ [x]) s=fM G w lab U s &&& (ovL G w lab x.rect|||w.to x):=by
 unfold fM;rw [YG];rfl
theorem ep {G:Gr} {w:Lw} {lab:Rf→BitVec 64} {i:Nat}: ∀ {U:List Us} {s:BitVec 64},(fM G w lab U s).getLsbD i=true↔s.getLsbD i=true∧ ∀ x∈U,(w.to x).getLsbD i=true∨((w.ov x.rect).getLsbD i=true∧ ∀ f∈ap G,aI x.rect f=true→(lab f).getLsbD i=true)
 | [],s=>by simp [fM]
 |x::U,s=>by
  have h:fM G w lab (x::U) s=fM G w lab U (s &&& (ovL G w lab x.rect|||w.to x)):=rfl;rw [h,ep,aad,BitVec.getLsbD_or,Xo,Zn,ovL,G9];simp only [Xt,forall_eq_or_imp];constructor
  ·rintro ⟨⟨h1,h2⟩,h3⟩;exact ⟨h1,h2.symm,h3⟩
  ·rintro ⟨h1,h2,h3⟩;exact ⟨⟨h1,h2.symm⟩,h3⟩
theorem pM {x y:BitVec 64} (h: ∀ i,x.getLsbD i=true↔y.getLsbD i=true):x=y:=
 aak fun i _=>XY.2 (h i)
theorem Ir {G:Gr} {w:Lw} {lab:Rf→BitVec 64} {U:List Us} {s:BitVec 64}:fM G w lab U (fM G w lab U s)=fM G w lab U s:=pM fun i=>by
 rw [ep,ep];exact ⟨fun h=>h.1,fun h=>⟨h,h.2⟩⟩
def zJ (lab:Rf→BitVec 64) (c:Rf) (s:BitVec 64):Rf→BitVec 64:=fun d=>if d=c then s else lab d
theorem l4 {lab:Rf→BitVec 64} {c:Rf} {s:BitVec 64}:zJ lab c s c=s:=if_pos rfl
theorem iq {lab:Rf→BitVec 64} {c d:Rf} {s:BitVec 64} (h:d≠c):zJ lab c s d=lab d:=if_neg h
structure FlI (G:Gr) (w:Lw) (lab:Rf→BitVec 64) (todo:List Rf):Prop where
 up: ∀ i,∀ c∈ap G,seesP G w i c→(lab c).getLsbD i=true
 st: ∀ c∈ap G,c∉todo→fM G w lab (aG G c) (lab c)=lab c
 rd: ∀ c∈ap G,∀ i,(lab c).getLsbD i=true→(w.rd c).getLsbD i=true
 nd:todo.Nodup
 sub: ∀ c∈todo,c∈ap G
theorem FlI.start {G:Gr} (hG:GrOk G) (w:Lw):FlI G w w.rd (ap G):=
 ⟨fun _ _ _ h=>h.out.1,fun c hc hn=>absurd hc hn,fun _ _ _ h=>h,hG.sort.nodup,fun _ h=>h⟩
theorem kO {G:Gr} {c:Rf} (h:c∉ap G):aG G c= []:=by
 have h1:qN G c=none:=yA.2 fun e he h2=>h (iH.2 ⟨e,he,h2⟩);rw [aG,h1];rfl
theorem FlI.done {G:Gr} {w:Lw} {lab:Rf→BitVec 64} (h:FlI G w lab []) {c:Rf} (hc:c∈ap G) (i:Nat):(lab c).getLsbD i=true↔seesP G w i c:=by
 refine ⟨fun hi=>⟨fun d=>d∈ap G∧(lab d).getLsbD i=true,⟨hc,hi⟩,fun d hd=>⟨h.rd d hd.1 i hd.2,fun x hx=> ?_⟩⟩,h.up i c hc⟩;have h1:=h.st d hd.1 (by simp);have h2:=hd.2;rw [← h1,ep] at h2;rcases h2.2 x hx with h3|⟨h3,h4⟩
 ·exact .inl h3
 ·exact .inr ⟨h3,fun f hf hh=>⟨hf,h4 f hf hh⟩⟩
theorem rB {G:Gr} {w:Lw} {i:Nat} {c:Rf} (h:c∉ap G):seesP G w i c↔(w.rd c).getLsbD i=true:=by
 rw [LI,kO h];simp
theorem FlI.skip {G:Gr} {w:Lw} {lab:Rf→BitVec 64} {x:Rf} {todo:List Rf} (h:FlI G w lab (x::todo)) (he:fM G w lab (aG G x) (lab x)=lab x):FlI G w lab todo:=by
 refine ⟨h.up,fun c hc hn=> ?_,h.rd,(Y9.1 h.nd).2,fun c hc=>h.sub c (Xp _ hc)⟩;by_cases e:c=x
 ·subst e;exact he
 ·exact h.st c hc fun hm=>by rcases Xt.1 hm with hm|hm;exact e hm;exact hn hm
theorem Lv {G:Gr} {w:Lw} {lab:Rf→BitVec 64} {c x:Rf} {t s:BitVec 64} (hx: ∀ u∈aG G c,aI u.rect x=false):fM G w (zJ lab x t) (aG G c) s=fM G w lab (aG G c) s:=pM fun i=>by
 rw [ep,ep];refine and_congr_right fun _=>⟨fun h u hu=> ?_,fun h u hu=> ?_⟩
 all_goals
  rcases h u hu with h1|⟨h1,h2⟩
  ·exact .inl h1
  ·refine .inr ⟨h1,fun f hf hh=> ?_⟩;have hne:f≠x:=fun e=>by subst e;rw [hx u hu] at hh;cases hh
   have h3:=h2 f hf hh
   first
    |rwa [iq hne] at h3
    |rwa [iq hne]
theorem OT {G:Gr} (hG:GrOk G) {c x:Rf} (hc:c∈ap G) (hx:x∈ap G) (h:c∉cV G (cE x.col x.row)): ∀ u∈aG G c,aI u.rect x=false:=fun u hu=>by
 rw [← ZE];intro hh;refine h ((AG hG (ez hG hx)).2 ⟨hc,?_⟩);unfold bi;rw [XQ];exact ⟨u,hu,by rw [oH hG hu hx];exact hh⟩
theorem FlI.turn {G:Gr} (hG:GrOk G) {w:Lw} {lab:Rf→BitVec 64} {x:Rf} {todo todo' :List Rf} (h:FlI G w lab (x::todo)) (hnd:todo'.Nodup) (hsub: ∀ c∈todo',c∈ap G) (hold: ∀ c∈todo,c∈todo') (hall: ∀ c∈cV G (cE x.col x.row),c∈todo'):
 FlI G w (zJ lab x (fM G w lab (aG G x) (lab x))) todo' :=by
 have hx:x∈ap G:=h.sub x Xb;refine ⟨fun i c hc hs=> ?_,fun c hc hn=> ?_,fun c hc i hi=> ?_,hnd,hsub⟩
 ·by_cases e:c=x
  ·subst e;rw [l4,ep];refine ⟨h.up i c hc hs,fun u hu=> ?_⟩;rcases hs.out.2 u hu with h1|⟨h1,h2⟩
   ·exact .inl h1
   ·exact .inr ⟨h1,fun f hf hh=>h.up i f hf (h2 f hf hh)⟩
  ·rw [iq e];exact h.up i c hc hs
 ·rw [Lv (OT hG hc hx fun hm=>hn (hall c hm))];by_cases e:c=x
  ·subst e;rw [l4,Ir]
  ·rw [iq e];exact h.st c hc fun hm=>by rcases Xt.1 hm with hm|hm;exact e hm;exact hn (hold c hm)
 ·by_cases e:c=x
  ·subst e;rw [l4,ep] at hi;exact h.rd c hc i hi.1
  ·rw [iq e] at hi;exact h.rd c hc i hi
def pcL (x:BitVec 64):Nat:=((List.range 64).filter fun i=>x.getLsbD i).length
theorem KD {p q:Nat→Bool} (h: ∀ i,p i=true→q i=true): ∀ l:List Nat,(l.filter p).length≤(l.filter q).length
 | []=>Xy _
 |a::l=>by
  have ih:=KD h l;rw [YA,YA];cases hp:p a
  ·cases hq:q a<;>simp<;>omega
  ·rw [h a hp];simp;omega
theorem KC {p q:Nat→Bool} (h: ∀ i,p i=true→q i=true) {j:Nat} (hp:p j=false) (hq:q j=true): ∀ {l:List Nat},j∈l→(l.filter p).length<(l.filter q).length
 | [],hj=>by cases hj
 |a::l,hj=>by
  have h1:=KD h l;rw [YA,YA];rcases Xt.1 hj with rfl|hj
  ·rw [hp,hq];simp;omega
  ·have ih:=KC h hp hq hj;cases hpa:p a
   ·cases hqa:q a<;>simp<;>omega
   ·rw [h a hpa];simp;omega
theorem VL {x:BitVec 64}:pcL x≤64:=by
 have:=XS (fun i=>x.getLsbD i) (List.range 64);rw [ZJ] at this;exact this
theorem VK {s x:BitVec 64} (h: ∀ i,s.getLsbD i=true→x.getLsbD i=true) (hne:s≠x):pcL s<pcL x:=by
 have: ∃ i,i<64∧s.getLsbD i≠x.getLsbD i:=Classical.byContradiction fun hn=>hne (aak fun i hi=>Classical.byContradiction fun h2=>hn ⟨i,hi,h2⟩);obtain ⟨i,hi,h1⟩:=this;refine KC h (j:=i) ?_ ?_ (ZN.2 hi)
 ·cases h2:s.getLsbD i
  ·rfl
  ·exact absurd ((h2.trans (h i h2).symm)) h1
 ·cases h2:x.getLsbD i
  ·cases h3:s.getLsbD i
   ·exact absurd (h3.trans h2.symm) h1
   ·exact absurd ((h i h3).symm.trans h2) (by decide)
  ·rfl
def xT (lab:Rf→BitVec 64) (K:List Rf):Nat:=(K.map fun c=>pcL (lab c)).sum
theorem E4 {lab:Rf→BitVec 64}: ∀ K:List Rf,xT lab K≤64*K.length
 | []=>Xy _
 |c::K=>by
  have h:=E4 (lab:=lab) K;have h1:=VL (x:=lab c);simp only [xT,XD,List.sum_cons,Xs] at h ⊢;omega
theorem Ke {lab:Rf→BitVec 64} {x:Rf} {s:BitVec 64} (hs:pcL s≤pcL (lab x)): ∀ K:List Rf,xT (zJ lab x s) K≤xT lab K
 | []=>Xy _
 |c::K=>by
  have h:=Ke hs K;simp only [xT,XD,List.sum_cons] at h ⊢;by_cases e:c=x
  ·subst e;rw [l4];omega
  ·rw [iq e];omega
theorem Kd {lab:Rf→BitVec 64} {x:Rf} {s:BitVec 64} (hs:pcL s<pcL (lab x)): ∀ {K:List Rf},x∈K→xT (zJ lab x s) K<xT lab K
 | [],h=>by cases h
 |c::K,h=>by
  have h1:=Ke (Nat.le_of_lt hs) K;by_cases e:c=x
  ·subst e;simp only [xT,XD,List.sum_cons] at h1 ⊢;rw [l4];omega
  ·have h2:=Kd hs (by rcases Xt.1 h with h|h;exact absurd h.symm e;exact h);simp only [xT,XD,List.sum_cons] at h2 ⊢;rw [iq e];omega
theorem Iu {G:Gr} {w:Lw} {lab:Rf→BitVec 64} {U:List Us} {s:BitVec 64} (i:Nat) (h:(fM G w lab U s).getLsbD i=true):s.getLsbD i=true:=(ep.1 h).1
attribute [local irreducible] FnIn
structure Et where
 at_:Rf
 input:ByteArray
def bN (e:Et):List Value:= [.int .i64 e.at_.col,.int .i64 e.at_.row,.string e.input]
theorem dx (e:Et):(bN e).length=3:=rfl
def w7 (b:Option Rf) (e:Et):Int:=if e.at_.valid=false then 3 else if (match b with|some p=>bE p e.at_|none=>true)=false then 12 else if e.input=aS then 2 else (ofP e.input).2.2
def mT:Nat→Option Rf→List Et→Int × Int
 |_,_,[]=>(0,0)
 |i,b,e::r=>if w7 b e≠0 then ((i:Int),w7 b e) else mT (i+1) (some e.at_) r
def jF (L:List Et):Int × Int:=mT 0 none L
def zj (L:List Et) (i:Nat):Option Rf:=if i=0 then none else (L[i - 1]?).map Et.at_
theorem qV (L:List Et) (tv:Value) (w:World) (ht:Reads w tv L.length (L.flatMap bN)) (hlen:L.length≤1000000) (hW:Words w):
 aL Tryz.prog 47 [tv] w (.tuple #[.int .i64 (jF L).1,.int .i64 (jF L).2]):=by
 obtain ⟨Al,cl,rfl,hl1,hl2,hl3⟩:=ht;refine aB Tryz.func47 rfl Tryz.ntmps47 rfl ?_;repeat' (first|refine zZB ?_|refine sM fun _=>?_|refine sC ?_ ?_<;>intro hb<;>try omega|fail)
 refine ax [0,2,3,9,10] rfl (fun i:Nat=> [(11,.int .i64 (i:Int))]) (fun _=> []) (fun i=>i≤L.length∧jF L=mT i (zj L i) (L.drop i)) (fun i=>L.length - i) 0 ⟨by omega,rfl⟩ sB (.refl _) ?_;rintro i ⟨hi,hck⟩;by_cases hlt:i<L.length
 ·obtain ⟨gl,ol,rfl,hrl⟩:=hl3 (by omega);have he:=hrl.elem dx i hlt;have hprev: ∀ h:0<i,Ro w gl (ol+(i - 1)*3) (bN L[i - 1]):=fun h=>hrl.elem dx (i - 1) (by omega);have hbef: ∀ h:0<i,zj L i=some L[i - 1].at_:=fun h=>by unfold zj;rw [if_neg (by omega),Xf (by omega)];rfl
  have hbef0:i=0→zj L i=none:=fun h=>by unfold zj;rw [if_pos h]
  have hnext:zj L (i+1)=some L[i].at_:=by unfold zj;rw [if_neg (by omega),ZF,Xf hlt];rfl
  rw [XC hlt,mT,← hnext] at hck;generalize L[i]=e at he hck;have hV: ∀ w',aL Tryz.prog 50 [.agg (aq e.at_).toArray] w' (.bool e.at_.valid):=fun w' =>iQ e.at_.col e.at_.row w';have hO:=fun (w' :World) (H' :List Blk) (hm:Mem w w' H')=>TI e.input w' (hW.next hm);by_cases h0:0<i
  ·have hp:=hprev h0;rw [hbef h0] at hck;generalize L[i - 1]=b at hp hck;have hL:=fun w' =>SV b.at_ e.at_ w';unfold w7 at hck;simp only at hck;have hofV: ∀ (A:Option Nat) (cap:Nat),ofV A cap (ofP e.input)= .tuple #[.agg (MD (ofP e.input).1 (sl A (ofP e.input).1.tree.length cap)).toArray,.int .i64 (ofP e.input).2.1,.int .i64 (ofP e.input).2.2]:=fun _ _=>rfl;simp only [hofV] at hO;generalize ofP e.input=o at hO hck;obtain ⟨⟨f1,f2,f3⟩,oa,oe⟩:=o;simp only [MD] at hO;simp only at hck;generalize e.at_.valid=vd at hV hck;generalize bE b.at_ e.at_=ls at hL hck;repeat' (first|apply ak (d:=14);exact rfl;apply ai;exact rfl;exact rfl;exact hlt|apply ak (d:=15);exact rfl;apply aP;exact rfl;exact he;exact rfl|apply fH (d:=29);(iterate 3 exact rfl);apply m6 (o:=ol+(i - 1)*3) (off:=0) hp (ys:=aq b.at_);(iterate 3 exact rfl)|apply aa;exact rfl;exact rfl;intro w hm;exact hV w|apply (kL (id:=6) [11] []);kernel_rfl;kernel_rfl;kernel_rfl|apply fH;(iterate 3 exact rfl);apply ai (j:=i - 1);exact rfl;exact rfl;omega|apply aa (f:=89);exact rfl;exact rfl;intro w' hm;exact hL w'|apply aw (f:=90);exact rfl;exact rfl;intro w' hm;exact hO w' _ hm;rintro _ _ ⟨A,cap,rfl,rfl⟩|refine zZH ?_|refine sM fun _=>?_|refine sC ?_ ?_<;>intro hb<;>try omega|refine sCW ?_ ?_<;>intro hb<;>try omega|fail)
   all_goals clear hofV
   all_goals first
    |refine di eIO rfl rfl rfl (.nil _) ?_;rw [hck];simp_all [aS];done
    | (refine ⟨i + 1, ⟨hlt, ?_⟩, by omega, ?_, ?_, .nil _⟩
       ·rw [hck];simp_all [aS]
       ·exact sB
       ·exact sB)
  ·have h00:i=0:=by omega
   rw [hbef0 h00] at hck;unfold w7 at hck;simp only at hck;have hofV: ∀ (A:Option Nat) (cap:Nat),ofV A cap (ofP e.input)= .tuple #[.agg (MD (ofP e.input).1 (sl A (ofP e.input).1.tree.length cap)).toArray,.int .i64 (ofP e.input).2.1,.int .i64 (ofP e.input).2.2]:=fun _ _=>rfl;simp only [hofV] at hO;generalize ofP e.input=o at hO hck;obtain ⟨⟨f1,f2,f3⟩,oa,oe⟩:=o;simp only [MD] at hO;simp only at hck;generalize e.at_.valid=vd at hV hck;repeat' (first|apply ak (d:=14);exact rfl;apply ai;exact rfl;exact rfl;exact hlt|apply ak (d:=15);exact rfl;apply aP;exact rfl;exact he;exact rfl|apply aa;exact rfl;exact rfl;intro w hm;exact hV w|apply (kL (id:=6) [11] []);kernel_rfl;kernel_rfl;kernel_rfl|apply aw (f:=90);exact rfl;exact rfl;intro w' hm;exact hO w' _ hm;rintro _ _ ⟨A,cap,rfl,rfl⟩|refine zZH ?_|refine sM fun _=>?_|refine sC ?_ ?_<;>intro hb<;>try omega|refine sCW ?_ ?_<;>intro hb<;>try omega|fail)
   all_goals clear hofV
   all_goals first
    |refine di eIO rfl rfl rfl (.nil _) ?_;rw [hck];simp_all [aS];done
    | (refine ⟨i + 1, ⟨hlt, ?_⟩, by omega, ?_, ?_, .nil _⟩
       ·rw [hck];simp_all [aS]
       ·exact sB
       ·exact sB)
 ·have e2:i=L.length:=by omega
  subst e2;rw [X0,mT] at hck;repeat' (first|refine zZB ?_|refine sM fun _=>?_|refine sC ?_ ?_<;>intro hb<;>try omega|fail)
  all_goals (refine di eIO rfl rfl rfl (.nil _) ?_;rw [hck])
def yu:Gr→List Et→Option Gr × Int
 |G,[]=>(some G,0)
 |G,e::r=>if (qD G e.at_ e.input).2≠0 then (none,(qD G e.at_ e.input).2) else yu (qD G e.at_ e.input).1 r
def jr (L:List Et):Option Gr × Int:=if (jF L).2≠0 then (none,(jF L).2) else yu [] L
def U0 (r:Option Gr × Int) (v:Value) (H:List Blk):Prop:=match r with
 |(none,e)=>v= .tuple #[.pointer none,.int .i64 e]∧H= []
 |(some G,_)=> ∃ gg gm E clock R,v= .tuple #[.pointer (some ⟨gg,0,none⟩),.int .i64 0]∧H=gB gg gm (E.map En.m) clock++R∧GOk R E clock G
theorem zr (L:List Et) (tv:Value) (w:World) (ht:Reads w tv L.length (L.flatMap bN)) (hlen:L.length≤1000000) (hW:Words w):
 FnAt Tryz.prog 21 [tv] w (U0 (jr L)):=by
 have hC:=fun (w' :World) (H:List Blk) (hm:Mem w w' H)=>qV L tv w' (ht.of_w0 hm) hlen (hW.next hm);obtain ⟨Al,cl,rfl,hl1,hl2,hl3⟩:=ht;refine aB Tryz.func21 rfl Tryz.ntmps21 rfl ?_;unfold jr;generalize jF L=c at hC;obtain ⟨ci,ce⟩:=c;dsimp only at hC ⊢;by_cases hce:ce≠0
 ·rw [if_pos hce];repeat' (first|apply aa (f:=47);exact rfl;exact rfl;intro w' hm;exact hC w' _ hm|refine zZB ?_|refine sM fun _=>?_|refine sC ?_ ?_<;>intro hb<;>try omega|fail)
  all_goals exact di eIO rfl rfl rfl (.nil _) ⟨rfl,rfl⟩
 rw [if_neg hce];have hce0:ce=0:=by omega
 subst hce0;repeat' (first|apply aa (f:=47);exact rfl;exact rfl;intro w' hm;exact hC w' _ hm|apply cL (enc:=aC);exact rfl;intro gm|refine zZB ?_|refine sM fun _=>?_|refine sC ?_ ?_<;>intro hb<;>try omega|fail)
 rename_i gg;refine ax [6,21,22] rfl (fun x:Nat × List En × Nat × Gr × List Blk=> [(23,.int .i64 (x.1:Int))]) (fun x=>gB gg gm (x.2.1.map En.m) x.2.2.1++x.2.2.2.2) (fun x=>x.1≤L.length∧GOk x.2.2.2.2 x.2.1 x.2.2.1 x.2.2.2.1∧yu [] L=yu x.2.2.2.1 (L.drop x.1)) (fun x=>L.length - x.1) (0,[],0,[],[]) ⟨by simp,R7 [],rfl⟩ sB (by unfold gB;exact mS) ?_;rintro ⟨i,E,clock,G,R⟩ ⟨hi,hG,hnew⟩;dsimp only at hi hG hnew ⊢;by_cases hlt:i<L.length
 ·obtain ⟨gl,ol,rfl,hrl⟩:=hl3 (by omega);have he:=hrl.elem dx i hlt;rw [XC hlt,yu] at hnew;generalize L[i]=e at he hnew;have hS:=UZ gg gm clock E G e.at_ e.input R w hG hW;generalize qD G e.at_ e.input=sg at hS hnew;obtain ⟨G',se⟩:=sg;dsimp only at hS hnew;repeat' (first|apply ak (d:=25);exact rfl;apply ai;exact rfl;exact rfl;exact hlt|apply ak (d:=26);exact rfl;apply aP;exact rfl;exact he;exact rfl|apply aj (f:=48);exact rfl;exact rfl;exact FnIn.msub hS (by unfold gB;exact mS);rintro _ _ ⟨rfl,E',clock',R',rfl,hsub,hG'⟩|refine zZA ?_|refine sM fun _=>?_|refine sC ?_ ?_<;>intro hb<;>try omega|fail)
  ·rw [hnew,if_pos (by assumption)];exact di eIO rfl rfl rfl (.nil _) ⟨rfl,rfl⟩
  ·rw [if_neg (by assumption)] at hnew;refine ⟨(i+1,E',clock',G',R'),⟨hlt,hG',hnew⟩,(by dsimp only;omega),sB,sB,?_⟩;unfold gB;exact mS
 ·have e2:i=L.length:=by omega
  subst e2;rw [X0,yu] at hnew;rw [hnew];repeat' (first|refine zZB ?_|refine sM fun _=>?_|refine sC ?_ ?_<;>intro hb<;>try omega|fail)
  all_goals exact di eIO rfl rfl rfl (MSub.refl _) ⟨gg,gm,E,clock,R,rfl,rfl,hG⟩
theorem Jo (L:List Et): ∀ u∈L.flatMap bN,u.oneCell' =true:=by
 intro u hu;obtain ⟨x,_,hx⟩:=XL.1 hu;simp only [bN,Xt,YQ,or_false] at hx;rcases hx with rfl|rfl|rfl<;>rfl
def inB:ByteArray:=⟨#[61,65,49,43,66,49]⟩
def inC:ByteArray:=⟨#[61,68,83,85,77,40,66,49,58,66,51,41]⟩
def inD:ByteArray:=⟨#[61,73,70,69,82,82,79,82,40,65,51,44,48,41,43,49]⟩
def Ut (c r:Int):Nd:=⟨2,cU,cE c r,0,0,0⟩
def exG:Gr:= [
 (⟨1,2⟩,[Ut 1 1,Ut 2 1,gJ 6 1],[⟨cE 1 1, -1,0⟩,⟨cE 2 1, -1,0⟩]),
 (⟨1,3⟩,[⟨3,cU,⟨2,1,2,3⟩,0,0,0⟩,⟨7,cU,bU,0,46,1⟩],[⟨⟨2,1,2,3⟩,1,46⟩]),
 (⟨1,4⟩,[Ut 1 3,⟨1,⟨1,0,aS⟩,bU,0,0,0⟩,⟨7,cU,bU,0,25,2⟩,⟨1,⟨1,10000,aS⟩,bU,0,0,0⟩,gJ 6 1],[⟨cE 1 3, -1,0⟩])]
end Go.SL
namespace Go.SL
open Go Go.Proofs Go.ChangeShapes Go.WideShapes Go.ChangeAt Go.RowKit Go.Deep
section
variable {H:Type} {enc:TypeId × Value→H} {P:Program} {w:World} {base:Nat} {spare:Nat→Bool} {held:Bool}
theorem gT {f:Func} {s:ChangeSpec} {apart fresh handsOn again:Bool} {W W' :World} {args:Array Value} {v:Value} {ds gs:List (DataW H)} {before pa pv:List MemPlace}
 (hW:DataW.Whole enc P f.params.toList s.vars apart W args.toList ds gs before)
 (hres: ∀ (b:Nat) (sp:Nat→Bool) (hd:Bool),DataW.TrodAll enc P W' b sp hd f.resultTypes.toList (v.resultList f.resultTypes.size) (s.fn H (ds++gs)).results [])
 (hargs: ∀ sp:Nat→Bool,(∀ p∈before,sp p.block=true)→DataW.TrodAll enc P W' 0 sp true f.params.toList args.toList (s.fn H (ds++gs)).args pa)
 (hvars: ∀ sp:Nat→Bool,(∀ p∈before,sp p.block=true)→DataW.TrodVars enc P W' sp s.vars (s.fn H (ds++gs)).vars pv)
 (hps:before=pa++pv) (hb:Below W.heap.size W W')
 (hok: ∀ (j:Nat) (t:TypeId) (r:Value),f.resultTypes[j]? =some t→(v.resultList f.resultTypes.size)[j]? =some r→Value.okWide P W' .any 0 t r):
 s.post enc P f apart fresh handsOn again W args v W' :=by
 have hold: ∀ p∈before,(fun b=>decide (b<W.heap.size)) p.block=true:=fun p hp=>by simpa using hW.lt p hp
 refine ⟨ds,gs,before,[],pa,pv,hW,hres _ _ _,hargs _ hold,hvars _ hold,hb.frame _,fun _=> ?_⟩;have hlt:=hW.lt;obtain ⟨_,_,_,_,_,hz,hn⟩:=hW;refine ⟨hok,_,_,([]++pa)++pv,⟨[]++pa,pv,trodAll_append (hargs _ (fun _ _=>rfl)) (hres _ _ _),hvars _ (fun _ _=>rfl),rfl,?_,?_⟩,?_⟩
 ·intro b off hp;have hp' :MemPlace.cell b off∈before:=by rw [hps];simpa using hp
  have h1:=hz b off hp';have h2:=hlt _ hp';rw [← h1];exact hb.frozen h2
 ·intro ha;have:=hn ha;rw [hps] at this;simpa using this
 ·intro p hp _;rw [hps];simpa using hp
theorem bF {t:TypeId} (hl:laidOutB P=true) (hr:P.readableRec t=true) (hrow:t<P.types.size) {W W' :World} {v:Value} {d:DataW H} {ps:List MemPlace} {sp:Nat→Bool}
 (h:DataW.Trod enc P W 0 (fun _=>true) true t v d ps) (hb:Below W.heap.size W W') (hlt: ∀ x∈ps,x.block<W.heap.size) (hs: ∀ x∈ps,sp x.block=true):DataW.Trod enc P W' 0 sp true t v d ps:=
 WideElems.Trod_stays hl hr hrow h (fun x hx=>hb.same (hlt x hx)) hs
end
theorem tW:ownKnob Tryz.prog.godebug=none:=by kernel_rfl
theorem bC:laidOutB Tryz.prog=true:=by kernel_rfl
section
variable {P:Program} {ops:Array Oper} {es ps:List Nat} {C:World→Prop}
theorem wh {Q:Act→World→Prop} {i:Nat} {oi:Oper} (hi:ops[i]? =some oi) (hsel: ∀ (j:Nat) (o:Oper) cs b,ops[j]? =some o→o.op≠ .select cs b)
 (hnb: ∀ x∈es,∀ y,y∈es∨y∈ps→x≠y→(x=i∨y=i)→xe ops x y):
 ∀ (f:Nat) (L:Array Bool) (a:Act) (w:World),ClosedL ops L→C w→
  (∀ j oj,ops[j]? =some oj→j≠i→L.getD j true=false→(∀ e∈oj.after,Region.binds .any e=true→e.on≠i)→oi.apart ops oj=true)→
  i∈Region.ready .any ops L→EOp P ops es ps C (AnyE P ops es ps C Q f (L.setIfInBounds i true)) i oi a w→AnyE P ops es ps C Q (f+1) L a w
 |0,L,a,w,hcl,hC,_,hr,hy=>⟨hC,fun h=>(by rw [h] at hr;cases hr),fun j hj=>by
   by_cases hji:j=i
   ·subst hji;exact ⟨oi,hi,hy⟩
   ·exfalso;have hne:=ready_mono hj hji;have hE: ∃ a' w',AnyE P ops es ps C Q 0 (L.setIfInBounds i true) a' w' :=by
     cases hy with
     |pass _ hk=>exact ⟨_,_,hk⟩
     |quiet _ _ _ _ _ hk=>exact ⟨_,_,hk⟩
     |eff _ _ hk=>obtain ⟨v,w',h⟩:=hk.ex;exact ⟨_,_,h⟩
    obtain ⟨a',w',_,h0,_⟩:=hE;rw [h0] at hne;cases hne⟩
 |f+1,L,a,w,hcl,hC,hfree,hr,hy=>⟨hC,fun h=>(by rw [h] at hr;cases hr),fun j hj=>by
   by_cases hji:j=i
   ·subst hji;exact ⟨oi,hi,hy⟩
   ·have hj' :=ready_mono hj hji;obtain ⟨hjun,oj,hoj,hall⟩:=mem_ready.1 hj;have hnot: ∀ e∈oj.after,Region.binds .any e=true→e.on≠i:=fun e he hb heq=>by
     have h1:=hall e he hb;have h0:=(mem_ready.1 hr).1;rw [heq] at h1;rcases Y1 i L.size with h' |h'
     ·simp [h'] at h0 h1;rw [h0] at h1;cases h1
     ·simp [Zr h'] at h1
    have hap:=hfree j oj hoj hji hjun hnot;obtain ⟨h1,h2,h3⟩:=Oper.apart_spec hap;have hsi:=fun cs b=>hsel i oi cs b hi;have hsj:=fun cs b=>hsel j oj cs b hoj;have hej: ∀ v,execOp (a.put oi.dst v).eval oj=execOp a.eval oj:=fun v=>execOp_put oj hsj a oi.dst v h1;have hwj: ∀ v,Region.wanted oj (yielded ops (a.put oi.dst v).tmps)=Region.wanted oj (yielded ops a.tmps):=fun v=>wanted_put oj a oi.dst v h1;have hcomm: ∀ v u,(a.put oi.dst v).put oj.dst u=(a.put oj.dst u).put oi.dst v:=fun v u=>Act.put_comm a v u h2;have hset:(L.setIfInBounds i true).setIfInBounds j true=(L.setIfInBounds j true).setIfInBounds i true:=ZR _ _ (Ne.symm hji)
    have hfree' : ∀ k ok,ops[k]? =some ok→k≠i→(L.setIfInBounds j true).getD k true=false→
     (∀ e∈ok.after,Region.binds .any e=true→e.on≠i)→oi.apart ops ok=true:=fun k ok hk hki hun hno=>by
     refine hfree k ok hk hki ?_ hno;by_cases hjk:j=k
     ·subst hjk;exact hjun
     ·rw [getD_set_ne true hjk] at hun;exact hun
    have ih:=wh (Q:=Q) hi hsel hnb f (L.setIfInBounds j true);have hcl' :=hcl.set hj;have hr' :=ready_mono hr (Ne.symm hji)
    -- what comes of j behind an outcome of i
    have hJ: ∀ v w',AnyE P ops es ps C Q (f+1) (L.setIfInBounds i true) (a.put oi.dst v) w' →EOp P ops es ps C (AnyE P ops es ps C Q f ((L.setIfInBounds j true).setIfInBounds i true)) j oj (a.put oi.dst v) w' :=fun v w' h=>by
     obtain ⟨o,ho,hE⟩:=h.2.2 j hj';have e:o=oj:=Option.some.inj (ho.symm.trans hoj);subst e;rw [hset] at hE;exact hE
    refine ⟨oj,hoj,?_⟩
    have hstill:(∃ v,AnyE P ops es ps C Q (f+1) (L.setIfInBounds i true) (a.put oi.dst v) w∧ ∀ (u:Value) (w2:World) (K' :Act→World→Prop),C w2→(i∈ps→w2=w)→K' ((a.put oj.dst u).put oi.dst v) w2→EOp P ops es ps C K' i oi (a.put oj.dst u) w2)∨
     (Region.wanted oi (yielded ops a.tmps)=true∧i∈es∧NormUp P (fun v w' =>AnyE P ops es ps C Q (f+1) (L.setIfInBounds i true) (a.put oi.dst v) w') ((execOp a.eval oi).run P w)):=by
     cases hy with
     |pass hw hk=>exact .inl ⟨undef,hk,fun u w2 K' _ _ hk' => .pass ((wanted_put oi a oj.dst u h3).trans hw) hk'⟩
     |quiet hw hies v hrun hst hk=>
      refine .inl ⟨v,hk,fun u w2 K' hC2 hps hk' => ?_⟩;have he:=execOp_put oi hsi a oj.dst u h3;have hrun2:(execOp a.eval oi).run P w2= .ok (.value v) w2:=by
       rcases hst with h|h
       ·rw [hps h];exact hrun
       ·exact h w2 hC2
      exact .quiet ((wanted_put oi a oj.dst u h3).trans hw) hies v (by rw [he];exact hrun2) (by rw [he];exact hst) hk'
     |eff hw hies hk=>exact .inr ⟨hw,hies,hk⟩
    rcases hstill with ⟨v,hk,hS⟩|⟨hw,hies,hk⟩
    ·cases hJ v w hk with
     |pass hwj' hkj=>exact .pass ((hwj v).symm.trans hwj') (ih _ w hcl' hC hfree' hr' (hS undef w _ hC (fun _=>rfl) (by rw [← hcomm];exact hkj)))
     |quiet hwj' hjes u hrun hst hkj=>
      rw [hej] at hrun hst;exact .quiet ((hwj v).symm.trans hwj') hjes u hrun hst (ih _ w hcl' hC hfree' hr' (hS u w _ hC (fun _=>rfl) (by rw [← hcomm];exact hkj)))
     |eff hwj' hjes hkj=>
      rw [hej] at hkj;exact .eff ((hwj v).symm.trans hwj') hjes (hkj.mono fun u w2 hk2=>ih _ w2 hcl' hk2.inC hfree' hr' (hS u w2 _ hk2.inC (fun hps=>(hnb j hjes i (.inr hps) hji (.inr rfl) L hcl hj hr).elim) (by rw [← hcomm];exact hk2)))
    ·obtain ⟨v0,w1,h0⟩:=hk.ex
     cases hJ v0 w1 h0 with
     |pass hwj' hkj=>
      have hwa:=(hwj v0).symm.trans hwj';refine .pass hwa (ih _ w hcl' hC hfree' hr' (EOp.of_put hap hsi (.eff hw hies hk) fun v w' h=> ?_))
      cases hJ v w' h with
      |pass _ h' =>rw [← hcomm];exact h'
      |quiet hw2 _ _ _ _ _=>rw [hwj,hwa] at hw2;cases hw2
      |eff hw2 _ _=>rw [hwj,hwa] at hw2;cases hw2
     |quiet hwj' hjes u hrun hst hkj=>
      have hwa:=(hwj v0).symm.trans hwj';have hst2: ∀ w1,C w1→(execOp a.eval oj).run P w1= .ok (.value u) w1:=by
       rcases hst with h|h
       ·exact (hnb i hies j (.inr h) (Ne.symm hji) (.inl rfl) L hcl hr hj).elim
       ·rw [hej] at h;exact h
      refine .quiet hwa hjes u (hst2 w hC) (.inr hst2) (ih _ w hcl' hC hfree' hr' (EOp.of_put hap hsi (.eff hw hies hk) fun v w' h=> ?_))
      cases hJ v w' h with
      |pass hw2 _=>rw [hwj,hwa] at hw2;cases hw2
      |eff _ hjes2 _=>exact absurd hjes2 hjes
      |quiet _ _ u' hr2 hst' h' =>
       have hst3:(execOp a.eval oj).run P w= .ok (.value u') w:=by
        rcases hst' with h|h
        ·exact (hnb i hies j (.inr h) (Ne.symm hji) (.inl rfl) L hcl hr hj).elim
        ·have:=h w hC;rw [hej] at this;exact this
       rw [hst2 w hC] at hst3;injection hst3 with h4;injection h4 with h4;subst h4;rw [← hcomm];exact h'
     |eff hwj' hjes hkj=>exact (hnb i hies j (.inl hjes) (Ne.symm hji) (.inl rfl) L hcl hr hj).elim⟩
end
section
variable {P:Program} {n:Fr} {w0:World} {Q:bK} {s:az} {H S:List Blk} {l:List Oper} {ty:TypeId} {p:String} {af:Array Edge} {es:List Nat} {gu:Option (Nat × Bool)} {f:Nat} {L:Array Bool}
def WE (P:Program) (n:Fr) (w0:World) (l:List Oper) (S:List Blk) (es:List Nat) (Q:bK) (f:Nat) (L:Array Bool) (s:az) (H:List Blk):Prop:=
 ∀ a w,St n s a→Mem w0 w H→Mem w0 w S→ClosedL l.toArray L→AnyE P l.toArray es [] (fun w=>Mem w0 w S) (post n w0 Q .normal) f L a w
theorem fw {id:Nat} (es:List Nat) (S:List Blk) (N:Nat) (hN:l.length=N) (hm:P.follows .mixedOrders=true) (hS:MSub S H)
 (h:WE P n w0 l S es Q N (Array.replicate N false) s H):W P n w0 (.region id l.toArray true) Q s H:=by
 intro a w hs hmem;subst hN;refine wp_region_any hm (gP (es:=es) (ps:= []) (C:=fun w=>Mem w0 w S) (Q:=post n w0 Q .normal) (fun _ _ h=>h) _ _ _ _ ?_);have hcl:ClosedL l.toArray (Array.replicate l.length false):=fun i o _ hi=>by
  rw [XZ,ZA] at hi;split at hi<;>cases hi
 have:=h a _ hs hmem.drew (hS.use hmem.drew) hcl;simpa using this
theorem fu (hr:Region.ready .any l.toArray L= []) (h:Q .normal s H):WE P n w0 l S es Q f L s H:=by
 intro a w hs hm hS hcl
 cases f with
 |zero=>exact ⟨hS,hr,s,H,hs,hm,h⟩
 |succ f=>exact ⟨hS,fun _=>⟨s,H,hs,hm,h⟩,fun i hi=>by rw [hr] at hi;cases hi⟩
theorem ba {i:Nat} {op:Op} {d:Nat} {v:Value} (hi:l[i]? =some ⟨some d,op,ty,p,af,gu⟩) (hn:Nat.blt d n.sz=true) (hg:gok l s gu=some true) (hk:es.contains i=false) (hsel:Region.noSelect l.toArray=true)
 (hr:(Region.ready .any l.toArray L).contains i=true) (hf:Region.free .any l.toArray L i=true) (hv:VOp P w0 s S op ty v) (h:WE P n w0 l S es Q f (L.setIfInBounds i true) ((d,v)::s) H):WE P n w0 l S es Q (f+1) L s H:=by
 intro a w hs hm hS hcl;have hi' :l.toArray[i]? =some ⟨some d,op,ty,p,af,gu⟩:=by simpa using hi
 have hr' :i∈Region.ready .any l.toArray L:=by simpa using hr
 have hk' :i∉es:=by simpa using hk
 refine wh hi' (Region.noSelect_spec hsel) (fun x hx y hy _ hxy=> ?_) f L a w hcl hS (Region.free_spec hi' hf) hr'
  (.quiet (eQ rfl hg hs) hk' v (hv a.eval w (some d) p af gu hs.eval hS) (.inr fun w1 h1=>hv a.eval w1 (some d) p af gu hs.eval h1) (h _ _ (hs.put (Yg ▸ hn) v) hm hS (hcl.set hr')))
 rcases hxy with rfl|rfl
 ·exact (hk' hx).elim
 ·rcases hy with hy|hy
  ·exact (hk' hy).elim
  ·cases hy
theorem pS {i:Nat} {op:Op} {dst:Option Tmp} (hi:l[i]? =some ⟨dst,op,ty,p,af,gu⟩) (hg:gok l s gu=some true) (hk:es.contains i=true) (hr:(Region.ready .any l.toArray L).contains i=true)
 (h:WL P n w0 #[] [⟨dst,op,ty,p,af,none⟩] (ceP S (WE P n w0 l S es Q f (L.setIfInBounds i true))) s H) (a:Act) (w:World) (hs:St n s a) (hm:Mem w0 w H) (hcl:ClosedL l.toArray L):
 EOp P l.toArray es [] (fun w=>Mem w0 w S) (AnyE P l.toArray es [] (fun w=>Mem w0 w S) (post n w0 Q .normal) f (L.setIfInBounds i true)) i ⟨dst,op,ty,p,af,gu⟩ a w:=by
 have hr' :i∈Region.ready .any l.toArray L:=by simpa using hr
 refine .eff (eQ rfl hg hs) (by simpa using hk) ?_;have h1:=h a w hs hm;unfold wpList at h1;simp only [Region.wanted,if_true] at h1;replace h1:=h1.elim id fun ⟨_,a0,w1,s',H'',_,_,he,_⟩=>by cases he
 have hexec:execOp a.eval ⟨dst,op,ty,p,af,gu⟩=execOp a.eval ⟨dst,op,ty,p,af,none⟩:=rfl;rw [hexec];have nxt: ∀ (a' :Act) (w' :World),wpList P #[] (post n w0 (ceP S (WE P n w0 l S es Q f (L.setIfInBounds i true)))) [] a' w' →AnyE P l.toArray es [] (fun w=>Mem w0 w S) (post n w0 Q .normal) f (L.setIfInBounds i true) a' w' :=by
  rintro a' w' ⟨s',H',hs',hm',_,hSub,hK⟩;exact hK a' w' hs' hm' (hSub.use hm') (hcl.set hr')
 unfold Oper.wp at h1;generalize (execOp a.eval ⟨dst,op,ty,p,af,none⟩).run P w=r at h1 ⊢
 cases r with
 |ok x w' =>
  cases x<;>simp only [Oper.upon] at h1<;>simp only [NormUp]
  case value u=>exact nxt _ _ h1
  case skip=>exact nxt _ _ h1
  case defer dd=>
   obtain ⟨s',H'',hs',_⟩:=h1;have h2:=congrArg List.length (hs'.defers.trans hs.defers.symm);cases dst<;>simp [Act.put] at h2
  case enter f args=>
   refine h1.mono fun e w'' he=> ?_
   cases e with
   |returned v=>exact ⟨v,rfl,nxt _ _ he⟩
   |panicked c=>
    obtain ⟨s',H'',_,_,he',_⟩:=he;cases he'
   |outgrown=>
    obtain ⟨a0,w1,s',H'',_,_,he',_⟩:=he;cases he'
  case row f args=>exact Rows.mono h1 fun u w'' he=>nxt _ _ he
 |halt x w' =>
  cases x<;>simp only [Oper.upon] at h1
  all_goals
   obtain ⟨s',H'',_,_,he',_⟩:=h1;cases he'
theorem bk {i:Nat} {op:Op} {dst:Option Tmp} (hi:l[i]? =some ⟨dst,op,ty,p,af,gu⟩) (hg:gok l s gu=some true) (hk:es.contains i=true) (hr:Region.ready .any l.toArray L= [i])
 (h:WL P n w0 #[] [⟨dst,op,ty,p,af,none⟩] (ceP S (WE P n w0 l S es Q f (L.setIfInBounds i true))) s H):WE P n w0 l S es Q (f+1) L s H:=by
 intro a w hs hm hS hcl;refine ⟨hS,fun h0=>(by rw [hr] at h0;cases h0),fun j hj=> ?_⟩;rw [hr] at hj;have e:j=i:=by simpa using hj
 subst e;exact ⟨_,by simpa using hi,pS hi hg hk (by rw [hr];simp) h a w hs hm hcl⟩
theorem cF {i j:Nat} {op op' :Op} {dst dst' :Option Tmp} {ty' :TypeId} {p' :String} {af' :Array Edge} {gu' :Option (Nat × Bool)} (hi:l[i]? =some ⟨dst,op,ty,p,af,gu⟩) (hj:l[j]? =some ⟨dst',op',ty',p',af',gu'⟩) (hg:gok l s gu=some true) (hg' :gok l s gu' =some true)
 (hk:es.contains i=true) (hk' :es.contains j=true) (hr:Region.ready .any l.toArray L= [i,j])
 (h:WL P n w0 #[] [⟨dst,op,ty,p,af,none⟩] (ceP S (WE P n w0 l S es Q f (L.setIfInBounds i true))) s H)
 (h' :WL P n w0 #[] [⟨dst',op',ty',p',af',none⟩] (ceP S (WE P n w0 l S es Q f (L.setIfInBounds j true))) s H):WE P n w0 l S es Q (f+1) L s H:=by
 intro a w hs hm hS hcl;refine ⟨hS,fun h0=>(by rw [hr] at h0;cases h0),fun k hk0=> ?_⟩;rw [hr] at hk0;rcases Xt.1 hk0 with e|hk0
 ·subst e;exact ⟨_,by simpa using hi,pS hi hg hk (by rw [hr];simp) h a w hs hm hcl⟩
 ·have e:k=j:=by simpa using hk0
  subst e;exact ⟨_,by simpa using hj,pS hj hg' hk' (by rw [hr];simp) h' a w hs hm hcl⟩
end
attribute [local irreducible] FnAt FnIn FnP RW VOp W WA WC WE WG WL WLI WQ WR WT WX aX aY bA blk bw ceP scp thn
def OX (k:Int):Bool:=decide (k=3)||decide (k=4)||decide (k=7)||decide (k=8)||decide (k=9)
def Nb (k:Int):Ox:=⟨k,0,bU,aS,0#64,0#64,0#64,0,0#64,0⟩
theorem JM (x:Ox) (w:World):aL Tryz.prog 113 [.agg (TC x).toArray] w (.bool (OX x.kind)):=by
 refine aB Tryz.func113 rfl Tryz.ntmps113 rfl ?_;repeat' (first|refine zZB ?_|refine sM fun _=>?_|refine sC ?_ ?_<;>intro hb<;>try omega|fail)
 all_goals first
  |omega
  |(refine rT1 ?_);simp_all [OX];done
theorem HF (k:Int) (w:World):aL Tryz.prog 113 [.agg (TC (Nb k)).toArray] w (.bool (OX k)):=JM (Nb k) w
end Go.SL
namespace Go.SL
open Go Go.RowKit
section
variable {P:Program} {n:Fr} {w0:World} {Q:bK} {s:az} {H S:List Blk} {l:List Oper} {L:Array Bool} {f:Nat} {ty:TypeId} {p:String} {af:Array Edge} {es:List Nat} {gu:Option (Nat × Bool)}
theorem ED {i j k:Nat} {op op' op2:Op} {dst dst' dst2:Option Tmp} {ty' ty2:TypeId} {p' p2:String} {af' af2:Array Edge} {gu' gu2:Option (Nat × Bool)} (hi:l[i]? =some ⟨dst,op,ty,p,af,gu⟩) (hj:l[j]? =some ⟨dst',op',ty',p',af',gu'⟩) (hl:l[k]? =some ⟨dst2,op2,ty2,p2,af2,gu2⟩)
 (hg:gok l s gu=some true) (hg' :gok l s gu' =some true) (hg2:gok l s gu2=some true)
 (hk:es.contains i=true) (hk' :es.contains j=true) (hk2:es.contains k=true) (hr:Region.ready .any l.toArray L= [i,j,k])
 (h:WL P n w0 #[] [⟨dst,op,ty,p,af,none⟩] (ceP S (WE P n w0 l S es Q f (L.setIfInBounds i true))) s H)
 (h' :WL P n w0 #[] [⟨dst',op',ty',p',af',none⟩] (ceP S (WE P n w0 l S es Q f (L.setIfInBounds j true))) s H)
 (h2:WL P n w0 #[] [⟨dst2,op2,ty2,p2,af2,none⟩] (ceP S (WE P n w0 l S es Q f (L.setIfInBounds k true))) s H):WE P n w0 l S es Q (f+1) L s H:=by
 intro a w hs hm hS hcl;refine ⟨hS,fun h0=>(by rw [hr] at h0;cases h0),fun x hx=> ?_⟩;rw [hr] at hx;rcases Xt.1 hx with e|hx
 ·subst e;exact ⟨_,by simpa using hi,pS hi hg hk (by rw [hr];simp) h a w hs hm hcl⟩
 ·rcases Xt.1 hx with e|hx
  ·subst e;exact ⟨_,by simpa using hj,pS hj hg' hk' (by rw [hr];simp) h' a w hs hm hcl⟩
  ·have e:x=k:=by simpa using hx
   subst e;exact ⟨_,by simpa using hl,pS hl hg2 hk2 (by rw [hr];simp) h2 a w hs hm hcl⟩
end
open Go.Proofs
attribute [local irreducible] FnAt FnIn FnP RW VOp W WA WC WE WG WL WLI WQ WR WT WX aX aY bA blk bw ceP scp thn
def bS (at_:List Rf) (l:List Rct):Int:=if at_.all (fun a=>a.valid) && l.all aA then 0 else 3
theorem jm (r:Rct):bY r=0↔aA r=true:=by
 have:=Fx (r:=r);cases h:aA r
 ·rw [h] at this;simp only [iff_true,X3,iff_false] at this ⊢;exact this
 ·rw [h] at this;simpa using this
theorem uX (g:Nat) (A:List Rf) (L:List Rct) (av lv:Value) (w:World) (ha:Reads w av A.length (A.flatMap aq)) (hl:Reads w lv L.length (L.flatMap ay)) (hA:A.length≤1000000) (hL:L.length≤1000000):
 aL Tryz.prog 60 [.pointer (some ⟨g,0,none⟩),av,lv] w (.int .i64 (bS A L)):=by
 obtain ⟨Aa,ca,rfl,ha1,ha2,ha3⟩:=ha;obtain ⟨Al,cl,rfl,hl1,hl2,hl3⟩:=hl;refine aB Tryz.func60 rfl Tryz.ntmps60 rfl ?_;repeat' (first|refine zZB ?_|refine sM fun _=>?_|refine sC ?_ ?_<;>intro hb<;>try omega|fail)
 refine ax [2,13,14] rfl (fun i:Nat=> [(15,.int .i64 (i:Int))]) (fun _=> []) (fun i=>i≤A.length∧A.all (fun a=>a.valid)=(A.drop i).all (fun a=>a.valid)) (fun i=>A.length - i) 0 ⟨Xn _,rfl⟩ sB (MSub.refl _) ?_;rintro i ⟨hi,hrec⟩;by_cases hlt:i<A.length
 ·obtain ⟨gl,ol,rfl,hrl⟩:=ha3 (by omega);have he:=hrl.elem bD i hlt;rw [XC hlt,Zv] at hrec;generalize A[i]=a at he hrec;have hV: ∀ w',aL Tryz.prog 50 [.agg (aq a).toArray] w' (.bool a.valid):=fun w' =>iQ a.col a.row w';generalize a.valid=b at hV hrec;repeat' (first|apply ak;exact rfl;apply ai (j:=i);exact rfl;exact rfl;exact hlt|apply ak;exact rfl;apply aP;exact rfl;exact he;exact rfl|apply aa;exact rfl;exact rfl;intro w hm;exact hV w|refine zZA ?_|refine sM fun _=>?_|refine sC ?_ ?_<;>intro hb<;>try omega|fail)
  all_goals first
   |omega
   |refine bo eIO rfl rfl (.nil _) ?_;rw [bS,hrec];simp_all;done
   |refine ⟨i+1,⟨hlt,?_⟩,by omega,by exact sB,by exact sB,MSub.nil _⟩;simp_all;done
 ·rw [ZU (show A.length≤i by omega)] at hrec;repeat' (first|refine zZA ?_|refine sM fun _=>?_|refine sC ?_ ?_<;>intro hb<;>try omega|fail)
  all_goals try omega
  refine ax [23,24] rfl (fun i:Nat=> [(25,.int .i64 (i:Int))]) (fun _=> []) (fun i=>i≤L.length∧L.all aA=(L.drop i).all aA) (fun i=>L.length - i) 0 ⟨Xn _,rfl⟩ sB (MSub.nil _) ?_;rintro i ⟨hi,hrec2⟩;by_cases hlt:i<L.length
  ·obtain ⟨gl,ol,rfl,hrl⟩:=hl3 (by omega);have he:=hrl.elem tN i hlt;rw [XC hlt,Zv] at hrec2;generalize L[i]=r at he hrec2;have hV:=fun w' =>dQ r w';have hz:=jm r;generalize bY r=re at hV hz;generalize aA r=b at hz hrec2;repeat' (first|apply ak;exact rfl;apply ai (j:=i);exact rfl;exact rfl;exact hlt|apply ak;exact rfl;apply aP;exact rfl;exact he;exact rfl|apply aa;exact rfl;exact rfl;intro w hm;exact hV w|refine zZA ?_|refine sM fun _=>?_|refine sC ?_ ?_<;>intro hb<;>try omega|fail)
   all_goals first
    |omega
    |refine bo eIO rfl rfl (.nil _) ?_;rw [bS,hrec,hrec2];simp_all;done
    |refine ⟨i+1,⟨hlt,?_⟩,by omega,by exact sB,by exact sB,MSub.nil _⟩;simp_all;done
  ·rw [ZU (show L.length≤i by omega)] at hrec2;repeat' (first|refine zZA ?_|refine sM fun _=>?_|refine sC ?_ ?_<;>intro hb<;>try omega|fail)
   all_goals first
    |omega
    |refine bo eIO rfl rfl (.nil _) ?_;rw [bS,hrec,hrec2];rfl
def ML (p q:Pz):Int:=if p.rect.r1≠q.rect.r1 then p.rect.r1 - q.rect.r1 else p.rect.c1 - q.rect.c1
def xX (p:Pz):Prop:=0≤p.rect.r1∧p.rect.r1≤100000∧0≤p.rect.c1∧p.rect.c1≤100000
theorem SC (p q:Pz) (hp:xX p) (hq:xX q) (w:World):aL Tryz.prog 191 [.agg (cK p).toArray,.agg (cK q).toArray] w (.int .i64 (ML p q)):=by
 refine aB Tryz.func191 rfl Tryz.ntmps191 rfl ?_;obtain ⟨h1,h2,h3,h4⟩:=hp;obtain ⟨h5,h6,h7,h8⟩:=hq;repeat' (first|refine sT ?_|refine sJ ?_|refine sM fun _=>?_|refine sC ?_ ?_<;>intro hb<;>try omega|fail)
 all_goals first
  |omega
  |(refine rT1 ?_);rw [ML,if_pos hb];done
  |(refine rT1 ?_);rw [ML,if_neg (fun h=>h hb)];done
  |(refine rT1 ?_);rw [ML,if_neg (fun h=>hb h)];done
structure InZ (L:List Pz):Prop where
 sort:L.Pairwise O4
 small: ∀ p∈L,xX p
 len:L.length≤1000000
theorem InZ.cmp {L:List Pz} (h:InZ L) {i j:Nat} (hij:i≤j) (hj:j<L.length): ∃ z:Int,0≤z∧ ∀ w,aL Tryz.prog 191 [.agg (cK L[j]).toArray,.agg (cK (L[i]'(by omega))).toArray] w (.int .i64 z):=by
 refine ⟨_,?_,fun w=>SC _ _ (h.small _ (XO hj)) (h.small _ (XO _)) w⟩;by_cases e:i=j
 ·subst e;simp [ML]
 ·have:=aaf.1 h.sort i j (by omega) hj (by omega);unfold ML;rcases this with h1|⟨h1,h2⟩
  ·rw [if_pos (by omega)];omega
  ·rw [if_neg (by omega)];omega
abbrev SD:Value:= .func (.func 191) #[] #[]
theorem R0 (L:List Pz) (hL:InZ L) (lv:Value) (w:World) (hl:Reads w lv L.length (L.flatMap cK)) (a b:Nat) (hb:b≤L.length) (ha:a≤L.length):
 aL Tryz.prog 272 [lv,.int .i64 (a:Int),.int .i64 (b:Int),SD] w (.tuple #[]):=by
 obtain ⟨Al,cl,rfl,hl1,hl2,hl3⟩:=hl;refine aB Tryz.func272 rfl Tryz.ntmps272 rfl ?_;have hlen:=hL.len;repeat' (first|refine zZA ?_|refine sM fun _=>?_|refine sC ?_ ?_<;>intro hb<;>try omega|fail)
 refine ax [0,1,2,3] rfl (fun i:Nat=> [(8,.int .i64 (i:Int))]) (fun _=> []) (fun i=>a+1≤i∧i≤max b (a+1)) (fun i=>max b (a+1) - i) (a+1) ⟨Xy _,by omega⟩ sB mS ?_;rintro i ⟨hi,hi2⟩;by_cases hlt:i<b
 ·obtain ⟨gl,ol,rfl,hrl⟩:=hl3 (by omega);obtain ⟨z,hz,hc⟩:=hL.cmp (i:=i - 1) (j:=i) (by omega) (by omega);have h1:=hrl.elem cN i (by omega);have h2:=hrl.elem cN (i - 1) (by omega);generalize L[i]'(by omega)=p at h1 hc;generalize L[i - 1]'(by omega)=q at h2 hc;repeat' (first|refine zZA ?_|refine sM fun _=>?_|refine sC ?_ ?_<;>intro hb<;>try omega|fail)
  all_goals try omega
  refine ax [0,1,2,3,8] rfl (fun _:Unit=> [(9,.int .i64 (i:Int))]) (fun _=> []) (fun _=>True) (fun _=>0) () trivial sB mS ?_;rintro _ _;repeat' (first|apply kM (id:=4);kernel_rfl;kernel_rfl|apply aQ (d:=25);exact rfl;apply ai (j:=i);exact rfl;exact rfl;omega|apply aQ (d:=30);exact rfl;apply ai (j:=i - 1);exact rfl;exact rfl;omega|apply aQ (d:=26);exact rfl;apply aP (xs:=cK p);exact rfl;exact h1;exact rfl|apply aQ (d:=31);exact rfl;apply aP (xs:=cK q);exact rfl;exact h2;exact rfl|apply jg;exact rfl;exact rfl;infer_instance;exact rfl;intro w' _;exact hc w'|refine zZQ ?_|refine sM fun _=>?_|refine sC ?_ ?_<;>intro hb<;>try omega|refine sCQ ?_ ?_<;>intro hb<;>try omega|fail)
  all_goals first
   |omega
   |refine ⟨i+1,⟨by omega,by omega⟩,by omega,by exact sB,by exact sB,by exact mS⟩;done
 ·repeat' first|refine zZB ?_|refine sM fun _=>?_|refine sC ?_ ?_<;>intro hb<;>try omega|fail
  all_goals first
   |omega
   |exact fJ eIO rfl (MSub.nil _) rfl
end Go.SL
namespace Go.SL
open Go Go.Proofs
theorem K8 {P:Program} {n:Fr} {w0:World} {Q:bK} {s:az} {H:List Blk} {c:Code} {A:Option Nat} {t sz m cap:Nat} {xs:List Value} (hi:In (.own A t sz m cap xs) H) (h:m≤cap→W P n w0 c Q s H):W P n w0 c Q s H:=fun a w hs hmem=>
 h (hmem.on _ hi.mem).1.2.1 a w hs hmem
theorem bG (w:World):Reads w (.slice none 0 0) 0 []:=⟨none,0,rfl,Xy _,Xn _,fun h=>absurd h (Nat.lt_irrefl 0)⟩
attribute [local irreducible] W WL WQ WG WA WX WLI WR WT WC WE VOp RW thn blk bA scp aY aX bw FnAt FnIn FnP ceP
theorem Qu.pop_v (q:Qu) (sz:Nat):Value.slice (if q.c - q.k=1 then some ⟨q.g,q.off,none⟩ else (some (⟨q.g,q.off,none⟩:Addr)).map (·.add (1*sz))) (q.n - q.k - 1) (q.c - q.k - 1)=(q.pop sz).v:=by
 simp only [Qu.v,Qu.pop];rw [Nat.sub_sub,Nat.sub_sub];split
 ·rfl
 ·have h:(⟨q.g,q.off,none⟩:Addr).add (1*sz)=⟨q.g,q.off+1*sz,none⟩:=by unfold Addr.add;split<;>simp_all
  rw [Ys,h]
theorem NI {P:Program} {w0:World} {s:az} {H:List Blk} {ty t e sz:Nat} {x:Operand} [ht:Und P t (.slice e)] [hz:Size P e sz] (q:Qu) (hx:ev s x=some q.v) (h1:1≤q.n - q.k) (h2:q.n≤q.c):
 VOp P w0 s H (.slice t x (some (.const (.int .i64 1))) none none) ty (q.pop sz).v:=by
 rw [← Qu.pop_v];exact iR (lo:=1) (hi:=q.n - q.k) hx ⟨_,rfl⟩ rfl h1 (by omega)
theorem Qu.ok.head {α:Type} {q:Qu} {enc:α→List Value} {sz:Nat} {a:α} {L:List α} (h:q.ok enc sz (a::L)) (he:(enc a).length=sz) (hc:q.n≤q.c):(q.ys.drop (q.off+0*sz)).take sz=enc a:=by
 have hl:=h.len;rw [Xs] at hl;rw [h.off (by omega),Zt,ZP,h.cells,Xx,← he,ZL]
theorem bM (r:Rct):(ay r).length=4:=rfl
noncomputable def eW (G:Gr) (L:List Rct):List Rf:=if bS [] L=0 then eX G L else []
theorem OC {L:List Us} {k:Nat} (h:k<L.length):((L.flatMap bP).drop (0+k*6)).take 6=bP L[k]:=by
 rw [Xv];exact aM lp L k h
noncomputable def ja (G:Gr) (r:Rct) (L:List Et):List Rf:=(L.filter fun x=>decide (x.at_∈eW G [r])||aI r x.at_).map fun x=>x.at_
def nX (G:Gr) (r:Rct) (a:Rf) (S:List Rf):Bool:=aI r a||(aG G a).any fun u=>(bZ u.rect r).2||S.any fun x=>aI u.rect x
def zQ (nr:Rf→List Rf→Bool) (S:List Rf) (x:Rf × Bool):Bool:= !decide (x.1∈S) && (x.2 && nr x.1 S)
def Ga (A:List (Rf × Bool)) (nr:Rf→List Rf→Bool):Nat→List Rf→List Rf
 |0,S=>S
 |n+1,S=>match A.find? (zQ nr S) with
  |none=>S
  |some x=>Ga A nr n (S++ [x.1])
def Gb (A:List (Rf × Bool)) (nr:Rf→List Rf→Bool):List Rf:=Ga A nr (A.length+1) []
def P0 (A:List (Rf × Bool)) (nr:Rf→List Rf→Bool):List Rf:=(A.filter fun x=>decide (x.1∈Gb A nr)).map fun x=>x.1
theorem fL {G:Gr} (hG:GrOk G) (d:Rf):(aG G d).length≤1000:=XU (Lg hG d) (by decide)
structure Rdr (gg:Nat) (G:Gr) (B:List Blk) (w0:World):Prop where
 g:GrOk G
 l:G.length≤900
 ur: ∀ r H,MSub B H→FnIn Tryz.prog 95 [.pointer (some ⟨gg,0,none⟩),.agg (ay r).toArray] w0 H fun v H' => ∃ A cap,v=sl A (cV G r).length cap∧H' = .own A 34 2 (cV G r).length cap ((cV G r).flatMap aq)::H
 fm: ∀ H,MSub B H→FnIn Tryz.prog 92 [.pointer (some ⟨gg,0,none⟩)] w0 H fun v H' => ∃ A cap,v=sl A (ap G).length cap∧H' = .own A 34 2 (ap G).length cap ((ap G).flatMap aq)::H
 us: ∀ d H,MSub B H→FnIn Tryz.prog 78 [.pointer (some ⟨gg,0,none⟩),aC d] w0 H fun v H' => ∃ A cap,v=sl A (aG G d).length cap∧H' = .own A 159 6 (aG G d).length cap ((aG G d).flatMap bP)::H
theorem GOk.rdr {R:List Blk} {E:List En} {clock:Nat} {G:Gr} (h:GOk R E clock G) (hG:GrOk G) (hl:G.length≤900) (gg gm:Nat) (w0:World):Rdr gg G (gB gg gm (E.map En.m) clock++R) w0:=
 ⟨hG,hl,fun r _ hs=>h.users_any gg gm hs w0 hl hG r,fun _ hs=>h.formulas_any gg gm hs w0 hl,fun d _ hs=>h.uses_any gg gm hs w0 d⟩
theorem pU {P:Program} {w0:World} {s:az} {H:List Blk} {ty t e lo m c sz g:Nat} {x xl:Operand} [ht:Und P t (.slice e)] [hz:Size P e sz] (hx:ev s x=some (.slice (some ⟨g,0,none⟩) m c)) (hxl:ev s xl=some (.int .i64 (lo:Nat))) (h1:lo<m) (h2:m≤c):
 VOp P w0 s H (.slice t x (some xl) none none) ty (.slice (some ⟨g,lo*sz,none⟩) (m - lo) (c - lo)):=by
 have h:=iR (P:=P) (w0:=w0) (s:=s) (H:=H) (ty:=ty) (t:=t) (lo:=lo) (hi:=m) (x:=x) (xl:=some xl) (xh:=none) hx ⟨_,hxl⟩ rfl (by omega) h2;rw [if_neg (show ¬ c=lo by omega)] at h;have ha:(⟨g,0,none⟩:Addr).add (lo*sz)=⟨g,lo*sz,none⟩:=by unfold Addr.add;split<;>simp_all
 rw [Ys,ha] at h;exact h
theorem z8 {P:Program} {w0:World} {s:az} {H:List Blk} {ty t e hi m c sz:Nat} {A:Option Addr} {x xh:Operand} [ht:Und P t (.slice e)] [hz:Size P e sz] (hx:ev s x=some (.slice A m c)) (hxh:ev s xh=some (.int .i64 (hi:Nat))) (h2:hi≤c):
 VOp P w0 s H (.slice t x none (some xh) none) ty (.slice A hi c):=by
 have h:=iR (P:=P) (w0:=w0) (s:=s) (H:=H) (ty:=ty) (t:=t) (lo:=0) (hi:=hi) (x:=x) (xl:=none) (xh:=some xh) hx rfl ⟨_,hxh⟩ (by omega) h2;have ha:(if c=0 then A else A.map (·.add (0*sz)))=A:=by
  split
  ·rfl
  ·cases A with
   |none=>rfl
   |some a=>rw [Zt];simp [Addr.add]
 rw [ha] at h;exact h
def ku (n:Int):BitVec 64 × Int:=if n<0∨64<n then (0#64,3) else (UV n.toNat,0)
theorem JU (n:Int) (w:World):aL Tryz.prog 111 [.int .i64 n] w (.tuple #[vS (ku n).1,.int .i64 (ku n).2]):=by
 refine aB Tryz.func111 rfl Tryz.ntmps111 rfl ?_;by_cases h:n<0∨64<n
 ·rw [ku,if_pos h];repeat' (first|refine sT ?_|refine sM fun _=>?_|refine sC ?_ ?_<;>intro hb<;>try omega|fail)
  all_goals first|omega|(refine rT2 ?_);rfl
 ·rw [ku,if_neg h];obtain ⟨m,rfl⟩: ∃ m:Nat,n=(m:Int):=⟨n.toNat,by omega⟩;repeat' (first|apply ak;exact rfl;apply QY (a:=1#64) (m:=m);exact rfl;exact rfl;omega|apply ak;exact rfl;apply QW (b:=1#64);exact rfl;exact rfl|refine sT ?_|refine sM fun _=>?_|refine sC ?_ ?_<;>intro hb<;>try omega|fail)
  all_goals first|omega|(refine rT2 ?_);rfl
theorem jc (x:BitVec 64) (u:Int) (w:World):aL Tryz.prog 65 [vS x,.int .i64 u] w (.bool (gD x u)):=by
 refine aB Tryz.func65 rfl Tryz.ntmps65 rfl ?_;by_cases h:0≤u∧u<64
 ·obtain ⟨m,rfl⟩: ∃ m:Nat,u=(m:Int):=⟨u.toNat,by omega⟩;have hs:=Kh x m;have he:gD x (m:Int)=x.getLsbD m:=by simp [gD];omega
  rw [he];repeat' (first|apply ak;exact rfl;apply CF (a:=x) (m:=m);exact rfl;exact rfl;omega|apply ak;exact rfl;apply pY (b:=1#64);exact rfl;exact rfl|apply ak;exact rfl;apply CH (b:=1#64);exact rfl;exact rfl|refine sT ?_|refine sM fun _=>?_|refine sC ?_ ?_<;>intro hb<;>try omega|fail)
  all_goals first|omega|(refine rT1 ?_);exact congrArg Value.bool hs
 ·have he:gD x u=false:=by
   unfold gD;by_cases h1:0≤u
   ·have h2: ¬ u<64:=fun h2=>h ⟨h1,h2⟩;simp [h2]
   ·simp [h1]
  rw [he];repeat' (first|refine sT ?_|refine sM fun _=>?_|refine sC ?_ ?_<;>intro hb<;>try omega|fail)
  all_goals first|omega|(refine rT1 ?_);rfl
theorem BV (L:List (BitVec 64)) (lv:Value) (w:World) (hl:Reads w lv L.length (L.map vS)):aL Tryz.prog 64 [lv] w (vS (rX L)):=by
 obtain ⟨Al,cl,rfl,hl1,hl2,hl3⟩:=hl;refine aB Tryz.func64 rfl Tryz.ntmps64 rfl ?_;repeat' (first|refine sT ?_|refine sM fun _=>?_|refine sC ?_ ?_<;>intro hb<;>try omega|fail)
 refine ax [6,7] rfl (fun i:Nat=> [(3,vS (rX (L.take i))),(8,.int .i64 (i:Int))]) (fun _=> []) (fun i=>i≤L.length) (fun i=>L.length - i) 0 (Xn _) sB mS ?_;rintro i hi;by_cases hlt:i<L.length
 ·obtain ⟨gl,ol,rfl,hrl⟩:=hl3 (by omega);have he1:=hrl.cellV i (v:=vS L[i]) (by rw [XN,Xf hlt];rfl);have hs:rX (L.take (i+1))=rX (L.take i) &&& L[i]:=by rw [Xk hlt,MW]
  repeat' first|apply ak;exact rfl;apply pY;exact rfl;exact rfl|refine zZO ?_|refine sM fun _=>?_|refine sC ?_ ?_<;>intro hb<;>try omega|fail
  all_goals first
   |omega
   |refine ⟨i+1,hlt,by omega,?_,by exact sB,by exact mS⟩;rw [hs];exact sB
 ·have e:i=L.length:=by omega
  subst e;repeat' (first|refine sT ?_|refine sM fun _=>?_|refine sC ?_ ?_<;>intro hb<;>try omega|fail)
  all_goals first
   |omega
   |(refine rT1 ?_);rw [XF]
theorem qd {r:Rct} (h:bY r≠0):aA r=false:=by
 cases hq:aA r
 ·rfl
 ·exact absurd (by rw [bY,hq];rfl) h
theorem kR {r:Rct} (h: ¬ bY r≠0): ¬ aA r=false:=fun hq=>h (by rw [bY,hq];decide)
def xZ:Rct:=⟨1,1,1024,1024⟩
def jG (u:Int):List Rl→Int→Int × Int
 | [],_=>(0,0)
 |r::L,i=>if aA r.rect=false then (i,3) else if (r.read|||r.write|||r.own) &&& ~~~(ku u).1≠0#64 then (i,2) else jG u L (i+1)
def eV (u:Int) (L:List Rl):Int × Int:=
 if u<0∨64<u∨u=0∨L= [] then (0,2) else if 64<L.length then (64,5) else if (L.head?.map (·.rect))≠some xZ then (0,2) else jG u L 0
theorem Oe (w:World):aL Tryz.prog 112 [] w (.agg (ay xZ).toArray):=by
 refine aB Tryz.func112 rfl Tryz.ntmps112 rfl ?_;repeat' (first|refine sT ?_|refine sM fun _=>?_|refine sC ?_ ?_<;>intro hb<;>try omega|fail)
 (refine eRC ?_)
 rfl
theorem Rl.ro {w:World} {g o:Nat} {r:Rl} (h:Ro w g o (bQ r)):Ro w g o (ay r.rect)∧Ro w g (o+4) [vS r.read]∧Ro w g (o+5) [vS r.write]∧Ro w g (o+6) [vS r.own]∧Ro w g (o+4) [vS r.read,vS r.write,vS r.own]:=
 ⟨h.take (k:=4),(h.drop (k:=4)).take (k:=1),(h.drop (k:=5)).take (k:=1),h.drop (k:=6),h.drop (k:=4)⟩
theorem jP (u:Int) (L:List Rl) (lv:Value) (w:World) (hl:Reads w lv L.length (L.flatMap bQ)):aL Tryz.prog 68 [.int .i64 u,lv] w (.tuple #[.int .i64 (eV u L).1,.int .i64 (eV u L).2]):=by
 obtain ⟨Al,cl,rfl,hl1,hl2,hl3⟩:=hl;refine aB Tryz.func68 rfl Tryz.ntmps68 rfl ?_;have hA:=fun w=>JU u w;unfold eV;have hE:(ku u).2=if u<0∨64<u then 3 else 0:=by unfold ku;split<;>rfl
 by_cases h1:u<0∨64<u∨u=0∨L= []
 ·rw [if_pos h1];generalize ku u=ae at hA hE;obtain ⟨sa,ee⟩:=ae;dsimp only at hA hE;subst hE;have h1' : ¬ (u<0∨64<u)→u≠0→L.length=0:=fun h2 h3=>by
   rcases h1 with h|h|h|h
   ·exact absurd (.inl h) h2
   ·exact absurd (.inr h) h2
   ·exact absurd h h3
   ·rw [h];rfl
  clear h1;by_cases h2:u<0∨64<u
  ·rw [if_pos h2] at hA;repeat' (first|apply aa;exact rfl;exact rfl;intro w hm;exact hA w|refine sT ?_|refine sM fun _=>?_|refine sC ?_ ?_<;>intro hb<;>try omega|fail)
   all_goals first|omega|(refine rT2 ?_);rfl
  ·rw [if_neg h2] at hA;have h3:=h1' h2;repeat' (first|apply aa;exact rfl;exact rfl;intro w hm;exact hA w|refine sT ?_|refine sM fun _=>?_|refine sC ?_ ?_<;>intro hb<;>try omega|fail)
   all_goals first|omega|(refine rT2 ?_);rfl
 rw [if_neg h1];have hu: ¬ (u<0∨64<u)∧u≠0:=⟨fun h=>h1 (h.elim .inl fun h=> .inr (.inl h)),fun h=>h1 (.inr (.inr (.inl h)))⟩;have hpos:0<L.length:=Yr.2 fun h=>h1 (.inr (.inr (.inr h)));rw [if_neg hu.1] at hE;rw [hE] at hA;obtain ⟨sa,has⟩: ∃ sa,sa=(ku u).1:=⟨_,rfl⟩;rw [← has] at hA;obtain ⟨gl,ol,rfl,hrl⟩:=hl3 hpos;by_cases h64:64<L.length
 ·rw [if_pos h64];repeat' (first|apply aa;exact rfl;exact rfl;intro w hm;exact hA w|refine sT ?_|refine sM fun _=>?_|refine sC ?_ ?_<;>intro hb<;>try omega|fail)
  all_goals first|omega|(refine rT2 ?_);rfl
 rw [if_neg h64];obtain ⟨h0a,_⟩:=Rl.ro (hrl.elem dw 0 hpos);have hsh:=fun w=>Oe w;have hhd:L.head?.map (·.rect)=some L[0].rect:=by rw [List.head?_eq_getElem?,Xf hpos];rfl
 rw [hhd];obtain ⟨c,hc⟩: ∃ c,decide (L[0].rect=xZ)=c:=⟨_,rfl⟩;have hcs:(some L[0].rect≠some xZ)↔c=false:=by rw [← hc];simp
 generalize L[0].rect=r0 at h0a hc hcs ⊢;simp only [hcs];clear hhd hcs
 cases c with
 |false=>
  repeat' first|apply aa;exact rfl;exact rfl;intro w hm;exact hA w|apply df (f:=112);exact rfl;exact rfl;intro w' _;exact hsh w'|apply aQ;exact rfl;apply ai (j:=0);exact rfl;exact rfl;exact hpos|apply aQ;exact rfl;apply aP (xs:=ay r0);exact rfl;exact h0a;exact rfl|apply aQ;exact rfl;apply pV hc;exact rfl;exact rfl|refine sT ?_|refine sQ ?_|refine sN ?_|refine sNQ ?_|refine sO ?_|refine sOQ ?_|refine sD ?_|refine sM fun _=>?_|refine sC ?_ ?_<;>intro hb<;>try omega|refine sCQ ?_ ?_<;>intro hb<;>try omega|fail
  all_goals first|omega|(refine rT2 ?_);rfl
 |true=>
  repeat' first|apply aa;exact rfl;exact rfl;intro w hm;exact hA w|apply df (f:=112);exact rfl;exact rfl;intro w' _;exact hsh w'|apply aQ;exact rfl;apply ai (j:=0);exact rfl;exact rfl;exact hpos|apply aQ;exact rfl;apply aP (xs:=ay r0);exact rfl;exact h0a;exact rfl|apply aQ;exact rfl;apply pV hc;exact rfl;exact rfl|refine sT ?_|refine sQ ?_|refine sN ?_|refine sNQ ?_|refine sO ?_|refine sOQ ?_|refine sD ?_|refine sM fun _=>?_|refine sC ?_ ?_<;>intro hb<;>try omega|refine sCQ ?_ ?_<;>intro hb<;>try omega|fail
  all_goals try omega
  refine ax [1,6,37,38] rfl (fun i:Nat=> [(39,.int .i64 (i:Int))]) (fun _=> []) (fun i=>i≤L.length∧jG u L 0=jG u (L.drop i) (i:Int)) (fun i=>L.length - i) 0 ⟨Xn _,rfl⟩ sB mS ?_;rintro i ⟨hi,hrec⟩;by_cases hlt:i<L.length
  ·have he1:=hrl.elem dw i hlt;rw [XC hlt,jG,← has] at hrec;generalize L[i]=r at hrec he1;have hck:=fun w=>dQ r.rect w;repeat' (first|apply aa;exact rfl;exact rfl;intro w hm;exact hck w|apply ak;exact rfl;apply H8;exact rfl;exact rfl|apply ak;exact rfl;apply il (b:=sa);exact rfl;exact rfl|apply ak;exact rfl;apply m4 (b:=0#64);exact rfl;exact rfl|refine zZO ?_|refine sM fun _=>?_|refine sC ?_ ?_<;>intro hb<;>try omega|fail)
   all_goals first
    |omega
    |(refine rT2 ?_);rw [if_neg (by decide),hrec,if_pos (qd hb)];done
    |(refine rT2 ?_);rw [if_neg (by decide),hrec,if_neg (kR ‹_›),if_pos hb];done
    |refine ⟨i+1,⟨hlt,by rw [hrec,if_neg (kR ‹_›),if_neg (fun h=>h hb)];rfl⟩,by omega,by exact sB,by exact sB,by exact mS⟩;done
  ·have e:i=L.length:=by omega
   subst e;rw [X0,jG] at hrec;rw [if_neg (by decide),hrec];repeat' (first|refine sT ?_|refine sM fun _=>?_|refine sC ?_ ?_<;>intro hb<;>try omega|fail)
   all_goals first|omega|(refine rT2 ?_);rfl
def oM (user:Int) (Z:List (Rf × BitVec 64)):List (Rf × Bool):=Z.map fun z=>(z.1,gD z.2 user)
def y4 (G:Gr) (r:Rct) (user:Int) (Z:List (Rf × BitVec 64)):List Rf:=P0 (oM user Z) (nX G r)
end Go.SL
