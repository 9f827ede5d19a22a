/-
  Lemmas and walks, put together: Vb Vm Vd Vh Vn Vp.
-/
import Derived.Test.YtoanpdoacdpgeaaGreatDoorKq27
set_option linter.unusedSimpArgs false
set_option linter.unusedVariables false
set_option maxRecDepth 20000
namespace Go.SL
open Go
def lf (b:Bk) (a:Rf) (u:Us) (rd:BitVec 64) (i:Nat):List Rv:=match b.grants[i]? with
 |some g=>if g.to≠0#64 then [⟨b.step - 1,⟨a,u.node⟩,u.fn,u.rect,(i:Int),rd⟩] else []
 |none=> []
def gx (b:Bk) (a:Rf) (rd:BitVec 64) (u:Us):List Rv:=if u.node<0 then [] else (mA u.fn u.rect b.rules b.grants).2.1.flatMap (lf b a u rd)
def mi (b:Bk) (G:Gr) (a:Rf):List Rv:=(eK G a).flatMap (gx b a (atE a b.rules).1.1)
def BM (b:Bk) (G:Gr):List Rv:=(bS G).flatMap (mi b G)
def grB (b:Bk):Gr:=(vv b.ents).1.getD []
def bH (b:Bk):List Rv:=BM b (grB b)
theorem KI {b:Bk} {a:Rf} {u:Us} {rd:BitVec 64} {i:Nat} {x:Rv} (h:x∈lf b a u rd i):i<b.grants.length∧x=⟨b.step - 1,⟨a,u.node⟩,u.fn,u.rect,(i:Int),rd⟩:=by
 unfold lf at h
 by_cases hi:i<b.grants.length
 ·
  rw [QQ hi] at h
  dsimp only at h
  split at h
  ·
   exact ⟨hi,RA.1 h⟩
  ·
   cases h
 ·
  rw [Sn (Nat.le_of_not_lt hi)] at h
  cases h
theorem KJ {b:Bk} {G:Gr} {x:Rv} (h:x∈BM b G): ∃ a∈bS G,∃ u∈eK G a,0≤u.node∧ ∃ i,i<b.grants.length∧x=⟨b.step - 1,⟨a,u.node⟩,u.fn,u.rect,(i:Int),(atE a b.rules).1.1⟩:=by
 obtain ⟨a,ha,h⟩:=RY.1 h
 obtain ⟨u,hu,h⟩:=RY.1 h
 unfold gx at h
 split at h
 ·
  cases h
 ·
  rename_i hn
  obtain ⟨i,_,h⟩:=RY.1 h
  obtain ⟨h1,h2⟩:=KI h
  exact ⟨a,ha,u,hu,by omega,i,h1,h2⟩
theorem Ni {L:List Et} (h:(df L).2=0): ∃ G,vv L=(some G,0)∧GrOk G∧G.length≤L.length:=by
 rcases KA L with ⟨e,he,h2⟩|h2
 ·
  rw [F8,if_neg (by rw [h];decide)] at h2
  exact absurd (congrArg Prod.fst h2) (by simp)
 ·
  exact h2
theorem zm {b:Bk} (h:BkOk b):vv b.ents=(some (grB b),0)∧GrOk (grB b)∧(grB b).length≤b.ents.length:=by
 obtain ⟨G,h1,h2,h3⟩:=Ni h.e
 have:grB b=G:=by unfold grB;rw [h1];rfl
 rw [this];exact ⟨h1,h2,h3⟩
theorem sm: ∀ (L:List Nd) (i:Nat),∀ u∈bL L i,u.node<((i+L.length:Nat):Int)
 | [],_,u,h=>by cases h
 |n::r,i,u,h=>by
  have ih:=sm r (i+1) u
  rw [bL] at h
  have h2:u=jJ n i r∨u∈bL r (i+1):=by
   cases hr:fw n with
   |false=>rw [hr,cond_false] at h;exact .inr h
   |true=>rw [hr,cond_true] at h;exact Rd.1 h
  rw [Rp]
  rcases h2 with rfl|h2
  ·
   rcases jZ n i r with h3|⟨h3,m,hm,_⟩
   ·
    omega
   ·
    have:=List.length_pos_of_mem hm
    omega
  ·
   have:=ih h2
   omega
theorem M5 {u:Int} {L:List Rl} (hL:(dX u L).2=0) {a:Rf} (ha:a.valid=true):WiU u (atE a L).1.1:=qX.2 fun i hi=>by
 rw [(LS (zE hL) ha).1] at hi
 unfold vK at hi
 cases hx:L[gy L a]? with
 |none=>rw [hx] at hi;simp at hi
 |some x=>
  rw [hx] at hi
  have h2:=((qL.1 hL).2.2.2.2 x (SQ hx)).2
  exact qX.1 (zW.1 (zW.1 h2).1).1 i hi
theorem KO {b:Bk} (h:BkOk b) {x:Rv} (hx:x∈bH b):x.step=b.step - 1∧ ∀ last,last≤b.step - 1→jb (cM b.users).1 last x=0:=by
 obtain ⟨hn,hG,_⟩:=zm h
 obtain ⟨a,ha,u,hu,hp,i,hi,rfl⟩:=KJ hx
 refine ⟨rfl,fun last hl=> ?_⟩
 have hc:=GW hG hu hp
 have hr:=Du hG hu
 have hro:aD u.rect=true:=by
  cases hq:aD u.rect with
  |true=>rfl
  |false=>exact absurd hr (rG.1 hq)
 have hnd:u.node<256:=by
  obtain ⟨e,he,h1,h2⟩:=uD hu
  have hk:=hG.ent e he
  rw [← h2,hk.uses] at hu
  have h3:=sm _ _ u hu
  have h4:=hk.len
  omega
 have hg:=(iR.1 h.g).2.1
 have hw:=M5 h.r (rP hG ha)
 unfold jb
 dsimp only
 rw [if_neg (by omega),if_neg (by rw [rP hG ha,hro];decide),if_neg]
 have hok:DJ (cM b.users).1 ⟨b.step - 1,⟨a,u.node⟩,u.fn,u.rect,(i:Int),(atE a b.rules).1.1⟩=true:=by
  simp only [DJ,QZ,decide_eq_true_eq]
  exact ⟨⟨⟨⟨⟨⟨hp,hnd⟩,hc.1⟩,hc.2.1⟩,by omega⟩,by omega⟩,hw⟩
 rw [hok];decide
theorem uR {all:BitVec 64} {s:Int}: ∀ {M:List Rv} {last:Int},last≤s→(∀ x∈M,x.step=s∧ ∀ l,l≤s→jb all l x=0)→dR all last M=0
 | [],_,_,_=>rfl
 |x::M,last,hl,h=>by
  have h1:=h x QT
  rw [ik,if_neg (by rw [h1.2 last hl];decide)]
  exact uR (by rw [h1.1];exact Ss _) fun y hy=>h y (Rc _ hy)
theorem uQ {all:BitVec 64} {s:Int} {M:List Rv} (hM: ∀ x∈M,x.step=s∧ ∀ l,l≤s→jb all l x=0): ∀ {L:List Rv} {last:Int},dR all last L=0→last≤s→(∀ x∈L,x.step≤s)→dR all last (L++M)=0
 | [],last,_,hl,_=>uR hl hM
 |y::L,last,h1,_,h3=>by
  rw [ik] at h1
  rw [QR,ik]
  split at h1
  ·
   rename_i h;exact absurd h1 h
  ·
   rename_i h
   rw [if_neg h]
   exact uQ hM h1 (h3 y QT) fun z hz=>h3 z (Rc _ hz)
def mB (b:Bk) (M:List Rv):Bk:=⟨b.users,b.ents,b.rules,b.grants,b.log,b.rels++M,b.step⟩
theorem zV {b:Bk} (h:BkOk b) {M:List Rv} (hM: ∀ x∈M,x∈bH b):BkOk (mB b M):=by
 have h1:=mg.1 h.l
 have hst:=(od h1.2.2).1 h.lr
 have hs:=h.s
 have hM2: ∀ x∈M,x.step=b.step - 1∧ ∀ l,l≤b.step - 1→jb (cM b.users).1 l x=0:=fun x hx=>KO h (hM x hx)
 have hrv:dR (cM b.users).1 (-1) (b.rels++M)=0:=uQ hM2 h1.2.2 (by omega) fun x hx=>by have:=hst x hx;omega
 refine ⟨h.u,h.e,h.r,h.g,mg.2 ⟨h1.1,h1.2.1,hrv⟩,h.s,h.le,(od hrv).2 fun x hx=> ?_⟩
 show x.step<b.step
 rcases Rs.1 hx with hx|hx
 ·
  exact hst x hx
 ·
  have:=(hM2 x hx).1;omega
theorem xL (b:Bk) (M:List Rv):bH (mB b M)=bH b:=rfl
theorem lm {L M:List Rv} {x:Rv}:x∈dL L M↔x∈L∧abt x∉M.map abt:=by
 unfold dL
 rw [Tl]
 simp
def zx (b:Bk):Prop:= ∀ x∈bH b,abt x∈b.rels.map abt
theorem CA {b:Bk} (h:zx b):dL (bH b) b.rels= []:=by
 rw [List.eq_nil_iff_forall_not_mem]
 exact fun x hx=>(lm.1 hx).2 (h x (lm.1 hx).1)
def mZ (b:Bk):Bk:=mB b (dL (bH b) b.rels)
theorem M9 {b:Bk} (h:BkOk b):BkOk (mZ b):=zV h fun x hx=>(lm.1 hx).1
theorem Ku (b:Bk):zx (mZ b):=fun x hx=>by
 rw [mZ,xL] at hx
 show abt x∈(b.rels++dL (bH b) b.rels).map abt
 rw [RX,Rs]
 by_cases hm:abt x∈b.rels.map abt
 ·
  exact .inl hm
 ·
  exact .inr (RD.2 ⟨x,lm.2 ⟨hx,hm⟩,rfl⟩)
theorem HW {b:Bk} (h:zx b):mZ b=b:=by
 unfold mZ mB
 rw [CA h,QW]
def HV (b:Bk) (o:Ox):Bk:=mB (apE b o).1 (dL (bH (apE b o).1) (bH b))
theorem NT {b:Bk} {o:Ox} (h:BkOk b) (hs:b.step≠1099511627776):(apE b o).1.rels=b.rels∧(apE b o).1.step=b.step+1:=by
 unfold apE
 rw [if_neg (show ¬ (bkE b≠0) by rw [jW.2 h];decide),if_neg hs]
 split
 ·
  exact ⟨rfl,rfl⟩
 ·
  unfold tK
  split
  ·
   exact ⟨rfl,rfl⟩
  split
  ·
   exact ⟨rfl,rfl⟩
  split
  ·
   exact ⟨rfl,rfl⟩
  split
  ·
   exact ⟨rfl,rfl⟩
  ·
   exact ⟨rfl,rfl⟩
theorem Pj {b:Bk} {o:Ox} (h:BkOk b) (hs:b.step≠1099511627776) (hc:zx b):BkOk (HV b o)∧zx (HV b o)∧(HV b o).step=b.step+1:=by
 have ha:=(LU (o:=o) h hs).1
 obtain ⟨hr,ht⟩:=NT (o:=o) h hs
 refine ⟨zV ha fun x hx=>(lm.1 hx).1,fun x hx=> ?_,ht⟩
 rw [HV,xL] at hx
 show abt x∈((apE b o).1.rels++dL (bH (apE b o).1) (bH b)).map abt
 rw [RX,Rs,hr]
 by_cases hm:abt x∈(bH b).map abt
 ·
  obtain ⟨y,hy,he⟩:=RD.1 hm
  exact .inl (he ▸ hc y hy)
 ·
  exact .inr (RD.2 ⟨x,lm.2 ⟨hx,hm⟩,rfl⟩)
theorem IP {b:Bk} (h:BkOk b) (hc:zx b) {x:Rv} (hx:x∈bH b): ∃ y∈b.rels,abt x=abt y∧y.step<b.step:=by
 obtain ⟨y,hy,he⟩:=RD.1 (hc x hx)
 exact ⟨y,hy,he.symm,(od (mg.1 h.l).2.2).1 h.lr y hy⟩
def AW (fn:Int) (r:Rct) (L:List Rl):List Gn→Nat→List Nat
 | [],_=> []
 |g::G,i=>bif M3 fn r L g then i::AW fn r L G (i+1) else AW fn r L G (i+1)
theorem uW {fn:Int} {r:Rct} {L:List Rl}: ∀ (G:List Gn) (i:Nat),(dB fn r L G i).map (fun x=>x.1)=AW fn r L G i
 | [],_=>rfl
 |g::G,i=>by
  have h:xC fn r L g=M3 fn r L g:=by unfold xC M3 BN;rw [Ph]
  rw [dB,AW,h]
  cases M3 fn r L g
  ·
   exact uW G (i+1)
  ·
   exact congrArg (i:: ·) (uW G (i+1))
def byC (fn:Int) (r:Rct) (L:List Rl) (G:List Gn):List Nat:=
 if fn<46∨50<fn then [] else if dh r≠0 then [] else if (dX 64 L).2≠0 then [] else if (jS 64 G).2≠0 then [] else AW fn r L G 0
theorem PK {fn:Int} {r:Rct} {L:List Rl} {G:List Gn}:(mA fn r L G).2.1=byC fn r L G:=by
 unfold mA byC
 rw [uW]
 repeat' split
 all_goals rfl
def lvC (b:Bk) (G:Gr):List Rv:=(bS G).flatMap fun a=>(eK G a).flatMap fun u=>if u.node<0 then [] else (byC u.fn u.rect b.rules b.grants).flatMap (lf b a u (atE a b.rules).1.1)
theorem Py (b:Bk) (G:Gr):BM b G=lvC b G:=by
 have h: ∀ a,gx b a (atE a b.rules).1.1=fun u=>if u.node<0 then [] else (byC u.fn u.rect b.rules b.grants).flatMap (lf b a u (atE a b.rules).1.1):=fun a=>funext fun u=>by unfold gx;rw [PK]
 unfold BM lvC mi
 simp only [h]
theorem Nl {b:Bk} {G:Gr} {e:Int} {l:List Rv} (h:vv b.ents=(some G,e)) (h2:lvC b G=l):bH b=l:=by
 unfold bH grB
 rw [h,← h2,← Py]
 rfl
def Qo:Gn:=⟨⟨2,1,2,3⟩,1,2#64,0,false⟩
def nI:Bk:=⟨3,xT,bkR,[Qo],[],[],1⟩
def zr:Rv:=⟨0,⟨⟨1,3⟩,1⟩,46,⟨2,1,2,3⟩,0,7#64⟩
set_option maxRecDepth 100000 in
theorem Le:bkE nI=0:=by decide+kernel
set_option maxRecDepth 100000 in
theorem IC:bH nI= [zr]:=Nl Lb (by decide+kernel)
end Go.SL
namespace Go.SL
open Go Go.Proofs
attribute [local irreducible] W WL WQ WG WA WX WLI WR WT WC WE VOp RW thn blk bE scp aV bo bI aK FnIn FnP ceP
theorem iF {α β:Type} {f:α→List β} {m:Nat}: ∀ {l:List α},(∀ x∈l,(f x).length≤m)→(l.flatMap f).length≤l.length*m
 | [],_=>QX _
 |a::l,h=>by
  have h1:=h a QT
  have h2:=iF (l:=l) (m:=m) (f:=f) fun x hx=>h x (Rc _ hx)
  rw [Rj,QP,Rp,Nat.succ_mul]
  omega
theorem AV (b:Bk) (a:Rf) (u:Us) (rd:BitVec 64) (i:Nat):(lf b a u rd i).length≤1:=by
 unfold lf
 split
 ·
  split<;>simp
 ·
  simp
theorem xQ (fn:Int) (r:Rct) (L:List Rl) (G:List Gn):(mA fn r L G).2.1.length≤G.length:=by
 have:=mP fn r L G 0
 unfold mA
 split
 ·
  exact QX _
 split
 ·
  exact QX _
 split
 ·
  exact QX _
 split
 ·
  exact QX _
 ·
  rw [RN];exact this
theorem pq (fn:Int) (r:Rct) (L:List Rl): ∀ (G:List Gn) (i:Nat),∀ x∈dB fn r L G i,x.1<i+G.length
 | [],_,x,h=>by cases h
 |g::G,i,x,h=>by
  rw [dB] at h
  rw [Rp]
  cases hq:xC fn r L g with
  |true=>
   rw [hq,cond_true] at h
   rcases Rd.1 h with rfl|h
   ·
    dsimp only;omega
   ·
    have:=pq fn r L G (i+1) x h;omega
  |false=>
   rw [hq,cond_false] at h
   have:=pq fn r L G (i+1) x h;omega
theorem K7 {fn:Int} {r:Rct} {L:List Rl} {G:List Gn}: ∀ i∈(mA fn r L G).2.1,i<G.length:=by
 intro i hi
 unfold mA at hi
 split at hi
 ·
  cases hi
 split at hi
 ·
  cases hi
 split at hi
 ·
  cases hi
 split at hi
 ·
  cases hi
 ·
  obtain ⟨x,hx,rfl⟩:=RD.1 hi
  have:=pq fn r L G 0 x hx
  omega
theorem xM (b:Bk) (a:Rf) (rd:BitVec 64) (u:Us) (hg:b.grants.length≤64):(gx b a rd u).length≤64:=by
 unfold gx
 split
 ·
  exact QX _
 ·
  have h1:=iF (l:=(mA u.fn u.rect b.rules b.grants).2.1) (f:=lf b a u rd) (m:=1) fun x _=>AV b a u rd x
  have h2:=xQ u.fn u.rect b.rules b.grants
  omega
theorem rL (b:Bk) (G:Gr) (hG:GrOk G) (a:Rf) (hg:b.grants.length≤64):(mi b G a).length≤64000:=by
 have h1:=iF (l:=eK G a) (f:=gx b a (atE a b.rules).1.1) (m:=64) fun u _=>xM b a _ u hg
 have h2:=uE hG a
 exact Rt h1 (Rt (SE 64 h2) (by decide))
structure Rdu (gg:Nat) (G:Gr) (B:List Blk) (w0:World):Prop where
 fm: ∀ H,MSub B H→FnIn Tryz.prog 123 [.pointer (some ⟨gg,0,none⟩)] w0 H fun v H' => ∃ A cap,v=sl A (bS G).length cap∧H' = .own A 50 2 (bS G).length cap ((bS G).flatMap bh)::H
 us: ∀ d H,MSub B H→FnIn Tryz.prog 125 [.pointer (some ⟨gg,0,none⟩),pE d] w0 H fun v H' => ∃ A cap,v=sl A (eK G d).length cap∧H' = .own A 159 6 (eK G d).length cap ((eK G d).flatMap fC)::H
theorem GOk.rdu {R:List Blk} {E:List En} {clock:Nat} {G:Gr} (h:GOk R E clock G) (hl:G.length≤900) (gg gm:Nat) (w0:World):Rdu gg G (gB gg gm (E.map En.m) clock++R) w0:=
 ⟨fun _ hs=>h.formulas_any gg gm hs w0 hl,fun d _ hs=>h.uses_any gg gm hs w0 d⟩
theorem zo {α β:Type} {F:α→List β} {L:List α} {i:Nat} (h:i<L.length):(L.take (i+1)).flatMap F=(L.take i).flatMap F++F L[i]:=by
 rw [Rg h,Rm,Rj,RC,QW]
theorem ED {α β:Type} {F:α→List β} {L:List α} {m:Nat} (i:Nat) (h: ∀ a∈L,(F a).length≤m):((L.take i).flatMap F).length≤L.length*m:=
 Rt (iF fun x hx=>h x (Sj hx)) (SE m (by rw [Rq];exact Nat.min_le_right _ _))
section
variable {P:Program} {w0:World} {s:az} {H:List Blk} {ty:TypeId}
theorem uw {c:Bool} {x y:Operand} {a b:BitVec 64} {t t' :TypeId} (h:decide (a≠b)=c) (hx:ev s x=some (vS a)) (hy:ev s y=some (vS b)):VOp P w0 s H (.binOp .neq t x y t') ty (.bool c):=by
 have h1:=gI (P:=P) (w0:=w0) (H:=H) (ty:=ty) (t:=t) (t' :=t') hx hy
 rwa [show (!decide (a=b))=c by rw [← h];simp] at h1
end
theorem M0 {b:Bk} {a:Rf} {u:Us} {rd:BitVec 64} {q:Nat} (h:q<b.grants.length) {c:Bool} (hc:decide (b.grants[q].to≠0#64)=c):lf b a u rd q=if c=true then [⟨b.step - 1,⟨a,u.node⟩,u.fn,u.rect,(q:Int),rd⟩] else []:=by
 unfold lf
 rw [QQ h]
 dsimp only
 subst hc
 simp only [decide_eq_true_eq]
theorem MS {s:Int} (h:0≤s∧s≤1099511627776):IntKind.i64.wrap (s - 1)=s - 1:=by rw [IntKind.wrap_i64];omega
set_option maxHeartbeats 32000000 in
theorem uU (b:Bk) (x:Bv) (w:World) (h:BRd w b x) (hbo:BkOk b) (hW:Words w) (hlen:b.ents.length≤900):
  aK Tryz.prog 79 [.agg (aW b x).toArray] w fun v H=> ∃ A cap,v=sl A (bH b).length cap∧H= [.own A 62 11 (bH b).length cap ((bH b).flatMap aO)]:=by
 obtain ⟨hgr,hGo,hGl⟩:=zm hbo
 have hN: ∀ (w' :World) (H:List Blk),Mem w w' H→aK Tryz.prog 122 [.slice x.ae b.ents.length x.ce] w' fun v H=> ∃ gg gm E clock R,v= .tuple #[.pointer (some ⟨gg,0,none⟩),.int .i64 0]∧H=gB gg gm (E.map En.m) clock++R∧GOk R E clock (grB b):=by
  intro w' H hm
  have h1:=PT b.ents _ w' (h.e.of_w0 hm) (by omega) (hW.next hm)
  rw [hgr] at h1
  exact h1
 have hAt:=fun (a:Rf) (w' :World) (H:List Blk) (hm:Mem w w' H)=>Oi a b.rules _ w' (h.r.of_w0 hm)
 have hg64:=(iR.1 hbo.g).2.1
 have hFo:=fun (u:Us) (w' :World) (H:List Blk) (hm:Mem w w' H)=>PU u.fn u.rect b.rules b.grants _ _ w' (h.r.of_w0 hm) (h.g.of_w0 hm) (by omega)
 have hst:=MS ⟨(wC (show ¬ bkE b≠0 by rw [jW.2 hbo];decide)).1,(wC (show ¬ bkE b≠0 by rw [jW.2 hbo];decide)).2.1⟩
 have hcl:=fun a=>rL b (grB b) hGo a hg64
 have hul:=fun a rd u=>xM b a rd u hg64
 have hg:=h.g
 have hUl:=fun a=>uE hGo a
 unfold bH BM
 have hlc: ∀ a,mi b (grB b) a=(eK (grB b) a).flatMap (gx b a (atE a b.rules).1.1):=fun _=>rfl
 have hkl:(bS (grB b)).length≤900:=by rw [bS,RN];omega
 generalize grB b=G at hN hGl hcl hUl hlc hkl hGo ⊢
 have hpl:=fun i=>ED (F:=mi b G) (L:=bS G) i fun a _=>hcl a
 refine aq Tryz.func79 rfl Tryz.ntmps79 rfl ?_
 refine aH 62 11 ?_
 repeat' (first|(apply aA (f:=122);exact rfl;exact rfl;(intro w' hm;exact hN w' _ hm);rintro _ _ ⟨gg,gm,E,clock,Rb,rfl,rfl,hA⟩)|refine sT ?_|refine sS ?_|refine sM fun _=> ?_|(refine sC ?_ ?_<;>intro hb<;>try omega)|fail)
 all_goals try (exfalso;omega)
 rename_i g1
 have hR:=hA.rdu (by omega) gg gm w
 refine Mk (.box g1 28 (aW b x):: .own none 62 11 0 0 []::(gB gg gm (E.map En.m) clock++Rb)) (by first|exact MSub.of_perm (R0 (l₂:= [_,_]))|(simp only [Re,QR,QU];exact mS)) ?_
 generalize gB gg gm (E.map En.m) clock++Rb=B at hR ⊢
 have hFm:=hR.fm
 have hUs:=hR.us
 clear hR hA hN
 repeat' (first|(apply aw (f:=123);exact rfl;exact rfl;exact hFm _ mS;rintro _ _ ⟨Ac,cap,rfl,rfl⟩)|refine sT ?_|refine sS ?_|refine sM fun _=> ?_|(refine sC ?_ ?_<;>intro hb<;>try omega)|fail)
 all_goals try (exfalso;omega)
 clear hFm
 refine ax [1,3,24,25] rfl (fun y:Nat × Option Nat × Nat=> [(5,sl y.2.1 (((bS G).take y.1).flatMap (mi b G)).length y.2.2),(26,.int .i64 (y.1:Int))]) (fun y=> .own y.2.1 62 11 (((bS G).take y.1).flatMap (mi b G)).length y.2.2 ((((bS G).take y.1).flatMap (mi b G)).flatMap aO):: .own Ac 50 2 (bS G).length cap ((bS G).flatMap bh):: .box g1 28 (aW b x)::B) (fun y=>y.1≤(bS G).length) (fun y=>(bS G).length - y.1) (0,none,0) (QX _) sB mS ?_
 rintro ⟨i,A,c⟩ hi
 dsimp only at hi ⊢
 by_cases hlt:i<(bS G).length
 ·
  refine eH (A:=Ac) pK (by omega) fun gc hAc=> ?_
  subst hAc
  have hread:=QH hlt
  have hnx:=zo (F:=mi b G) hlt
  have hpl:=hpl i
  have hav:=rP hGo (RQ hlt)
  rw [hlc] at hnx
  generalize (bS G)[i]=a at hread hnx hav
  generalize ((bS G).take i).flatMap (mi b G)=X at hnx hpl ⊢
  have hAt:=hAt a
  rw [(LS (zE hbo.r) hav).2] at hAt
  have hUs:=hUs a
  have hUl:=hUl a
  have hul:=hul a (atE a b.rules).1.1
  generalize (atE a b.rules).1.1=rd at hAt hnx hul
  generalize (atE a b.rules).1.2.1=wr at hAt
  generalize (atE a b.rules).1.2.2=ow at hAt
  clear hlc
  generalize eK G a=U at hUs hUl hnx
  have hpu:=fun k=>ED (F:=gx b a rd) (L:=U) k fun u _=>hul u
  have hxl:X.length≤57600000:=Rt hpl (SE 64000 hkl)
  have hpu2: ∀ k,((U.take k).flatMap (gx b a rd)).length≤64000:=fun k=>Rt (hpu k) (SE 64 hUl)
  repeat' (first|(apply ak (d:=28);exact rfl;apply aj (j:=i);exact rfl;exact rfl;exact hlt)|(apply ak (d:=29);exact rfl;apply aM (ys:=bh a);exact rfl;exact pK;exact hread;exact rfl)|(apply aa (f:=124);exact rfl;exact rfl;(intro w' hm;exact hAt w' _ hm))|(apply aw (f:=125);exact rfl;exact rfl;exact hUs _ mS;rintro _ _ ⟨Au,cu,rfl,rfl⟩)|refine sT ?_|refine sS ?_|refine sN ?_|refine sM fun _=> ?_|(refine sC ?_ ?_<;>intro hb<;>try omega)|fail)
  all_goals try (exfalso;omega)
  rename_i g7 g8
  refine ax [1,3,24,25,26,7,8,39,40] rfl (fun y:Nat × Option Nat × Nat=> [(5,sl y.2.1 (X++(U.take y.1).flatMap (gx b a rd)).length y.2.2),(41,.int .i64 (y.1:Int))]) (fun y=> .own y.2.1 62 11 (X++(U.take y.1).flatMap (gx b a rd)).length y.2.2 ((X++(U.take y.1).flatMap (gx b a rd)).flatMap aO):: .own Au 159 6 U.length cu (U.flatMap fC):: .box g7 50 (bh a):: .box g8 35 [vS rd,vS wr,vS ow]:: .own (some gc) 50 2 (bS G).length cap ((bS G).flatMap bh):: .box g1 28 (aW b x)::B) (fun y=>y.1≤U.length) (fun y=>U.length - y.1) (0,A,c) (QX _) (by simp only [Su,RC,QW];exact sB) (by simp only [Su,RC,QW];exact mS) ?_
  clear hUs
  rintro ⟨k,A,c⟩ hk
  dsimp only at hk ⊢
  by_cases hlk:k<U.length
  ·
   refine eH (A:=Au) pK (by omega) fun gu hAu=> ?_
   subst hAu
   have hreadu:=Qm hlk
   have hnk:=zo (F:=gx b a rd) hlk
   have hpu2:=hpu2 k
   generalize U[k]=u at hreadu hnk
   have hnk2:X++(U.take (k+1)).flatMap (gx b a rd)=(X++(U.take k).flatMap (gx b a rd))++gx b a rd u:=by rw [hnk,Rx]
   have hyl:(X++(U.take k).flatMap (gx b a rd)).length≤57664000:=by rw [QP];omega
   generalize X++(U.take k).flatMap (gx b a rd)=Y at hnk2 hyl ⊢
   clear hnk
   have hFo:=hFo u
   have hby:=K7 (fn:=u.fn) (r:=u.rect) (L:=b.rules) (G:=b.grants)
   have hbl:=xQ u.fn u.rect b.rules b.grants
   rw [show gx b a rd u=if u.node<0 then [] else (mA u.fn u.rect b.rules b.grants).2.1.flatMap (lf b a u rd) from rfl] at hnk2
   by_cases hng:u.node<0
   ·
    rw [if_pos hng,QW] at hnk2
    repeat' (first|(apply ak (d:=43);exact rfl;apply aj (j:=k);exact rfl;exact rfl;exact hlk)|(apply ak (d:=44);exact rfl;apply aM (ys:=fC u);exact rfl;exact pK;exact hreadu;exact rfl)|refine sT ?_|refine sS ?_|refine sN ?_|refine sM fun _=> ?_|(refine sC ?_ ?_<;>intro hb<;>try omega)|fail)
    all_goals first
     |(exfalso;omega)
     |(refine ⟨(k+1,A,c),hlk,by dsimp only;omega,by simp only [hnk2];exact sB,by exact sB,by simp only [hnk2];exact mS⟩;done)
   rw [if_neg hng] at hnk2
   generalize (mA u.fn u.rect b.rules b.grants).2.1=BY at hFo hnk2 hby hbl
   generalize (mA u.fn u.rect b.rules b.grants).1=f1 at hFo
   generalize (mA u.fn u.rect b.rules b.grants).2.2=f3 at hFo
   have hpb:=fun j=>ED (F:=lf b a u rd) (L:=BY) (m:=1) j fun q _=>AV b a u rd q
   repeat' (first|(apply ak (d:=43);exact rfl;apply aj (j:=k);exact rfl;exact rfl;exact hlk)|(apply ak (d:=44);exact rfl;apply aM (ys:=fC u);exact rfl;exact pK;exact hreadu;exact rfl)|(apply aA (f:=126);exact rfl;exact rfl;(intro w' hm;exact hFo w' _ hm);rintro _ _ ⟨Ab,cb,rfl,rfl⟩)|refine sT ?_|refine sS ?_|refine sN ?_|refine sM fun _=> ?_|(refine sC ?_ ?_<;>intro hb<;>try omega)|fail)
   all_goals try (exfalso;omega)
   rename_i g11
   refine ax [1,3,24,25,26,7,8,39,40,41,11,61,62] rfl (fun y:Nat × Option Nat × Nat=> [(5,sl y.2.1 (Y++(BY.take y.1).flatMap (lf b a u rd)).length y.2.2),(63,.int .i64 (y.1:Int))]) (fun y=> .own y.2.1 62 11 (Y++(BY.take y.1).flatMap (lf b a u rd)).length y.2.2 ((Y++(BY.take y.1).flatMap (lf b a u rd)).flatMap aO):: .own Ab 3 1 BY.length cb (lA BY):: .box g11 159 (fC u):: .own (some gu) 159 6 U.length cu (U.flatMap fC):: .box g7 50 (bh a):: .box g8 35 [vS rd,vS wr,vS ow]:: .own (some gc) 50 2 (bS G).length cap ((bS G).flatMap bh):: .box g1 28 (aW b x)::B) (fun y=>y.1≤BY.length) (fun y=>BY.length - y.1) (0,A,c) (QX _) (by simp only [Su,RC,QW];exact sB) (by simp only [Su,RC,QW];exact mS) ?_
   rintro ⟨j,A,c⟩ hj
   dsimp only at hj ⊢
   by_cases hlj:j<BY.length
   ·
    refine eH (A:=Ab) pK (by omega) fun gb hAb=> ?_
    subst hAb
    have hreadb:=Ir hlj
    have hnj:=zo (F:=lf b a u rd) hlj
    have hpb:=hpb j
    have hql:=hby BY[j] (RQ hlj)
    generalize BY[j]=q at hreadb hnj hql
    obtain ⟨An,cn,hgv,hg1,hg2,hg3⟩:=hg
    obtain ⟨gn,on,rfl,hrn⟩:=hg3 (by omega)
    have hto:=(Gn.ro (hrn.elem cX q hql)).2.2.1
    obtain ⟨cc,hcc⟩: ∃ cc,decide (b.grants[q].to≠0#64)=cc:=⟨_,rfl⟩
    rw [M0 hql hcc] at hnj
    have hnj2:Y++(BY.take (j+1)).flatMap (lf b a u rd)=(Y++(BY.take j).flatMap (lf b a u rd))++(if cc=true then [⟨b.step - 1,⟨a,u.node⟩,u.fn,u.rect,(q:Int),rd⟩] else []):=by rw [hnj,Rx]
    have hzl:(Y++(BY.take j).flatMap (lf b a u rd)).length≤57664100:=by rw [QP];omega
    generalize Y++(BY.take j).flatMap (lf b a u rd)=Z at hnj2 hzl ⊢
    clear hnj
    generalize b.grants[q].to=to_ at hto hcc
    cases cc with
    |false=>
     rw [if_neg (by decide),QW] at hnj2
     repeat' (first|(apply ak (d:=65);exact rfl;apply aj (j:=j);exact rfl;exact rfl;exact hlj)|(apply ak (d:=66);exact rfl;apply bQ;exact rfl;exact pK;first|exact hreadb|(rw [show 0+j*1=j by omega];exact hreadb))|(apply ak (d:=70);exact rfl;apply aj (j:=q);first|exact rfl|exact congrArg some hgv;exact rfl;exact hql)|(apply ak (d:=72);exact rfl;apply eU;exact rfl;exact hto)|(apply ak (d:=73);exact rfl;apply uw hcc;exact rfl;exact rfl)|refine sT ?_|refine sS ?_|refine sN ?_|refine sM fun _=> ?_|(refine sC ?_ ?_<;>intro hb<;>try omega)|fail)
     all_goals first
      |(exfalso;omega)
      |(refine ⟨(j+1,A,c),hlj,by dsimp only;omega,by simp only [hnj2];exact sB,by exact sB,by simp only [hnj2];exact mS⟩;done)
    |true=>
     rw [if_pos rfl] at hnj2
     repeat' (first|(apply ak (d:=65);exact rfl;apply aj (j:=j);exact rfl;exact rfl;exact hlj)|(apply ak (d:=66);exact rfl;apply bQ;exact rfl;exact pK;first|exact hreadb|(rw [show 0+j*1=j by omega];exact hreadb))|(apply ak (d:=70);exact rfl;apply aj (j:=q);first|exact rfl|exact congrArg some hgv;exact rfl;exact hql)|(apply ak (d:=72);exact rfl;apply eU;exact rfl;exact hto)|(apply ak (d:=73);exact rfl;apply uw hcc;exact rfl;exact rfl)|(apply ak (d:=77);exact rfl;apply xd (c:=b.step - 1);exact rfl;exact rfl;exact hst)|(apply bR (d:=91) (A:=A) (m:=1);(iterate 3 exact rfl);exact pK;(intro w hm;exact hm.cells_own pK);exact rfl;(intro u hu;simp [aO] at hu;rcases hu with rfl|rfl|rfl|rfl|rfl|rfl|rfl|rfl|rfl|rfl|rfl<;>rfl);omega;(simp only [maxLen];omega);(intro A' cap' hA'))|refine sT ?_|refine sS ?_|refine sN ?_|refine sM fun _=> ?_|(refine sC ?_ ?_<;>intro hb<;>try omega)|fail)
     all_goals first
      |(exfalso;omega)
      |(refine ⟨(j+1,A',cap'),hlj,by dsimp only;omega,by simp only [hnj2,List.length_append,List.length_singleton];exact sB,by exact sB,by simp only [hnj2,List.length_append,List.length_singleton,List.flatMap_append,List.flatMap_cons,List.flatMap_nil,List.append_nil];exact mS⟩;done)
   ·
    have e:j=BY.length:=by omega
    subst e
    rw [Sc]
    repeat' (first|refine sT ?_|refine sS ?_|refine sN ?_|refine sM fun _=> ?_|(refine sC ?_ ?_<;>intro hb<;>try omega)|fail)
    all_goals first
     |(exfalso;omega)
     |(refine ⟨(k+1,A,c),hlk,by dsimp only;omega,by simp only [hnk2];exact sB,by exact sB,by simp only [hnk2];exact mS⟩;done)
  ·
   have e:k=U.length:=by omega
   subst e
   rw [Sc]
   repeat' (first|refine sT ?_|refine sS ?_|refine sN ?_|refine sM fun _=> ?_|(refine sC ?_ ?_<;>intro hb<;>try omega)|fail)
   all_goals first
    |(exfalso;omega)
    |(refine ⟨(i+1,A,c),hlt,by dsimp only;omega,by simp only [hnx];exact sB,by exact sB,by simp only [hnx];exact mS⟩;done)
 ·
  have e:i=(bS G).length:=by omega
  subst e
  rw [Sc]
  repeat' (first|refine sT ?_|refine sS ?_|refine sM fun _=> ?_|(refine sC ?_ ?_<;>intro hb<;>try omega)|fail)
  all_goals first
   |(exfalso;omega)
   |(refine cH eIO rfl rfl mS ⟨A,c,rfl,rfl⟩;done)
theorem vG {b:Bk} (hbo:BkOk b) (hlen:b.ents.length≤900):(bH b).length≤57600000:=by
 obtain ⟨_,hGo,hGl⟩:=zm hbo
 have h1:=iF (l:=bS (grB b)) (f:=mi b (grB b)) (m:=64000) fun a _=>rL b (grB b) hGo a (iR.1 hbo.g).2.1
 have h2:(bS (grB b)).length≤900:=by rw [bS,RN];omega
 exact Rt h1 (SE 64000 h2)
def lvE (b:Bk):List Rv × Int:=if bkE b≠0 then ([],bkE b) else (bH b,0)
def frE (b c:Bk):List Rv × Int:=if bkE b≠0 then ([],bkE b) else if bkE c≠0 then ([],bkE c) else (dL (bH c) (bH b),0)
def cvE (b:Bk):Bool × Int:=if bkE b≠0 then (false,bkE b) else (decide (dL (bH b) b.rels= []),0)
def onE (b:Bk):Bk × Int:=if bkE b≠0 then (qU,bkE b) else (mZ b,0)
theorem mf {b:Bk} (h: ¬ bkE b≠0):BkOk b:=jW.1 (Decidable.not_not.1 h)
theorem Nh {L:List Rv}:decide ((L.length:Int)=0)=decide (L= []):=by
 cases L with
 |nil=>rfl
 |cons a l=>
  rw [decide_eq_false (by rw [Rp];omega),decide_eq_false (by simp)]
section
variable {P:Program} {w0:World} {s:az} {H:List Blk} {ty:TypeId}
theorem OW {x y:Operand} {a b:Int} {c:Bool} {t t' :TypeId} (hx:ev s x=some (.int .i64 a)) (hy:ev s y=some (.int .i64 b)) (h:decide (a=b)=c):VOp P w0 s H (.binOp .eql t x y t') ty (.bool c):=h ▸ JK hx hy
end
theorem Ga {b:Bk} (hlen:b.ents.length≤900):(lvE b).1.length≤57600000:=by
 unfold lvE
 split
 ·
  exact QX _
 ·
  rename_i h;exact vG (mf h) hlen
set_option maxHeartbeats 8000000 in
theorem qN (b:Bk) (x:Bv) (w:World) (h:BRd w b x) (hW:Words w) (hlen:b.ents.length≤900):aK Tryz.prog 21 [.agg (aW b x).toArray] w fun v H=> ∃ A cap,v= .tuple #[sl A (lvE b).1.length cap,.int .i64 (lvE b).2]∧H= [.own A 62 11 (lvE b).1.length cap ((lvE b).1.flatMap aO)]:=by
 refine aq Tryz.func21 rfl Tryz.ntmps21 rfl ?_
 have hC:=fun (w' :World) (H:List Blk) (hm:Mem w w' H)=>iJ b x w' (h.of_w0 hm) (hW.next hm) (by omega)
 unfold lvE
 by_cases hbe:bkE b≠0
 ·
  rw [if_pos hbe]
  refine aH 62 11 ?_
  repeat' (first|(apply aa (f:=15);exact rfl;exact rfl;(intro w' hm;exact hC w' _ hm))|refine sT ?_|refine sS ?_|refine sM fun _=> ?_|(refine sC ?_ ?_<;>intro hb<;>try omega)|fail)
  all_goals first
   |(exfalso;omega)
   |(exact eY eIO rfl rfl rfl (H' := [.own none 62 11 0 0 []]) mS ⟨none,0,rfl,rfl⟩)
 rw [if_neg hbe]
 have hV:=fun (w' :World) (H:List Blk) (hm:Mem w w' H)=>uU b x w' (h.of_w0 hm) (mf hbe) (hW.next hm) hlen
 rw [show bkE b=0 by omega] at hC
 generalize bH b=V at hV ⊢
 repeat' (first|(apply aa (f:=15);exact rfl;exact rfl;(intro w' hm;exact hC w' _ hm))|(apply aA (f:=79);exact rfl;exact rfl;(intro w' hm;exact hV w' _ hm);rintro _ _ ⟨A,c,rfl,rfl⟩)|refine sT ?_|refine sS ?_|refine sM fun _=> ?_|(refine sC ?_ ?_<;>intro hb<;>try omega)|fail)
 all_goals first
  |(exfalso;omega)
  |(exact eY eIO rfl rfl rfl (H' := [.own A 62 11 V.length c (V.flatMap aO)]) mS ⟨A,c,rfl,rfl⟩)
theorem Eo {b:Bk} (h: ¬ bkE b≠0):lvE b=(bH b,0):=by unfold lvE;rw [if_neg h]
theorem KK {b:Bk} (h:bkE b≠0):lvE b=([],bkE b):=by unfold lvE;rw [if_pos h]
set_option maxHeartbeats 8000000 in
theorem I9 (b c:Bk) (x y:Bv) (w:World) (h:BRd w b x) (k:BRd w c y) (hW:Words w) (hlen:b.ents.length≤900) (hlen2:c.ents.length≤900):aK Tryz.prog 24 [.agg (aW b x).toArray,.agg (aW c y).toArray] w fun v H=> ∃ A cap,v= .tuple #[sl A (frE b c).1.length cap,.int .i64 (frE b c).2]∧H= [.own A 62 11 (frE b c).1.length cap ((frE b c).1.flatMap aO)]:=by
 refine aq Tryz.func24 rfl Tryz.ntmps24 rfl ?_
 have h1:=fun (w' :World) (H:List Blk) (hm:Mem w w' H)=>qN b x w' (h.of_w0 hm) (hW.next hm) hlen
 have h2:=fun (w' :World) (H:List Blk) (hm:Mem w w' H)=>qN c y w' (k.of_w0 hm) (hW.next hm) hlen2
 have hl1:=Ga hlen
 have hl2:=Ga hlen2
 unfold frE
 by_cases hbe:bkE b≠0
 ·
  rw [if_pos hbe]
  rw [KK hbe] at h1
  generalize bkE b=e at h1 hbe ⊢
  refine aH 62 11 ?_
  repeat' (first|(apply aA (d:=11);exact rfl;exact rfl;(intro w' hm;exact h1 w' _ hm);rintro _ _ ⟨A,c1,rfl,rfl⟩)|refine sT ?_|refine sS ?_|refine sM fun _=> ?_|(refine sC ?_ ?_<;>intro hb<;>try omega)|fail)
  all_goals first
   |(exfalso;omega)
   |(exact eY eIO rfl rfl rfl (H' := [.own none 62 11 0 0 []]) mS ⟨none,0,rfl,rfl⟩)
 rw [if_neg hbe]
 rw [Eo hbe] at h1 hl1
 generalize bH b=U at h1 hl1 ⊢
 by_cases hce:bkE c≠0
 ·
  rw [if_pos hce]
  rw [KK hce] at h2
  generalize bkE c=e at h2 hce ⊢
  refine aH 62 11 ?_
  repeat' (first|(apply aA (d:=11);exact rfl;exact rfl;(intro w' hm;exact h1 w' _ hm);rintro _ _ ⟨A,c1,rfl,rfl⟩)|(apply aA (d:=19);exact rfl;exact rfl;(intro w' hm;exact h2 w' _ hm);rintro _ _ ⟨A2,c2,rfl,rfl⟩)|refine sT ?_|refine sS ?_|refine sM fun _=> ?_|(refine sC ?_ ?_<;>intro hb<;>try omega)|fail)
  all_goals first
   |(exfalso;omega)
   |(exact eY eIO rfl rfl rfl (H' := [.own none 62 11 0 0 []]) mS ⟨none,0,rfl,rfl⟩)
 rw [if_neg hce]
 rw [Eo hce] at h2 hl2
 generalize bH c=V at h2 hl2 ⊢
 dsimp only at hl1 hl2
 have hM:=fun (lv mv:Value) (w' :World) (hl:Reads w' lv V.length (V.flatMap aO)) (hm:Reads w' mv U.length (U.flatMap aO))=>o6 V U lv mv w' hl hm (by omega)
 generalize dL V U=M at hM ⊢
 repeat' (first|(apply aA (d:=11);exact rfl;exact rfl;(intro w' hm;exact h1 w' _ hm);rintro _ _ ⟨A,c1,rfl,rfl⟩)|(apply aA (d:=19);exact rfl;exact rfl;(intro w' hm;exact h2 w' _ hm);rintro _ _ ⟨A2,c2,rfl,rfl⟩)|(apply aA (d:=27);exact rfl;exact rfl;(intro w' hm;exact hM _ _ w' (Reads.of_own hm pK) (Reads.of_own hm pK));rintro _ _ ⟨A3,c3,rfl,rfl⟩)|refine sT ?_|refine sS ?_|refine sM fun _=> ?_|(refine sC ?_ ?_<;>intro hb<;>try omega)|fail)
 all_goals first
  |(exfalso;omega)
  |(exact eY eIO rfl rfl rfl (H' := [.own A3 62 11 M.length c3 (M.flatMap aO)]) mS ⟨A3,c3,rfl,rfl⟩)
set_option maxHeartbeats 8000000 in
theorem CS (b:Bk) (x:Bv) (w:World) (h:BRd w b x) (hW:Words w) (hlen:b.ents.length≤900):ay Tryz.prog 26 [.agg (aW b x).toArray] w (.tuple #[.bool (cvE b).1,.int .i64 (cvE b).2]):=by
 refine aq Tryz.func26 rfl Tryz.ntmps26 rfl ?_
 have hC:=fun (w' :World) (H:List Blk) (hm:Mem w w' H)=>iJ b x w' (h.of_w0 hm) (hW.next hm) (by omega)
 have hs:=h.s
 unfold cvE
 by_cases hbe:bkE b≠0
 ·
  rw [if_pos hbe]
  repeat' (first|(apply aa (f:=15);exact rfl;exact rfl;(intro w' hm;exact hC w' _ hm))|refine sT ?_|refine sS ?_|refine sM fun _=> ?_|(refine sC ?_ ?_<;>intro hb<;>try omega)|fail)
  all_goals first|(exfalso;omega)|((refine rT2 ?_);rfl)
 rw [if_neg hbe]
 have hV:=fun (w' :World) (H:List Blk) (hm:Mem w w' H)=>uU b x w' (h.of_w0 hm) (mf hbe) (hW.next hm) hlen
 have hvl:=vG (mf hbe) hlen
 rw [show bkE b=0 by omega] at hC
 generalize bH b=V at hV hvl ⊢
 have hM:=fun (lv mv:Value) (w' :World) (hl:Reads w' lv V.length (V.flatMap aO)) (hm:Reads w' mv b.rels.length (b.rels.flatMap aO))=>o6 V b.rels lv mv w' hl hm (by omega)
 rw [← Nh]
 generalize dL V b.rels=M at hM ⊢
 obtain ⟨cc,hcc⟩: ∃ cc,decide ((M.length:Int)=0)=cc:=⟨_,rfl⟩
 rw [hcc]
 repeat' (first|(apply aa (f:=15);exact rfl;exact rfl;(intro w' hm;exact hC w' _ hm))|((refine iL (id:=4) [1,4] [] [.box _ 28 (aW b x)] (by kernel_rfl) (by kernel_rfl) (by kernel_rfl) mS ?_))|(apply aA (f:=79);exact rfl;exact rfl;(intro w' hm;exact hV w' _ hm);rintro _ _ ⟨A,c,rfl,rfl⟩)|(apply aA (f:=81);exact rfl;exact rfl;(intro w' hm;exact hM _ _ w' (Reads.of_own (A:=A) hm pK) (hs.of_w0 hm));rintro _ _ ⟨A3,c3,rfl,rfl⟩)|(apply da (d:=16);(iterate 3 exact rfl);apply OW;exact rfl;exact rfl;exact hcc)|refine sT ?_|refine sS ?_|refine sW ?_|refine sM fun _=> ?_|(refine sC ?_ ?_<;>intro hb<;>try omega)|(refine sCW ?_ ?_<;>intro hb<;>try omega)|fail)
 all_goals first|(exfalso;omega)|((refine rT2 ?_);rfl)
set_option maxHeartbeats 16000000 in
theorem CR (b:Bk) (x:Bv) (w:World) (h:BRd w b x) (hW:Words w) (hlen:b.ents.length≤900) (hsm:Small b):aK Tryz.prog 28 [.agg (aW b x).toArray] w fun v H=> ∃ a:Bo,v= .tuple #[.agg (aW (onE b).1 a.v).toArray,.int .i64 (onE b).2]∧H=aN (onE b).1 a:=by
 refine aq Tryz.func28 rfl Tryz.ntmps28 rfl ?_
 have hC:=fun (w' :World) (H:List Blk) (hm:Mem w w' H)=>iJ b x w' (h.of_w0 hm) (hW.next hm) (by omega)
 have hY:=fun (w' :World) (H:List Blk) (hm:Mem w w' H)=>ym b x w' (h.of_w0 hm) hsm
 have hs:=h.s
 have hsl:=hsm.s
 unfold onE
 by_cases hbe:bkE b≠0
 ·
  rw [if_pos hbe]
  clear hY
  refine aH 52 3 ?_
  refine aH 54 7 ?_
  refine aH 56 8 ?_
  refine aH 58 9 ?_
  refine aH 62 11 ?_
  generalize bkE b=e at hC hbe ⊢
  simp only [aW] at hC ⊢
  repeat' (first|(apply aa (f:=15);exact rfl;exact rfl;(intro w' hm;exact hC w' _ hm))|refine sT ?_|refine sS ?_|refine sM fun _=> ?_|(refine sC ?_ ?_<;>intro hb<;>try omega)|fail)
  all_goals first
   |(exfalso;omega)
   |(refine xA eIO rfl rfl pK rfl rfl (H' :=aN qU qR) (by unfold aN;exact mS) ⟨qR,rfl,rfl⟩;done)
 rw [if_neg hbe]
 have hV:=fun (w' :World) (H:List Blk) (hm:Mem w w' H)=>uU b x w' (h.of_w0 hm) (mf hbe) (hW.next hm) hlen
 have hvl:=vG (mf hbe) hlen
 rw [show bkE b=0 by omega] at hC
 unfold mZ mB
 have hml:=n9 (bH b) b.rels
 have hM:=fun (lv mv:Value) (w' :World) (hl:Reads w' lv (bH b).length ((bH b).flatMap aO)) (hm:Reads w' mv b.rels.length (b.rels.flatMap aO))=>o6 (bH b) b.rels lv mv w' hl hm (by omega)
 generalize dL (bH b) b.rels=M at hM hml ⊢
 generalize bH b=V at hV hM hvl hml
 have el1:(b.rels++M).length=b.rels.length+M.length:=QP
 have el2:(b.rels++M).flatMap aO=b.rels.flatMap aO++M.flatMap aO:=Rm
 simp only [aW,aN,el1,el2] at hC hY hV ⊢
 repeat' (first|(apply aa (f:=15);exact rfl;exact rfl;(intro w' hm;exact hC w' _ hm))|(apply aA (f:=20);exact rfl;exact rfl;(intro w' hm;exact hY w' _ hm);rintro _ _ ⟨a,rfl,rfl⟩)|refine sT ?_|refine sS ?_|refine sM fun _=> ?_|(refine sC ?_ ?_<;>intro hb<;>try omega)|fail)
 all_goals try (exfalso;omega)
 refine pV (id:=5) [1,3,6,7,9] [.box _ 28 (aW b x)] 10 rfl rfl (by simp only [aW];exact mS) ?_
 simp only [aW]
 repeat' (first|(apply du (i:=0);(iterate 4 exact rfl);decide+kernel;decide+kernel;decide+kernel;(exact vC))|(apply du (i:=2);(iterate 4 exact rfl);decide+kernel;decide+kernel;decide+kernel;(exact vC))|(apply du (i:=4);(iterate 4 exact rfl);decide+kernel;decide+kernel;decide+kernel;(exact vC))|(apply du (i:=5);(iterate 4 exact rfl);decide+kernel;decide+kernel;decide+kernel;(exact vC))|(apply du (i:=8);(iterate 4 exact rfl);decide+kernel;decide+kernel;decide+kernel;(exact vC))|(apply gZ (i:=1) (j:=3);(iterate 6 exact rfl);decide+kernel)|(apply gZ (i:=1) (j:=6);(iterate 6 exact rfl);decide+kernel)|(apply dw (i:=1);(iterate 3 exact rfl);decide+kernel)|(apply dw (i:=3);(iterate 3 exact rfl);decide+kernel)|(apply dw (i:=6);(iterate 3 exact rfl);decide+kernel)|(apply dw (i:=7);(iterate 3 exact rfl);decide+kernel)|(apply dw (i:=9);(iterate 3 exact rfl);decide+kernel)|(apply pS;decide+kernel)|(apply IY;(focus (exact mS;done)))|(apply aA (f:=79);exact rfl;exact rfl;(intro w' hm;exact hV w' _ hm);rintro _ _ ⟨A,c,rfl,rfl⟩)|(apply aA (f:=81);exact rfl;exact rfl;(intro w' hm;exact hM _ _ w' (Reads.of_own (A:=A) hm pK) (hs.of_w0 hm));rintro _ _ ⟨A3,c3,rfl,rfl⟩)|(apply dr (d:=21) (A:=a.s) (n' :=b.rels.length) (m:=M.length);(iterate 3 exact rfl);exact pK;(intro w hm;exact Reads.of_own (A:=A3) hm pK);exact aP cB M;exact pM M;omega;(simp only [maxLen];omega);intro A17 c17 h17)|refine sT ?_|refine sS ?_|refine sM fun _=> ?_|(refine sC ?_ ?_<;>intro hb<;>try omega)|fail)
 all_goals first
  |(exfalso;omega)
  |(refine xA eIO rfl rfl pK rfl rfl (H' := [.own a.e 52 3 b.ents.length a.ce (b.ents.flatMap aJ),.own a.r 54 7 b.rules.length a.cr (b.rules.flatMap bu),.own a.g 56 8 b.grants.length a.cg (b.grants.flatMap bn),.own a.l 58 9 b.log.length a.cl (b.log.flatMap bf),.own A17 62 11 (b.rels.length+M.length) c17 (b.rels.flatMap aO++M.flatMap aO)]) mS ⟨⟨a.e,a.r,a.g,a.l,A17,a.ce,a.cr,a.cg,a.cl,c17⟩,rfl,rfl⟩;done)
def EH:Bk:=⟨3,xT,bkR,[Qo],[],[],0⟩
set_option maxHeartbeats 8000000 in
theorem zJ (w:World):aK Tryz.prog 83 [] w fun v H=> ∃ a:Bo,v= .agg (aW EH a.v).toArray∧H=aN EH a:=by
 refine aq Tryz.func83 rfl Tryz.ntmps83 rfl ?_
 repeat' (first|(apply aA (f:=57);exact rfl;exact rfl;(intro w' hm;exact zL w');rintro _ _ ⟨⟨ae,ar,ag,al,as_,ce,cr,cg,cl,cs⟩,rfl,rfl⟩;unfold aN)|refine sT ?_|refine sS ?_|refine sM fun _=> ?_|(refine sC ?_ ?_<;>intro hb<;>try omega)|fail)
 refine yA (A:=ar) (xs:=ND.rules.flatMap bu) pK (by decide) fun gr hA=> ?_
 subst hA
 repeat' (first|(apply ak (d:=5);exact rfl;apply aj (j:=1);exact rfl;exact rfl;decide)|(apply ak (d:=7);exact rfl;apply Aa;exact rfl;exact pK;exact rfl;exact rfl)|refine sT ?_|refine sS ?_|refine sM fun _=> ?_|(refine sC ?_ ?_<;>intro hb<;>try omega)|fail)
 rename_i gn
 exact wQ eIO rfl rfl pK rfl (H' :=aN EH ⟨ae,some gr,some gn,al,as_,ce,cr,1,cl,cs⟩) (by unfold aN;exact mS) ⟨⟨ae,some gr,some gn,al,as_,ce,cr,1,cl,cs⟩,rfl,rfl⟩
set_option maxHeartbeats 8000000 in
theorem zl (w:World):aK Tryz.prog 31 [] w fun v H=> ∃ a:Bo,v= .agg (aW nI a.v).toArray∧H=aN nI a:=by
 refine aq Tryz.func31 rfl Tryz.ntmps31 rfl ?_
 repeat' (first|(apply aA (f:=83);exact rfl;exact rfl;(intro w' hm;exact zJ w');rintro _ _ ⟨a,rfl,rfl⟩;unfold aN)|refine sT ?_|refine sS ?_|refine sM fun _=> ?_|(refine sC ?_ ?_<;>intro hb<;>try omega)|fail)
 exact wQ eIO rfl rfl pK rfl (H' :=aN nI a) (by unfold aN;exact mS) ⟨a,rfl,rfl⟩
theorem EO (w:World):ay Tryz.prog 32 [] w (.agg (aO zr).toArray):=by
 refine aq Tryz.func32 rfl Tryz.ntmps32 rfl ?_
 repeat' (first|refine sT ?_|refine sM fun _=> ?_|(refine sC ?_ ?_<;>intro hb<;>try omega)|fail)
 (refine eRC ?_)
 rfl
theorem NE:lvE nI=([zr],0):=by
 unfold lvE
 rw [if_neg (by rw [Le];decide),IC]
theorem zH (L:List Rv) {lv mv:Value} {w:World} (hl:Reads w lv L.length (L.flatMap aO)) (hm:Reads w mv L.length (L.flatMap aO)):ay Tryz.prog 23 [lv,mv] w (.bool true):=by
 have:=CU L L lv mv w hl hm
 rwa [decide_eq_true rfl] at this
set_option maxHeartbeats 8000000 in
theorem E3 (w:World) (hW:Words w):ay Tryz.prog 30 [] w (.bool true):=by
 refine aq Tryz.func30 rfl Tryz.ntmps30 rfl ?_
 have hL:=fun (a:Bo) (w' :World) (H:List Blk) (hm:Mem w w' H) (hr:BRd w' nI a.v)=>NE ▸ qN nI a.v w' hr (hW.next hm) (by decide)
 repeat' (first|(apply aA (f:=31);exact rfl;exact rfl;(intro w' hm;exact zl w');rintro _ _ ⟨a,rfl,rfl⟩;unfold aN)|(apply aA (f:=21);exact rfl;exact rfl;(intro w' hm;exact hL a w' _ hm (BRd.of_rows hm pK pK pK pK pK));rintro _ _ ⟨A,c,rfl,rfl⟩)|(apply aa;exact rfl;exact rfl;(intro w hm;exact EO w))|(apply aa (f:=23);exact rfl;exact rfl;(intro w' hm;exact zH [zr] (Reads.of_own (A:=A) hm pK) (Reads.of_own (A:=some _) hm pK)))|refine sT ?_|refine sS ?_|refine sM fun _=> ?_|(refine sC ?_ ?_<;>intro hb<;>try omega)|fail)
 all_goals first|(exfalso;omega)|((refine rT1 ?_);rfl)
set_option maxHeartbeats 4000000 in
theorem Hs (a b:Rv) (w:World):ay Tryz.prog 33 [.agg (aO a).toArray,.agg (aO b).toArray] w (.bool (decide (abt a=abt b))):=by
 refine aq Tryz.func33 rfl Tryz.ntmps33 rfl ?_
 rw [PO]
 obtain ⟨c1,h1⟩: ∃ c,pJ a.call b.call=c:=⟨_,rfl⟩
 obtain ⟨c2,h2⟩: ∃ c,decide (a.fn=b.fn)=c:=⟨_,rfl⟩
 obtain ⟨c3,h3⟩: ∃ c,decide (a.rect=b.rect)=c:=⟨_,rfl⟩
 obtain ⟨c4,h4⟩: ∃ c,decide (a.grant=b.grant)=c:=⟨_,rfl⟩
 rw [h1,h2,h3,h4]
 repeat' (first|(apply ak;exact rfl;apply Dq h1;exact rfl;exact rfl)|(apply ak;exact rfl;apply rj h3;exact rfl;exact rfl)|(apply ak (d:=15);exact rfl;apply xj (k:= .u8) h2;exact rfl;exact rfl)|(apply ak (d:=29);exact rfl;apply xj (k:= .i64) h4;exact rfl;exact rfl)|refine sT ?_|refine sS ?_|refine sM fun _=> ?_|(refine sC ?_ ?_<;>intro hb<;>try omega)|fail)
 all_goals first|(exfalso;omega)|((refine rT1 ?_);simp [*];done)|((refine rT1 ?_);rfl)
theorem rK {b:Bk} (hbo:BkOk b) {m:Nat} (hlen:b.ents.length≤m):(bH b).length≤m*64000:=by
 obtain ⟨_,hGo,hGl⟩:=zm hbo
 have h1:=iF (l:=bS (grB b)) (f:=mi b (grB b)) (m:=64000) fun a _=>rL b (grB b) hGo a (iR.1 hbo.g).2.1
 have h2:(bS (grB b)).length≤m:=by rw [bS,RN];omega
 exact Rt h1 (SE 64000 h2)
structure LenV (b:Bk) (i:Nat):Prop where
 e:b.ents.length≤70+i
 r:b.rules.length≤70+i
 g:b.grants.length≤70+i
 l:b.log.length≤70+i
 s:b.rels.length≤60+(i+1)*6400000
theorem LenV.small {b:Bk} {i:Nat} (h:LenV b i) (hi:i≤12):Small b:=by
 have h1:=h.e;have h2:=h.r;have h3:=h.g;have h4:=h.l;have h5:=h.s
 exact ⟨by omega,by omega,by omega,by omega,by omega⟩
theorem LenV.next {b:Bk} {i:Nat} (h:LenV b i) (hi:i≤12) (hbo:BkOk b) (hs:b.step≠1099511627776) (o:Ox):LenV (HV b o) (i+1):=by
 have h1:=LV (b:=b) (o:=o)
 obtain ⟨h2,h3,h4,h5⟩:=NU (b:=b) (o:=o)
 have he:=h.e;have hr:=h.r;have hg:=h.g;have hl:=h.l;have hss:=h.s
 have hv:=rK (LU (o:=o) hbo hs).1 (m:=100) (by omega)
 have hm:=n9 (bH (apE b o).1) (bH b)
 refine ⟨?_,?_,?_,?_,?_⟩
 ·
  show (apE b o).1.ents.length≤_;omega
 ·
  show (apE b o).1.rules.length≤_;omega
 ·
  show (apE b o).1.grants.length≤_;omega
 ·
  show (apE b o).1.log.length≤_;omega
 ·
  show ((apE b o).1.rels++dL (bH (apE b o).1) (bH b)).length≤_
  rw [QP];omega
theorem LenV.opn {b:Bk} (hbo:BkOk b) (h:rp b=true):LenV (mZ b) 0:=by
 have hsb:=xu h
 have hv:=rK hbo (m:=100) (by omega)
 have hm:=n9 (bH b) b.rels
 refine ⟨?_,?_,?_,?_,?_⟩
 ·
  show b.ents.length≤_;omega
 ·
  show b.rules.length≤_;omega
 ·
  show b.grants.length≤_;omega
 ·
  show b.log.length≤_;omega
 ·
  show (b.rels++dL (bH b) b.rels).length≤_
  rw [QP];omega
def Cc (x:Rv) (s:Int) (M:List Rv):Bool:=M.any fun y=>decide (abt x=abt y) && decide (y.step<s)
theorem K8 {x:Rv} {s:Int} {M:List Rv} {k:Nat} (h:k<M.length):Cc x s (M.take (k+1))=(Cc x s (M.take k)||(decide (abt x=abt M[k]) && decide (M[k].step<s))):=by
 unfold Cc
 rw [Rg h,List.any_append,List.any_cons,List.any_nil,Bool.or_false]
theorem Ny {b:Bk} (h:BkOk b) (hc:zx b) {x:Rv} (hx:x∈bH b):Cc x b.step b.rels=true:=by
 obtain ⟨y,hy,h1,h2⟩:=IP h hc hx
 exact List.any_eq_true.2 ⟨y,hy,by rw [decide_eq_true h1,decide_eq_true h2];rfl⟩
theorem PH {b:Bk} (h:BkOk b) (hc:zx b):cvE b=(true,0):=by
 unfold cvE
 rw [if_neg (by rw [jW.2 h];decide),decide_eq_true (CA hc)]
theorem Kx {b:Bk} (h:BkOk b):onE b=(mZ b,0):=by
 unfold onE
 rw [if_neg (by rw [jW.2 h];decide)]
theorem Ou {L:List Rv} {k:Nat} (h:k<L.length):((L.flatMap aO).drop (0+k*11)).take 11=aO L[k]:=by
 rw [RB];exact dG cB L k h
theorem EQ (x:Ox):(bO x).length=13:=rfl
set_option maxHeartbeats 32000000 in
theorem rX (b:Bk) (x:Bv) (L:List Ox) (lv:Value) (w:World) (h:BRd w b x) (hl:Reads w lv L.length (L.flatMap bO)) (hW:Words w):ay Tryz.prog 8 [.agg (aW b x).toArray,lv] w (.bool true):=by
 obtain ⟨Al,cl,rfl,hl1,hl2,hl3⟩:=hl
 refine aq Tryz.func8 rfl Tryz.ntmps8 rfl ?_
 have hS1:=fun (w' :World) (H:List Blk) (hm:Mem w w' H)=>E8 b x w' (h.of_w0 hm)
 have haw:=fun (w' :World) (H:List Blk) (hm:Mem w w' H)=>E3 w' (hW.next hm)
 cases hs1:rp b with
 |false=>
  rw [hs1] at hS1
  repeat' (first|(apply aa (d:=21);exact rfl;exact rfl;(intro w' hm;exact hS1 w' _ hm))|refine sT ?_|refine sS ?_|refine sM fun _=> ?_|(refine sC ?_ ?_<;>intro hb<;>try omega)|exact cT|fail)
  all_goals first|(exfalso;omega)|((refine rT1 ?_);rfl)
 |true=>
 rw [hs1] at hS1
 have hsb:=xu hs1
 have hK:=fun (w' :World) (H:List Blk) (hm:Mem w w' H)=>wU b x w' (h.of_w0 hm) (by omega)
 by_cases hbe:bkE b≠0
 ·
  repeat' (first|(apply aa (d:=21);exact rfl;exact rfl;(intro w' hm;exact hS1 w' _ hm))|(apply aa (d:=25);exact rfl;exact rfl;(intro w' hm;exact hK w' _ hm))|refine sT ?_|refine sS ?_|refine sM fun _=> ?_|(refine sC ?_ ?_<;>intro hb<;>try omega)|exact cT|fail)
  all_goals first|(exfalso;omega)|((refine rT1 ?_);rfl)
 rw [show bkE b=0 by omega] at hK
 have hbk:=mf hbe
 by_cases hL12:12<L.length
 ·
  repeat' (first|(apply aa (d:=21);exact rfl;exact rfl;(intro w' hm;exact hS1 w' _ hm))|(apply aa (d:=25);exact rfl;exact rfl;(intro w' hm;exact hK w' _ hm))|refine sT ?_|refine sS ?_|refine sM fun _=> ?_|(refine sC ?_ ?_<;>intro hb<;>try omega)|exact cT|fail)
  all_goals first|(exfalso;omega)|((refine rT1 ?_);rfl)
 by_cases hmx:549755813888<b.step
 ·
  repeat' (first|(apply aa (d:=21);exact rfl;exact rfl;(intro w' hm;exact hS1 w' _ hm))|(apply aa (d:=25);exact rfl;exact rfl;(intro w' hm;exact hK w' _ hm))|refine sT ?_|refine sS ?_|refine sM fun _=> ?_|(refine sC ?_ ?_<;>intro hb<;>try omega)|exact cT|fail)
  all_goals first|(exfalso;omega)|((refine rT1 ?_);rfl)
 have hsm:Small b:=⟨by omega,by omega,by omega,by omega,by omega⟩
 have hO:=fun (w' :World) (H:List Blk) (hm:Mem w w' H)=>Kx hbk ▸ CR b x w' (h.of_w0 hm) (hW.next hm) (by omega) hsm
 have hok1:=M9 hbk
 have hcv1:=Ku b
 have hln1:=LenV.opn hbk hs1
 have hst1:(mZ b).step=b.step:=rfl
 generalize mZ b=B at hO hok1 hcv1 hln1 hst1
 dsimp only at hO
 have hBe:=hln1.e
 have hCk:=fun (a:Bo) (w' :World) (H:List Blk) (hm:Mem w w' H) (hr:BRd w' B a.v)=>jW.2 hok1 ▸ iJ B a.v w' hr (hW.next hm) (by omega)
 repeat' (first
  |((with_reducible apply aa (d:=21));exact rfl;exact rfl;(intro w' hm;exact hS1 w' _ hm))
  |((with_reducible apply aa (d:=25));exact rfl;exact rfl;(intro w' hm;exact hK w' _ hm))
  |((with_reducible apply aA (d:=40));exact rfl;exact rfl;(intro w' hm;exact hO w' _ hm);rintro _ _ ⟨a0,rfl,rfl⟩;unfold aN)
  |((with_reducible apply aa (d:=47));exact rfl;exact rfl;(intro w' hm;exact hCk a0 w' _ hm (BRd.of_rows hm (by (repeat first|exact .hd|apply Sel.tl|apply In.tl)) (by (repeat first|exact .hd|apply Sel.tl|apply In.tl)) (by (repeat first|exact .hd|apply Sel.tl|apply In.tl)) (by (repeat first|exact .hd|apply Sel.tl|apply In.tl)) (by (repeat first|exact .hd|apply Sel.tl|apply In.tl)))))
  |((with_reducible apply ak);exact rfl;(first|((with_reducible apply OM);exact rfl)|((with_reducible apply Af);exact rfl)|((with_reducible apply P9);exact rfl)|((with_reducible apply JJ);exact rfl)|((with_reducible apply jI);exact rfl;(repeat first|exact .hd|apply Sel.tl|apply In.tl);exact rfl)|((with_reducible apply OV);exact rfl;exact rfl)|((with_reducible apply v_neqb);exact rfl;exact rfl)|((with_reducible apply z8);exact rfl;(repeat first|exact .hd|apply Sel.tl|apply In.tl);exact rfl)|((with_reducible apply Ad);exact rfl;(repeat first|exact .hd|apply Sel.tl|apply In.tl);exact rfl;exact rfl)))
  |((with_reducible apply Ml);exact rfl;exact rfl)
  |((with_reducible apply Ju);(iterate 4 exact rfl))
  |((with_reducible apply Jt);(iterate 3 exact rfl))
  |((with_reducible apply Mm);exact rfl;exact rfl;intro _)
  |((with_reducible apply Mo);(iterate 3 exact rfl);intro _)
  |((with_reducible apply Jz);exact rfl;intro _)
  |((with_reducible apply wJ);exact rfl;exact rfl;(repeat first|exact .hd|apply Sel.tl|apply In.tl);(iterate 3 exact rfl))
  |((with_reducible apply zQ);exact rfl;exact rfl;(repeat first|exact .hd|apply Sel.tl|apply In.tl);(iterate 4 exact rfl))
  |((with_reducible apply GH)<;>first|exact rfl|(intro hb;(replace hb:=Tidy.out hb;try (exfalso;omega))))
  |(with_reducible first|apply Db|apply Qf|apply PW|apply JC|apply PY|apply OG|apply OK|apply Ms|apply Qd|apply Qg|apply Qy|apply Qw|apply Qz|apply cut_r|apply cut_e|apply Mq|apply Mr|apply scp_n|apply Qj|apply scp_e)
  |((with_reducible apply z1);exact rfl)
  |((with_reducible apply yJ);exact rfl)
  |((with_reducible apply OL)<;>first|exact rfl|(intro hb;(replace hb:=Tidy.out hb;try (exfalso;omega))))
  |((with_reducible apply Qv);exact rfl)
  |((with_reducible apply cC (i:=()))<;>first|exact trivial|((repeat (first|exact Sub.nil _|refine Sub.cons rfl ?_));done)|((repeat (first|exact MSub.nil _|refine MSub.pick (by (repeat first|exact .hd|apply Sel.tl|apply In.tl)) ?_|exact MSub.refl _|refine MSub.drop .hd ?_));done)))
 all_goals try (exfalso;omega)
 clear hS1 hK hO hCk
 rename_i g2 _
 refine ax [1,2] rfl (fun y:Nat × Bk × Bo=> [(6,.int .i64 (y.1:Int))]) (fun y=> .box g2 28 (aW y.2.1 y.2.2.v)::aN y.2.1 y.2.2) (fun y=>y.1≤L.length∧BkOk y.2.1∧zx y.2.1∧y.2.1.step≤549755813888+(y.1:Int)∧LenV y.2.1 y.1) (fun y=>L.length+1 - y.1) (0,B,a0) ⟨Nat.zero_le _,hok1,hcv1,by dsimp only;omega,hln1⟩ sB (by (try unfold aN);(try simp only [List.append_eq,List.cons_append,List.nil_append]);exact mS) ?_
 clear hok1 hcv1 hln1 hst1 hBe hbk hsm hs1 hsb hbe hmx h
 rintro ⟨i,b,⟨ae,ar,ag,al,as_,ce,cr,cg,cl',cs⟩⟩ ⟨hi,hok,hcv,hst,hln⟩
 dsimp only at hi hok hcv hst hln ⊢
 have hbe: ¬ bkE b≠0:=by rw [jW.2 hok];decide
 have hsm:=hln.small (by omega)
 have hee:=hln.e
 have hCv:=fun (w' :World) (H:List Blk) (hm:Mem w w' H) (hr:BRd w' b (Bo.v ⟨ae,ar,ag,al,as_,ce,cr,cg,cl',cs⟩))=>CS b _ w' hr (hW.next hm) (by omega)
 have hOp:=fun (w' :World) (H:List Blk) (hm:Mem w w' H) (hr:BRd w' b (Bo.v ⟨ae,ar,ag,al,as_,ce,cr,cg,cl',cs⟩))=>CR b _ w' hr (hW.next hm) (by omega) hsm
 have hLv:=fun (w' :World) (H:List Blk) (hm:Mem w w' H) (hr:BRd w' b (Bo.v ⟨ae,ar,ag,al,as_,ce,cr,cg,cl',cs⟩))=>qN b _ w' hr (hW.next hm) (by omega)
 have hEq:=fun (a' :Bo) (w' :World) (H:List Blk) (hm:Mem w w' H) (hr:BRd w' b (Bo.v ⟨ae,ar,ag,al,as_,ce,cr,cg,cl',cs⟩)) (hr' :BRd w' b a'.v)=>EY b hr hr'
 simp only [PH hok hcv] at hCv
 simp only [Kx hok,HW hcv] at hOp
 simp only [Eo hbe] at hLv
 have hfn:=fun (z:Rv) (hz:z∈bH b)=>Ny hok hcv hz
 have hvl:=rK hok (m:=100) (by omega)
 have hrl:=hsm.s
 obtain ⟨V,hV⟩: ∃ V,bH b=V:=⟨_,rfl⟩
 rw [hV] at hLv hfn hvl
 unfold aN
 repeat' (first
  |((with_reducible apply aa (d:=58));exact rfl;exact rfl;(intro w' hm;exact hCv w' _ hm (BRd.of_rows hm (by (repeat first|exact .hd|apply Sel.tl|apply In.tl)) (by (repeat first|exact .hd|apply Sel.tl|apply In.tl)) (by (repeat first|exact .hd|apply Sel.tl|apply In.tl)) (by (repeat first|exact .hd|apply Sel.tl|apply In.tl)) (by (repeat first|exact .hd|apply Sel.tl|apply In.tl)))))
  |((with_reducible apply aA (d:=63));exact rfl;exact rfl;(intro w' hm;exact hOp w' _ hm (BRd.of_rows hm (by (repeat first|exact .hd|apply Sel.tl|apply In.tl)) (by (repeat first|exact .hd|apply Sel.tl|apply In.tl)) (by (repeat first|exact .hd|apply Sel.tl|apply In.tl)) (by (repeat first|exact .hd|apply Sel.tl|apply In.tl)) (by (repeat first|exact .hd|apply Sel.tl|apply In.tl))));rintro _ _ ⟨a9,rfl,rfl⟩;unfold aN)
  |((with_reducible apply aA (d:=68));exact rfl;exact rfl;(intro w' hm;exact hLv w' _ hm (BRd.of_rows hm (by (repeat first|exact .hd|apply Sel.tl|apply In.tl)) (by (repeat first|exact .hd|apply Sel.tl|apply In.tl)) (by (repeat first|exact .hd|apply Sel.tl|apply In.tl)) (by (repeat first|exact .hd|apply Sel.tl|apply In.tl)) (by (repeat first|exact .hd|apply Sel.tl|apply In.tl))));rintro _ _ ⟨A11,c11,rfl,rfl⟩)
  |((with_reducible apply aa (d:=88));exact rfl;exact rfl;(intro w' hm;exact hEq a9 w' _ hm (BRd.of_rows hm (by (repeat first|exact .hd|apply Sel.tl|apply In.tl)) (by (repeat first|exact .hd|apply Sel.tl|apply In.tl)) (by (repeat first|exact .hd|apply Sel.tl|apply In.tl)) (by (repeat first|exact .hd|apply Sel.tl|apply In.tl)) (by (repeat first|exact .hd|apply Sel.tl|apply In.tl))) (BRd.of_rows hm (by (repeat first|exact .hd|apply Sel.tl|apply In.tl)) (by (repeat first|exact .hd|apply Sel.tl|apply In.tl)) (by (repeat first|exact .hd|apply Sel.tl|apply In.tl)) (by (repeat first|exact .hd|apply Sel.tl|apply In.tl)) (by (repeat first|exact .hd|apply Sel.tl|apply In.tl)))))
  |((with_reducible apply ak);exact rfl;(first|((with_reducible apply OM);exact rfl)|((with_reducible apply Af);exact rfl)|((with_reducible apply P9);exact rfl)|((with_reducible apply JJ);exact rfl)|((with_reducible apply jI);exact rfl;(repeat first|exact .hd|apply Sel.tl|apply In.tl);exact rfl)|((with_reducible apply OV);exact rfl;exact rfl)|((with_reducible apply v_neqb);exact rfl;exact rfl)|((with_reducible apply z8);exact rfl;(repeat first|exact .hd|apply Sel.tl|apply In.tl);exact rfl)|((with_reducible apply Ad);exact rfl;(repeat first|exact .hd|apply Sel.tl|apply In.tl);exact rfl;exact rfl)))
  |((with_reducible apply Ml);exact rfl;exact rfl)
  |((with_reducible apply Ju);(iterate 4 exact rfl))
  |((with_reducible apply Jt);(iterate 3 exact rfl))
  |((with_reducible apply Mm);exact rfl;exact rfl;intro _)
  |((with_reducible apply Mo);(iterate 3 exact rfl);intro _)
  |((with_reducible apply Jz);exact rfl;intro _)
  |((with_reducible apply wJ);exact rfl;exact rfl;(repeat first|exact .hd|apply Sel.tl|apply In.tl);(iterate 3 exact rfl))
  |((with_reducible apply zQ);exact rfl;exact rfl;(repeat first|exact .hd|apply Sel.tl|apply In.tl);(iterate 4 exact rfl))
  |((with_reducible apply GH)<;>first|exact rfl|(intro hb;(replace hb:=Tidy.out hb;try (exfalso;omega))))
  |(with_reducible first|apply Db|apply Qf|apply PW|apply JC|apply PY|apply OG|apply OK|apply Ms|apply Qd|apply Qg|apply Qy|apply Qw|apply Qz|apply cut_r|apply cut_e|apply Mq|apply Mr|apply scp_n|apply Qj|apply scp_e)
  |((with_reducible apply z1);exact rfl)
  |((with_reducible apply yJ);exact rfl)
  |((with_reducible apply OL)<;>first|exact rfl|(intro hb;(replace hb:=Tidy.out hb;try (exfalso;omega))))
  |((with_reducible apply Qv);exact rfl)
  |((with_reducible apply cC (i:=()))<;>first|exact trivial|((repeat (first|exact Sub.nil _|refine Sub.cons rfl ?_));done)|((repeat (first|exact MSub.nil _|refine MSub.pick (by (repeat first|exact .hd|apply Sel.tl|apply In.tl)) ?_|exact MSub.refl _|refine MSub.drop .hd ?_));done))
  |((with_reducible apply ak);exact rfl;(with_reducible apply fq);exact rfl;exact rfl;(simp only [maxLen] at*;omega))
  |((with_reducible apply ak);exact rfl;(with_reducible apply FJ);exact rfl;exact rfl;(simp only [maxLen] at*;omega))
  |((with_reducible apply ak);exact rfl;(with_reducible apply dE);exact rfl;exact rfl;(simp only [maxLen] at*;omega)))
 all_goals try (exfalso;omega)
 refine ax [1,2,6,11] rfl (fun k:Nat=> [(13,.int .i64 (k:Int))]) (fun _=> .own A11 62 11 V.length c11 (V.flatMap aO):: .box g2 28 (aW b (Bo.v ⟨ae,ar,ag,al,as_,ce,cr,cg,cl',cs⟩))::aN b ⟨ae,ar,ag,al,as_,ce,cr,cg,cl',cs⟩) (fun k=>k≤V.length) (fun k=>V.length - k) 0 (QX _) sB (by (try unfold aN);(try simp only [Re,QR,QU]);exact mS) ?_
 clear hCv hOp hLv hEq
 rintro k hk
 try dsimp only at hk ⊢
 by_cases hlk:k<V.length
 ·
  have hfz:=hfn V[k] (RQ hlk)
  have hread:=Ou hlk
  generalize V[k]=z at hfz hread
  have hfx:=fun j (hj:j<b.rels.length)=>K8 (x:=z) (s:=b.step) hj
  have hf0:Cc z b.step (b.rels.take 0)=false:=rfl
  have hfe:Cc z b.step (b.rels.take b.rels.length)=true:=by rw [Sc];exact hfz
  refine eH (A:=A11) pK (by omega) fun g11 hA=> ?_
  subst hA
  unfold aN
  repeat' (first|refine sT ?_|refine sS ?_|refine sN ?_|refine sM fun _=> ?_|(refine sC ?_ ?_<;>intro hb<;>try omega)|exact cT|fail)
  refine ax [1,2,6,11,13] rfl (fun j:Nat=> [(14,.bool (Cc z b.step (b.rels.take j))),(15,.int .i64 (j:Int))]) (fun _=> .own (some g11) 62 11 V.length c11 (V.flatMap aO):: .box g2 28 (aW b (Bo.v ⟨ae,ar,ag,al,as_,ce,cr,cg,cl',cs⟩))::aN b ⟨ae,ar,ag,al,as_,ce,cr,cg,cl',cs⟩) (fun j=>j≤b.rels.length) (fun j=>b.rels.length - j) 0 (QX _) (by rw [hf0];exact sB) (by (try unfold aN);(try simp only [Re,QR,QU]);exact mS) ?_
  rintro j hj
  try dsimp only at hj ⊢
  unfold aN
  by_cases hlj:j<b.rels.length
  ·
   refine eH (A:=as_) pK (by omega) fun gs hA=> ?_
   subst hA
   have hready:=Ou hlj
   have hcell:=oo cB b.rels j 0 hlj (by decide)
   have hnx:=hfx j hlj
   generalize Cc z b.step (b.rels.take j)=d1 at hnx ⊢
   generalize b.rels[j]=y at hready hcell hnx
   have hys:(b.rels.flatMap aO)[0+j*11+0]? =some (.int .i64 y.step):=by rw [show 0+j*11+0=j*11+0 by omega,hcell];rfl
   have hS:=fun w=>Hs z y w
   generalize decide (abt z=abt y)=d2 at hS hnx
   cases d1
   all_goals try cases d2
   all_goals
    repeat' (first
     |((refine iL (id:=21) [11] [] [.own (some g11) 62 11 V.length c11 (V.flatMap aO),.box g2 28 (aW b (Bo.v ⟨ae,ar,ag,al,some gs,ce,cr,cg,cl',cs⟩)),.own (some gs) 62 11 b.rels.length cs (b.rels.flatMap aO)] (by kernel_rfl) (by kernel_rfl) (by kernel_rfl) (by (repeat (first|exact MSub.nil _|refine MSub.pick (by (repeat first|exact .hd|apply Sel.tl|apply In.tl)) ?_|exact MSub.refl _|refine MSub.drop .hd ?_))) ?_))
     |((with_reducible apply da (d:=108));(iterate 3 exact rfl);(with_reducible apply aj (j:=k));exact rfl;exact rfl;exact hlk)
     |((with_reducible apply da (d:=109));(iterate 3 exact rfl);(with_reducible apply aM (ys:=aO z));exact rfl;(repeat first|exact .hd|apply Sel.tl|apply In.tl);exact hread;exact rfl)
     |((with_reducible apply da (d:=113));(iterate 3 exact rfl);(with_reducible apply aj (j:=j));exact rfl;exact rfl;exact hlj)
     |((with_reducible apply da (d:=114));(iterate 3 exact rfl);(with_reducible apply aM (ys:=aO y));exact rfl;(repeat first|exact .hd|apply Sel.tl|apply In.tl);exact hready;exact rfl)
     |((with_reducible apply da (d:=120));(iterate 3 exact rfl);(with_reducible apply aj (j:=j));exact rfl;exact rfl;exact hlj)
     |((with_reducible apply da (d:=122));(iterate 3 exact rfl);(with_reducible apply bQ);exact rfl;(repeat first|exact .hd|apply Sel.tl|apply In.tl);exact hys)
     |((with_reducible apply aa (f:=33));exact rfl;exact rfl;(intro w' _;exact hS w'))
     |((with_reducible apply ak);exact rfl;(first|((with_reducible apply OM);exact rfl)|((with_reducible apply Af);exact rfl)|((with_reducible apply P9);exact rfl)|((with_reducible apply JJ);exact rfl)|((with_reducible apply jI);exact rfl;(repeat first|exact .hd|apply Sel.tl|apply In.tl);exact rfl)|((with_reducible apply OV);exact rfl;exact rfl)|((with_reducible apply v_neqb);exact rfl;exact rfl)|((with_reducible apply z8);exact rfl;(repeat first|exact .hd|apply Sel.tl|apply In.tl);exact rfl)|((with_reducible apply Ad);exact rfl;(repeat first|exact .hd|apply Sel.tl|apply In.tl);exact rfl;exact rfl)))
     |((with_reducible apply Ml);exact rfl;exact rfl)
     |((with_reducible apply Ju);(iterate 4 exact rfl))
     |((with_reducible apply Jt);(iterate 3 exact rfl))
     |((with_reducible apply Mm);exact rfl;exact rfl;intro _)
     |((with_reducible apply Mo);(iterate 3 exact rfl);intro _)
     |((with_reducible apply Jz);exact rfl;intro _)
     |((with_reducible apply wJ);exact rfl;exact rfl;(repeat first|exact .hd|apply Sel.tl|apply In.tl);(iterate 3 exact rfl))
     |((with_reducible apply zQ);exact rfl;exact rfl;(repeat first|exact .hd|apply Sel.tl|apply In.tl);(iterate 4 exact rfl))
     |((with_reducible apply GH)<;>first|exact rfl|(intro hb;(replace hb:=Tidy.out hb;try (exfalso;omega))))
     |(with_reducible first|apply Db|apply Qf|apply PW|apply JC|apply PY|apply OG|apply OK|apply Ms|apply Qd|apply Qg|apply Qy|apply Qw|apply Qz|apply cut_r|apply cut_e|apply Mq|apply Mr|apply scp_n|apply Qj|apply scp_e)
     |((with_reducible apply z1);exact rfl)
     |((with_reducible apply yJ);exact rfl)
     |((with_reducible apply OL)<;>first|exact rfl|(intro hb;(replace hb:=Tidy.out hb;try (exfalso;omega))))
     |((with_reducible apply Qv);exact rfl)
     |((with_reducible apply cC (i:=()))<;>first|exact trivial|((repeat (first|exact Sub.nil _|refine Sub.cons rfl ?_));done)|((repeat (first|exact MSub.nil _|refine MSub.pick (by (repeat first|exact .hd|apply Sel.tl|apply In.tl)) ?_|exact MSub.refl _|refine MSub.drop .hd ?_));done))
     |((with_reducible apply ak);exact rfl;(with_reducible apply fq);exact rfl;exact rfl;(simp only [maxLen] at*;omega))
     |((with_reducible apply ak);exact rfl;(with_reducible apply FJ);exact rfl;exact rfl;(simp only [maxLen] at*;omega))
     |((with_reducible apply ak);exact rfl;(with_reducible apply dE);exact rfl;exact rfl;(simp only [maxLen] at*;omega))
     |((with_reducible apply da);(iterate 3 exact rfl);(first|((with_reducible apply OM);exact rfl)|((with_reducible apply Af);exact rfl)|((with_reducible apply P9);exact rfl)|((with_reducible apply JJ);exact rfl)|((with_reducible apply jI);exact rfl;(repeat first|exact .hd|apply Sel.tl|apply In.tl);exact rfl)|((with_reducible apply OV);exact rfl;exact rfl)|((with_reducible apply v_neqb);exact rfl;exact rfl)|((with_reducible apply z8);exact rfl;(repeat first|exact .hd|apply Sel.tl|apply In.tl);exact rfl)|((with_reducible apply Ad);exact rfl;(repeat first|exact .hd|apply Sel.tl|apply In.tl);exact rfl;exact rfl)))
     |((with_reducible apply da);(iterate 3 exact rfl);(with_reducible apply fq);exact rfl;exact rfl;(simp only [maxLen] at*;omega))
     |((with_reducible apply da);(iterate 3 exact rfl);(with_reducible apply FJ);exact rfl;exact rfl;(simp only [maxLen] at*;omega))
     |((with_reducible apply da);(iterate 3 exact rfl);(with_reducible apply dE);exact rfl;exact rfl;(simp only [maxLen] at*;omega))
     |((with_reducible apply OE);(iterate 3 exact rfl))
     |((with_reducible apply wc_gno0);exact rfl)
     |((with_reducible apply QG);exact rfl;exact rfl)
     |((with_reducible apply QF);(iterate 4 exact rfl);(first|((with_reducible apply OM);exact rfl)|((with_reducible apply Af);exact rfl)|((with_reducible apply P9);exact rfl)|((with_reducible apply JJ);exact rfl)|((with_reducible apply jI);exact rfl;(repeat first|exact .hd|apply Sel.tl|apply In.tl);exact rfl)|((with_reducible apply OV);exact rfl;exact rfl)|((with_reducible apply v_neqb);exact rfl;exact rfl)|((with_reducible apply z8);exact rfl;(repeat first|exact .hd|apply Sel.tl|apply In.tl);exact rfl)|((with_reducible apply Ad);exact rfl;(repeat first|exact .hd|apply Sel.tl|apply In.tl);exact rfl;exact rfl)))
     |((with_reducible apply GM)<;>first|exact rfl|(intro hb;(replace hb:=Tidy.out hb;try (exfalso;omega))))
     |(with_reducible apply OD)
     |((with_reducible apply IY);(repeat (first|exact MSub.nil _|refine MSub.pick (by (repeat first|exact .hd|apply Sel.tl|apply In.tl)) ?_|exact MSub.refl _|refine MSub.drop .hd ?_))))
   all_goals first
    |(exfalso;omega)
    |(refine ⟨j+1,hlj,by omega,by rw [hnx];exact sB,by exact sB,by (try unfold aN);exact mS⟩;done)
  ·
   have e:j=b.rels.length:=by omega
   subst e
   rw [hfe]
   repeat' (first|refine sT ?_|refine sS ?_|refine sN ?_|refine sM fun _=> ?_|(refine sC ?_ ?_<;>intro hb<;>try omega)|exact cT|fail)
   all_goals first
    |(exfalso;omega)
    |(refine ⟨k+1,hlk,by omega,by exact sB,by exact sB,by (try unfold aN);exact mS⟩;done)
 have e:k=V.length:=by omega
 subst e
 clear hfn
 unfold aN
 by_cases hiL:i=L.length
 ·
  subst hiL
  repeat' (first|(apply aa (f:=30);exact rfl;exact rfl;(intro w' hm;exact haw w' _ hm))|refine sT ?_|refine sS ?_|refine sM fun _=> ?_|(refine sC ?_ ?_<;>intro hb<;>try omega)|exact cT|fail)
  all_goals first|(exfalso;omega)|((refine rT1 ?_);rfl)
 have hlt:i<L.length:=by omega
 obtain ⟨gl,ol,rfl,hrl'⟩:=hl3 (by omega)
 have he:=hrl'.elem EQ i hlt
 generalize L[i]=o at he
 have hin:Ro w gl (ol+i*13+6) [.string o.input]:=(he.drop (k:=6)).take (k:=1)
 by_cases h300:300<o.input.size
 ·
  repeat' (first
   |((with_reducible apply ak (d:=137));exact rfl;(with_reducible apply aj (j:=i));exact rfl;exact rfl;exact hlt)
   |((with_reducible apply ak (d:=139));exact rfl;(with_reducible apply eU);exact rfl;exact hin)
   |((with_reducible apply aa (f:=30));exact rfl;exact rfl;(intro w' hm;exact haw w' _ hm))
   |((with_reducible apply ak);exact rfl;(first|((with_reducible apply OM);exact rfl)|((with_reducible apply Af);exact rfl)|((with_reducible apply P9);exact rfl)|((with_reducible apply JJ);exact rfl)|((with_reducible apply jI);exact rfl;(repeat first|exact .hd|apply Sel.tl|apply In.tl);exact rfl)|((with_reducible apply OV);exact rfl;exact rfl)|((with_reducible apply v_neqb);exact rfl;exact rfl)|((with_reducible apply z8);exact rfl;(repeat first|exact .hd|apply Sel.tl|apply In.tl);exact rfl)|((with_reducible apply Ad);exact rfl;(repeat first|exact .hd|apply Sel.tl|apply In.tl);exact rfl;exact rfl)))
   |((with_reducible apply Ml);exact rfl;exact rfl)
   |((with_reducible apply Ju);(iterate 4 exact rfl))
   |((with_reducible apply Jt);(iterate 3 exact rfl))
   |((with_reducible apply Mm);exact rfl;exact rfl;intro _)
   |((with_reducible apply Mo);(iterate 3 exact rfl);intro _)
   |((with_reducible apply Jz);exact rfl;intro _)
   |((with_reducible apply wJ);exact rfl;exact rfl;(repeat first|exact .hd|apply Sel.tl|apply In.tl);(iterate 3 exact rfl))
   |((with_reducible apply zQ);exact rfl;exact rfl;(repeat first|exact .hd|apply Sel.tl|apply In.tl);(iterate 4 exact rfl))
   |((with_reducible apply GH)<;>first|exact rfl|(intro hb;(replace hb:=Tidy.out hb;try (exfalso;omega))))
   |(with_reducible first|apply Db|apply Qf|apply PW|apply JC|apply PY|apply OG|apply OK|apply Ms|apply Qd|apply Qg|apply Qy|apply Qw|apply Qz|apply cut_r|apply cut_e|apply Mq|apply Mr|apply scp_n|apply Qj|apply scp_e)
   |((with_reducible apply z1);exact rfl)
   |((with_reducible apply yJ);exact rfl)
   |((with_reducible apply OL)<;>first|exact rfl|(intro hb;(replace hb:=Tidy.out hb;try (exfalso;omega))))
   |((with_reducible apply Qv);exact rfl)
   |((with_reducible apply cC (i:=()))<;>first|exact trivial|((repeat (first|exact Sub.nil _|refine Sub.cons rfl ?_));done)|((repeat (first|exact MSub.nil _|refine MSub.pick (by (repeat first|exact .hd|apply Sel.tl|apply In.tl)) ?_|exact MSub.refl _|refine MSub.drop .hd ?_));done)))
  all_goals first|(exfalso;omega)|((refine rT1 ?_);rfl)
 have hsx:b.step≠1099511627776:=by omega
 obtain ⟨hn1,hn2,hn3⟩:=Pj (o:=o) hok hsx hcv
 have hn4:=hln.next (by omega) hok hsx o
 obtain ⟨hapk,haer⟩:=LU (o:=o) hok hsx
 have hape:=LV (b:=b) (o:=o)
 have hA1:=fun (w' :World) (H:List Blk) (hm:Mem w w' H) (hr:BRd w' b (Bo.v ⟨ae,ar,ag,al,as_,ce,cr,cg,cl',cs⟩))=>Me b _ o w' hr (hW.next hm) hsm
 have hFr:=fun (y2:Bv) (w' :World) (H:List Blk) (hm:Mem w w' H) (hr:BRd w' b (Bo.v ⟨ae,ar,ag,al,as_,ce,cr,cg,cl',cs⟩)) (hr2:BRd w' (apE b o).1 y2)=>I9 b (apE b o).1 _ y2 w' hr hr2 (hW.next hm) (by omega) (by omega)
 have hfe:frE b (apE b o).1=(dL (bH (apE b o).1) (bH b),0):=by
  unfold frE
  rw [if_neg hbe,if_neg (by rw [jW.2 hapk];decide)]
 simp only [hfe] at hFr
 simp only [haer] at hA1
 unfold HV at hn1 hn2 hn3 hn4
 generalize dL (bH (apE b o).1) (bH b)=M at hFr hn1 hn2 hn3 hn4
 generalize (apE b o).2.1=cd at hA1
 generalize (apE b o).2.2.1=pl at hA1
 clear hfe haer hapk
 generalize (apE b o).1=P at hA1 hFr hn1 hn2 hn3 hn4 hape
 have el1:(P.rels++M).length=P.rels.length+M.length:=QP
 have el2:(P.rels++M).flatMap aO=P.rels.flatMap aO++M.flatMap aO:=Rm
 have hsum:P.rels.length+M.length≤60+(i+2)*6400000:=by
  have:=hn4.s
  rw [show (mB P M).rels=P.rels++M from rfl,el1] at this
  omega
 have hCk:=fun (y:Bv) (w' :World) (H:List Blk) (hm:Mem w w' H) (hr:BRd w' (mB P M) y)=>jW.2 hn1 ▸ iJ (mB P M) y w' hr (hW.next hm) (by have:=hn4.e;omega)
 repeat' (first
  |((with_reducible apply ak (d:=137));exact rfl;(with_reducible apply aj (j:=i));exact rfl;exact rfl;exact hlt)
  |((with_reducible apply ak (d:=139));exact rfl;(with_reducible apply eU);exact rfl;exact hin)
  |((with_reducible apply ak);exact rfl;(first|((with_reducible apply OM);exact rfl)|((with_reducible apply Af);exact rfl)|((with_reducible apply P9);exact rfl)|((with_reducible apply JJ);exact rfl)|((with_reducible apply jI);exact rfl;(repeat first|exact .hd|apply Sel.tl|apply In.tl);exact rfl)|((with_reducible apply OV);exact rfl;exact rfl)|((with_reducible apply v_neqb);exact rfl;exact rfl)|((with_reducible apply z8);exact rfl;(repeat first|exact .hd|apply Sel.tl|apply In.tl);exact rfl)|((with_reducible apply Ad);exact rfl;(repeat first|exact .hd|apply Sel.tl|apply In.tl);exact rfl;exact rfl)))
  |((with_reducible apply Ml);exact rfl;exact rfl)
  |((with_reducible apply Ju);(iterate 4 exact rfl))
  |((with_reducible apply Jt);(iterate 3 exact rfl))
  |((with_reducible apply Mm);exact rfl;exact rfl;intro _)
  |((with_reducible apply Mo);(iterate 3 exact rfl);intro _)
  |((with_reducible apply Jz);exact rfl;intro _)
  |((with_reducible apply wJ);exact rfl;exact rfl;(repeat first|exact .hd|apply Sel.tl|apply In.tl);(iterate 3 exact rfl))
  |((with_reducible apply zQ);exact rfl;exact rfl;(repeat first|exact .hd|apply Sel.tl|apply In.tl);(iterate 4 exact rfl))
  |((with_reducible apply GH)<;>first|exact rfl|(intro hb;(replace hb:=Tidy.out hb;try (exfalso;omega))))
  |(with_reducible first|apply Db|apply Qf|apply PW|apply JC|apply PY|apply OG|apply OK|apply Ms|apply Qd|apply Qg|apply Qy|apply Qw|apply Qz|apply cut_r|apply cut_e|apply Mq|apply Mr|apply scp_n|apply Qj|apply scp_e)
  |((with_reducible apply z1);exact rfl)
  |((with_reducible apply yJ);exact rfl)
  |((with_reducible apply OL)<;>first|exact rfl|(intro hb;(replace hb:=Tidy.out hb;try (exfalso;omega))))
  |((with_reducible apply Qv);exact rfl)
  |((with_reducible apply cC (i:=()))<;>first|exact trivial|((repeat (first|exact Sub.nil _|refine Sub.cons rfl ?_));done)|((repeat (first|exact MSub.nil _|refine MSub.pick (by (repeat first|exact .hd|apply Sel.tl|apply In.tl)) ?_|exact MSub.refl _|refine MSub.drop .hd ?_));done)))
 all_goals try (exfalso;omega)
 (refine qY (id:=25) (ι:=Nat × Bo) (fun z=> [(1,.slice (some ⟨gl,ol,none⟩) L.length cl),(2,.pointer (some ⟨g2,0,none⟩)),(6,.int .i64 (i:Int)),(8,.int .i64 0),(16,.pointer (some ⟨z.1,0,none⟩))]) (fun z=> .box z.1 28 (aW P z.2.v)::(aN P z.2++(.box g2 28 (aW b (Bo.v ⟨ae,ar,ag,al,as_,ce,cr,cg,cl',cs⟩))::aN b ⟨ae,ar,ag,al,as_,ce,cr,cg,cl',cs⟩))) (fun _=>True) ?_ ?_)
 ·
  refine pV (id:=25) [5,11,12] [.box g2 28 (aW b (Bo.v ⟨ae,ar,ag,al,as_,ce,cr,cg,cl',cs⟩))] 16 rfl rfl mS ?_
  clear hFr hCk
  repeat' (first
   |((with_reducible apply du (i:=0));(iterate 4 exact rfl);decide+kernel;decide+kernel;decide+kernel;(first|((with_reducible apply OM);exact rfl)|((with_reducible apply Af);exact rfl)|((with_reducible apply P9);exact rfl)|((with_reducible apply JJ);exact rfl)|((with_reducible apply uy);exact rfl)|((with_reducible apply jI);exact rfl;(repeat first|exact .hd|apply Sel.tl|apply In.tl);exact rfl)|((with_reducible apply OV);exact rfl;exact rfl)|((with_reducible apply v_neqb);exact rfl;exact rfl)|((with_reducible apply gT);exact rfl;exact rfl)|((with_reducible apply iU);exact rfl;exact rfl)|((with_reducible apply z8);exact rfl;(repeat first|exact .hd|apply Sel.tl|apply In.tl);exact rfl)|((with_reducible apply Ad);exact rfl;(repeat first|exact .hd|apply Sel.tl|apply In.tl);exact rfl;exact rfl)|((with_reducible apply MG);(iterate 3 exact rfl))|((with_reducible apply FF);(iterate 3 exact rfl))|((with_reducible apply aZ);exact rfl;exact rfl;(first|assumption|omega))|((with_reducible apply OU);exact rfl;exact rfl;(first|assumption|omega))|((with_reducible apply fF);(iterate 3 exact rfl);(first|assumption|omega))|((with_reducible apply ur);exact rfl;exact rfl;(first|assumption|omega))|((with_reducible apply Mu);exact rfl;exact rfl;(first|assumption|omega))|((with_reducible apply Di);exact rfl;exact rfl;(first|assumption|omega))|((with_reducible apply ib);exact rfl)|((with_reducible apply MB);exact rfl)|((with_reducible apply v_neqpn);exact rfl)))
   |((with_reducible apply du (i:=1));(iterate 4 exact rfl);decide+kernel;decide+kernel;decide+kernel;(first|((with_reducible apply OM);exact rfl)|((with_reducible apply Af);exact rfl)|((with_reducible apply P9);exact rfl)|((with_reducible apply JJ);exact rfl)|((with_reducible apply uy);exact rfl)|((with_reducible apply jI);exact rfl;(repeat first|exact .hd|apply Sel.tl|apply In.tl);exact rfl)|((with_reducible apply OV);exact rfl;exact rfl)|((with_reducible apply v_neqb);exact rfl;exact rfl)|((with_reducible apply gT);exact rfl;exact rfl)|((with_reducible apply iU);exact rfl;exact rfl)|((with_reducible apply z8);exact rfl;(repeat first|exact .hd|apply Sel.tl|apply In.tl);exact rfl)|((with_reducible apply Ad);exact rfl;(repeat first|exact .hd|apply Sel.tl|apply In.tl);exact rfl;exact rfl)|((with_reducible apply MG);(iterate 3 exact rfl))|((with_reducible apply FF);(iterate 3 exact rfl))|((with_reducible apply aZ);exact rfl;exact rfl;(first|assumption|omega))|((with_reducible apply OU);exact rfl;exact rfl;(first|assumption|omega))|((with_reducible apply fF);(iterate 3 exact rfl);(first|assumption|omega))|((with_reducible apply ur);exact rfl;exact rfl;(first|assumption|omega))|((with_reducible apply Mu);exact rfl;exact rfl;(first|assumption|omega))|((with_reducible apply Di);exact rfl;exact rfl;(first|assumption|omega))|((with_reducible apply ib);exact rfl)|((with_reducible apply MB);exact rfl)|((with_reducible apply v_neqpn);exact rfl)))
   |((with_reducible apply du (i:=2));(iterate 4 exact rfl);decide+kernel;decide+kernel;decide+kernel;(first|((with_reducible apply OM);exact rfl)|((with_reducible apply Af);exact rfl)|((with_reducible apply P9);exact rfl)|((with_reducible apply JJ);exact rfl)|((with_reducible apply uy);exact rfl)|((with_reducible apply jI);exact rfl;(repeat first|exact .hd|apply Sel.tl|apply In.tl);exact rfl)|((with_reducible apply OV);exact rfl;exact rfl)|((with_reducible apply v_neqb);exact rfl;exact rfl)|((with_reducible apply gT);exact rfl;exact rfl)|((with_reducible apply iU);exact rfl;exact rfl)|((with_reducible apply z8);exact rfl;(repeat first|exact .hd|apply Sel.tl|apply In.tl);exact rfl)|((with_reducible apply Ad);exact rfl;(repeat first|exact .hd|apply Sel.tl|apply In.tl);exact rfl;exact rfl)|((with_reducible apply MG);(iterate 3 exact rfl))|((with_reducible apply FF);(iterate 3 exact rfl))|((with_reducible apply aZ);exact rfl;exact rfl;(first|assumption|omega))|((with_reducible apply OU);exact rfl;exact rfl;(first|assumption|omega))|((with_reducible apply fF);(iterate 3 exact rfl);(first|assumption|omega))|((with_reducible apply ur);exact rfl;exact rfl;(first|assumption|omega))|((with_reducible apply Mu);exact rfl;exact rfl;(first|assumption|omega))|((with_reducible apply Di);exact rfl;exact rfl;(first|assumption|omega))|((with_reducible apply ib);exact rfl)|((with_reducible apply MB);exact rfl)|((with_reducible apply v_neqpn);exact rfl)))
   |((with_reducible apply du (i:=6));(iterate 4 exact rfl);decide+kernel;decide+kernel;decide+kernel;(first|((with_reducible apply OM);exact rfl)|((with_reducible apply Af);exact rfl)|((with_reducible apply P9);exact rfl)|((with_reducible apply JJ);exact rfl)|((with_reducible apply uy);exact rfl)|((with_reducible apply jI);exact rfl;(repeat first|exact .hd|apply Sel.tl|apply In.tl);exact rfl)|((with_reducible apply OV);exact rfl;exact rfl)|((with_reducible apply v_neqb);exact rfl;exact rfl)|((with_reducible apply gT);exact rfl;exact rfl)|((with_reducible apply iU);exact rfl;exact rfl)|((with_reducible apply z8);exact rfl;(repeat first|exact .hd|apply Sel.tl|apply In.tl);exact rfl)|((with_reducible apply Ad);exact rfl;(repeat first|exact .hd|apply Sel.tl|apply In.tl);exact rfl;exact rfl)|((with_reducible apply MG);(iterate 3 exact rfl))|((with_reducible apply FF);(iterate 3 exact rfl))|((with_reducible apply aZ);exact rfl;exact rfl;(first|assumption|omega))|((with_reducible apply OU);exact rfl;exact rfl;(first|assumption|omega))|((with_reducible apply fF);(iterate 3 exact rfl);(first|assumption|omega))|((with_reducible apply ur);exact rfl;exact rfl;(first|assumption|omega))|((with_reducible apply Mu);exact rfl;exact rfl;(first|assumption|omega))|((with_reducible apply Di);exact rfl;exact rfl;(first|assumption|omega))|((with_reducible apply ib);exact rfl)|((with_reducible apply MB);exact rfl)|((with_reducible apply v_neqpn);exact rfl)))
   |((with_reducible apply du (i:=7));(iterate 4 exact rfl);decide+kernel;decide+kernel;decide+kernel;(first|((with_reducible apply OM);exact rfl)|((with_reducible apply Af);exact rfl)|((with_reducible apply P9);exact rfl)|((with_reducible apply JJ);exact rfl)|((with_reducible apply uy);exact rfl)|((with_reducible apply jI);exact rfl;(repeat first|exact .hd|apply Sel.tl|apply In.tl);exact rfl)|((with_reducible apply OV);exact rfl;exact rfl)|((with_reducible apply v_neqb);exact rfl;exact rfl)|((with_reducible apply gT);exact rfl;exact rfl)|((with_reducible apply iU);exact rfl;exact rfl)|((with_reducible apply z8);exact rfl;(repeat first|exact .hd|apply Sel.tl|apply In.tl);exact rfl)|((with_reducible apply Ad);exact rfl;(repeat first|exact .hd|apply Sel.tl|apply In.tl);exact rfl;exact rfl)|((with_reducible apply MG);(iterate 3 exact rfl))|((with_reducible apply FF);(iterate 3 exact rfl))|((with_reducible apply aZ);exact rfl;exact rfl;(first|assumption|omega))|((with_reducible apply OU);exact rfl;exact rfl;(first|assumption|omega))|((with_reducible apply fF);(iterate 3 exact rfl);(first|assumption|omega))|((with_reducible apply ur);exact rfl;exact rfl;(first|assumption|omega))|((with_reducible apply Mu);exact rfl;exact rfl;(first|assumption|omega))|((with_reducible apply Di);exact rfl;exact rfl;(first|assumption|omega))|((with_reducible apply ib);exact rfl)|((with_reducible apply MB);exact rfl)|((with_reducible apply v_neqpn);exact rfl)))
   |((with_reducible apply du (i:=8));(iterate 4 exact rfl);decide+kernel;decide+kernel;decide+kernel;(first|((with_reducible apply OM);exact rfl)|((with_reducible apply Af);exact rfl)|((with_reducible apply P9);exact rfl)|((with_reducible apply JJ);exact rfl)|((with_reducible apply uy);exact rfl)|((with_reducible apply jI);exact rfl;(repeat first|exact .hd|apply Sel.tl|apply In.tl);exact rfl)|((with_reducible apply OV);exact rfl;exact rfl)|((with_reducible apply v_neqb);exact rfl;exact rfl)|((with_reducible apply gT);exact rfl;exact rfl)|((with_reducible apply iU);exact rfl;exact rfl)|((with_reducible apply z8);exact rfl;(repeat first|exact .hd|apply Sel.tl|apply In.tl);exact rfl)|((with_reducible apply Ad);exact rfl;(repeat first|exact .hd|apply Sel.tl|apply In.tl);exact rfl;exact rfl)|((with_reducible apply MG);(iterate 3 exact rfl))|((with_reducible apply FF);(iterate 3 exact rfl))|((with_reducible apply aZ);exact rfl;exact rfl;(first|assumption|omega))|((with_reducible apply OU);exact rfl;exact rfl;(first|assumption|omega))|((with_reducible apply fF);(iterate 3 exact rfl);(first|assumption|omega))|((with_reducible apply ur);exact rfl;exact rfl;(first|assumption|omega))|((with_reducible apply Mu);exact rfl;exact rfl;(first|assumption|omega))|((with_reducible apply Di);exact rfl;exact rfl;(first|assumption|omega))|((with_reducible apply ib);exact rfl)|((with_reducible apply MB);exact rfl)|((with_reducible apply v_neqpn);exact rfl)))
   |((with_reducible apply du (i:=9));(iterate 4 exact rfl);decide+kernel;decide+kernel;decide+kernel;(first|((with_reducible apply OM);exact rfl)|((with_reducible apply Af);exact rfl)|((with_reducible apply P9);exact rfl)|((with_reducible apply JJ);exact rfl)|((with_reducible apply uy);exact rfl)|((with_reducible apply jI);exact rfl;(repeat first|exact .hd|apply Sel.tl|apply In.tl);exact rfl)|((with_reducible apply OV);exact rfl;exact rfl)|((with_reducible apply v_neqb);exact rfl;exact rfl)|((with_reducible apply gT);exact rfl;exact rfl)|((with_reducible apply iU);exact rfl;exact rfl)|((with_reducible apply z8);exact rfl;(repeat first|exact .hd|apply Sel.tl|apply In.tl);exact rfl)|((with_reducible apply Ad);exact rfl;(repeat first|exact .hd|apply Sel.tl|apply In.tl);exact rfl;exact rfl)|((with_reducible apply MG);(iterate 3 exact rfl))|((with_reducible apply FF);(iterate 3 exact rfl))|((with_reducible apply aZ);exact rfl;exact rfl;(first|assumption|omega))|((with_reducible apply OU);exact rfl;exact rfl;(first|assumption|omega))|((with_reducible apply fF);(iterate 3 exact rfl);(first|assumption|omega))|((with_reducible apply ur);exact rfl;exact rfl;(first|assumption|omega))|((with_reducible apply Mu);exact rfl;exact rfl;(first|assumption|omega))|((with_reducible apply Di);exact rfl;exact rfl;(first|assumption|omega))|((with_reducible apply ib);exact rfl)|((with_reducible apply MB);exact rfl)|((with_reducible apply v_neqpn);exact rfl)))
   |((with_reducible apply du (i:=10));(iterate 4 exact rfl);decide+kernel;decide+kernel;decide+kernel;(first|((with_reducible apply OM);exact rfl)|((with_reducible apply Af);exact rfl)|((with_reducible apply P9);exact rfl)|((with_reducible apply JJ);exact rfl)|((with_reducible apply uy);exact rfl)|((with_reducible apply jI);exact rfl;(repeat first|exact .hd|apply Sel.tl|apply In.tl);exact rfl)|((with_reducible apply OV);exact rfl;exact rfl)|((with_reducible apply v_neqb);exact rfl;exact rfl)|((with_reducible apply gT);exact rfl;exact rfl)|((with_reducible apply iU);exact rfl;exact rfl)|((with_reducible apply z8);exact rfl;(repeat first|exact .hd|apply Sel.tl|apply In.tl);exact rfl)|((with_reducible apply Ad);exact rfl;(repeat first|exact .hd|apply Sel.tl|apply In.tl);exact rfl;exact rfl)|((with_reducible apply MG);(iterate 3 exact rfl))|((with_reducible apply FF);(iterate 3 exact rfl))|((with_reducible apply aZ);exact rfl;exact rfl;(first|assumption|omega))|((with_reducible apply OU);exact rfl;exact rfl;(first|assumption|omega))|((with_reducible apply fF);(iterate 3 exact rfl);(first|assumption|omega))|((with_reducible apply ur);exact rfl;exact rfl;(first|assumption|omega))|((with_reducible apply Mu);exact rfl;exact rfl;(first|assumption|omega))|((with_reducible apply Di);exact rfl;exact rfl;(first|assumption|omega))|((with_reducible apply ib);exact rfl)|((with_reducible apply MB);exact rfl)|((with_reducible apply v_neqpn);exact rfl)))
   |((with_reducible apply du (i:=13));(iterate 4 exact rfl);decide+kernel;decide+kernel;decide+kernel;((with_reducible apply iV);exact rfl))
   |((with_reducible apply du (i:=14));(iterate 4 exact rfl);decide+kernel;decide+kernel;decide+kernel;((with_reducible apply iV);exact rfl))
   |((with_reducible apply du (i:=15));(iterate 4 exact rfl);decide+kernel;decide+kernel;decide+kernel;((with_reducible apply iV);exact rfl))
   |((with_reducible apply gZ (i:=5) (j:=11));(iterate 6 exact rfl);decide+kernel)
   |((with_reducible apply dw (i:=5));(iterate 3 exact rfl);decide+kernel)
   |((with_reducible apply dw (i:=11));(iterate 3 exact rfl);decide+kernel)
   |((with_reducible apply dw (i:=12));(iterate 3 exact rfl);decide+kernel)
   |((with_reducible apply pS);decide+kernel)
   |((with_reducible apply IY);(focus ((repeat (first|exact MSub.nil _|refine MSub.pick (by (repeat first|exact .hd|apply Sel.tl|apply In.tl)) ?_|exact MSub.refl _|refine MSub.drop .hd ?_));done)))
   |((with_reducible apply du (i:=3));(iterate 4 exact rfl);decide+kernel;decide+kernel;decide+kernel;((with_reducible apply aj (j:=i));exact rfl;exact rfl;exact hlt))
   |((with_reducible apply du (i:=4));(iterate 4 exact rfl);decide+kernel;decide+kernel;decide+kernel;((with_reducible apply aB);exact rfl;exact he;exact rfl))
   |((with_reducible apply aA (d:=149));exact rfl;exact rfl;(intro w' hm;exact hA1 w' _ hm (BRd.of_rows hm (by (repeat first|exact .hd|apply Sel.tl|apply In.tl)) (by (repeat first|exact .hd|apply Sel.tl|apply In.tl)) (by (repeat first|exact .hd|apply Sel.tl|apply In.tl)) (by (repeat first|exact .hd|apply Sel.tl|apply In.tl)) (by (repeat first|exact .hd|apply Sel.tl|apply In.tl))));rintro _ _ ⟨a2,rfl,rfl⟩;unfold aN)
   |((with_reducible apply ak);exact rfl;(first|((with_reducible apply OM);exact rfl)|((with_reducible apply Af);exact rfl)|((with_reducible apply P9);exact rfl)|((with_reducible apply JJ);exact rfl)|((with_reducible apply jI);exact rfl;(repeat first|exact .hd|apply Sel.tl|apply In.tl);exact rfl)|((with_reducible apply OV);exact rfl;exact rfl)|((with_reducible apply v_neqb);exact rfl;exact rfl)|((with_reducible apply z8);exact rfl;(repeat first|exact .hd|apply Sel.tl|apply In.tl);exact rfl)|((with_reducible apply Ad);exact rfl;(repeat first|exact .hd|apply Sel.tl|apply In.tl);exact rfl;exact rfl)))
   |((with_reducible apply Ml);exact rfl;exact rfl)
   |((with_reducible apply Ju);(iterate 4 exact rfl))
   |((with_reducible apply Jt);(iterate 3 exact rfl))
   |((with_reducible apply Mm);exact rfl;exact rfl;intro _)
   |((with_reducible apply Mo);(iterate 3 exact rfl);intro _)
   |((with_reducible apply Jz);exact rfl;intro _)
   |((with_reducible apply wJ);exact rfl;exact rfl;(repeat first|exact .hd|apply Sel.tl|apply In.tl);(iterate 3 exact rfl))
   |((with_reducible apply zQ);exact rfl;exact rfl;(repeat first|exact .hd|apply Sel.tl|apply In.tl);(iterate 4 exact rfl))
   |((with_reducible apply GH)<;>first|exact rfl|(intro hb;(replace hb:=Tidy.out hb;try (exfalso;omega))))
   |(with_reducible first|apply Db|apply Qf|apply PW|apply JC|apply PY|apply OG|apply OK|apply Ms|apply Qd|apply Qg|apply Qy|apply Qw|apply Qz|apply cut_r|apply cut_e|apply Mq|apply Mr|apply scp_n|apply Qj|apply scp_e)
   |((with_reducible apply z1);exact rfl)
   |((with_reducible apply yJ);exact rfl)
   |((with_reducible apply OL)<;>first|exact rfl|(intro hb;(replace hb:=Tidy.out hb;try (exfalso;omega))))
   |((with_reducible apply Qv);exact rfl)
   |((with_reducible apply cC (i:=()))<;>first|exact trivial|((repeat (first|exact Sub.nil _|refine Sub.cons rfl ?_));done)|((repeat (first|exact MSub.nil _|refine MSub.pick (by (repeat first|exact .hd|apply Sel.tl|apply In.tl)) ?_|exact MSub.refl _|refine MSub.drop .hd ?_));done)))
  all_goals
   refine cC (i:=(_,a2)) trivial sB (by dsimp only;(try unfold aN);(try simp only [List.append_eq,List.cons_append,List.nil_append]);exact mS)
 rintro ⟨g16,a2⟩ _
 clear hA1
 dsimp only
 unfold aN
 simp only [Re,QR,QU]
 repeat' (first
  |((with_reducible apply aA (d:=157));exact rfl;exact rfl;(intro w' hm;exact hFr a2.v w' _ hm (BRd.of_rows hm (by (repeat first|exact .hd|apply Sel.tl|apply In.tl)) (by (repeat first|exact .hd|apply Sel.tl|apply In.tl)) (by (repeat first|exact .hd|apply Sel.tl|apply In.tl)) (by (repeat first|exact .hd|apply Sel.tl|apply In.tl)) (by (repeat first|exact .hd|apply Sel.tl|apply In.tl))) (BRd.of_rows hm (by (repeat first|exact .hd|apply Sel.tl|apply In.tl)) (by (repeat first|exact .hd|apply Sel.tl|apply In.tl)) (by (repeat first|exact .hd|apply Sel.tl|apply In.tl)) (by (repeat first|exact .hd|apply Sel.tl|apply In.tl)) (by (repeat first|exact .hd|apply Sel.tl|apply In.tl))));rintro _ _ ⟨A19,c19,rfl,rfl⟩)
  |((with_reducible apply dr (d:=169) (A:=a2.s) (n' :=P.rels.length) (m:=M.length));(iterate 3 exact rfl);(repeat first|exact .hd|apply Sel.tl|apply In.tl);(intro w hm;exact Reads.of_own (A:=A19) hm (by (repeat first|exact .hd|apply Sel.tl|apply In.tl)));exact aP cB M;exact pM M;omega;(simp only [maxLen];omega);intro A17 c17 h17;rw [← el1,← el2])
  |((with_reducible apply aa (d:=172));exact rfl;exact rfl;(intro w' hm;exact hCk (Bo.v ⟨a2.e,a2.r,a2.g,a2.l,A17,a2.ce,a2.cr,a2.cg,a2.cl,c17⟩) w' _ hm (BRd.of_rows (b:=mB P M) (a:=⟨a2.e,a2.r,a2.g,a2.l,A17,a2.ce,a2.cr,a2.cg,a2.cl,c17⟩) hm (by (repeat first|exact .hd|apply Sel.tl|apply In.tl)) (by (repeat first|exact .hd|apply Sel.tl|apply In.tl)) (by (repeat first|exact .hd|apply Sel.tl|apply In.tl)) (by (repeat first|exact .hd|apply Sel.tl|apply In.tl)) (by (repeat first|exact .hd|apply Sel.tl|apply In.tl)))))
  |((with_reducible apply ak);exact rfl;(first|((with_reducible apply OM);exact rfl)|((with_reducible apply Af);exact rfl)|((with_reducible apply P9);exact rfl)|((with_reducible apply JJ);exact rfl)|((with_reducible apply jI);exact rfl;(repeat first|exact .hd|apply Sel.tl|apply In.tl);exact rfl)|((with_reducible apply OV);exact rfl;exact rfl)|((with_reducible apply v_neqb);exact rfl;exact rfl)|((with_reducible apply z8);exact rfl;(repeat first|exact .hd|apply Sel.tl|apply In.tl);exact rfl)|((with_reducible apply Ad);exact rfl;(repeat first|exact .hd|apply Sel.tl|apply In.tl);exact rfl;exact rfl)))
  |((with_reducible apply Ml);exact rfl;exact rfl)
  |((with_reducible apply Ju);(iterate 4 exact rfl))
  |((with_reducible apply Jt);(iterate 3 exact rfl))
  |((with_reducible apply Mm);exact rfl;exact rfl;intro _)
  |((with_reducible apply Mo);(iterate 3 exact rfl);intro _)
  |((with_reducible apply Jz);exact rfl;intro _)
  |((with_reducible apply wJ);exact rfl;exact rfl;(repeat first|exact .hd|apply Sel.tl|apply In.tl);(iterate 3 exact rfl))
  |((with_reducible apply zQ);exact rfl;exact rfl;(repeat first|exact .hd|apply Sel.tl|apply In.tl);(iterate 4 exact rfl))
  |((with_reducible apply GH)<;>first|exact rfl|(intro hb;(replace hb:=Tidy.out hb;try (exfalso;omega))))
  |(with_reducible first|apply Db|apply Qf|apply PW|apply JC|apply PY|apply OG|apply OK|apply Ms|apply Qd|apply Qg|apply Qy|apply Qw|apply Qz|apply cut_r|apply cut_e|apply Mq|apply Mr|apply scp_n|apply Qj|apply scp_e)
  |((with_reducible apply z1);exact rfl)
  |((with_reducible apply yJ);exact rfl)
  |((with_reducible apply OL)<;>first|exact rfl|(intro hb;(replace hb:=Tidy.out hb;try (exfalso;omega))))
  |((with_reducible apply Qv);exact rfl)
  |((with_reducible apply cC (i:=()))<;>first|exact trivial|((repeat (first|exact Sub.nil _|refine Sub.cons rfl ?_));done)|((repeat (first|exact MSub.nil _|refine MSub.pick (by (repeat first|exact .hd|apply Sel.tl|apply In.tl)) ?_|exact MSub.refl _|refine MSub.drop .hd ?_));done))
  |((with_reducible apply ak);exact rfl;(with_reducible apply fq);exact rfl;exact rfl;(simp only [maxLen] at*;omega))
  |((with_reducible apply ak);exact rfl;(with_reducible apply FJ);exact rfl;exact rfl;(simp only [maxLen] at*;omega))
  |((with_reducible apply ak);exact rfl;(with_reducible apply dE);exact rfl;exact rfl;(simp only [maxLen] at*;omega)))
 all_goals first
  |(exfalso;omega)
  |(refine ⟨(i+1,mB P M,⟨a2.e,a2.r,a2.g,a2.l,A17,a2.ce,a2.cr,a2.cg,a2.cl,c17⟩),⟨by dsimp only;omega,hn1,hn2,by dsimp only;rw [hn3];omega,hn4⟩,by dsimp only;omega,by exact sB,by exact sB,by dsimp only;(try unfold aN);exact mS⟩;done)
end Go.SL
