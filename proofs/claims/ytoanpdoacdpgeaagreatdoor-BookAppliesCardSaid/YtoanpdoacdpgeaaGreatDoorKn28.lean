/-
  Lemmas and walks, put together: Oq Lr D12 K2 E2 K1 Il Fd Q2.
-/
import Derived.Ground.SlgmProg
import Derived.Shelf.SortM.Plain
import Derived.Shelf.SortM.SortNone
import Derived.Test.YtoanpdoacdpgeaaGreatDoorRows
import Derived.Test.YtoanpdoacdpgeaaGreatDoorKn27
set_option linter.unusedSimpArgs false
set_option linter.unusedVariables false
set_option maxRecDepth 20000
namespace Go.SL
open Go
def ofR (b:ByteArray):Mn × Int × Int:=
 if 256<b.size then (pI,0,5)
 else match (ap b).findIdx? (fun c=> !bz c) with
  |some i=>(pI,(i:Int),4)
  |none=>
   if (ap b).headD 0≠61 then (⟨false,uk b,[]⟩,0,0)
   else match cY (bM bC (ap (sub b 1 b.size))) ((sub b 1 b.size).size:Int) with
    |(t,at_,e)=>if e≠0 then (pI,IntKind.i64.wrap (at_+1),e) else (⟨true,bK,t⟩,0,0)
theorem xH {b:ByteArray} (h: ¬ 256<b.size) (hp:(ap b).findIdx? (fun c=> !bz c)=none):eB b=0:=by
 rw [OJ] at hp
 unfold eB
 rw [lN]
 have:(ap b).all bz=true:=by
  rw [Ou]
  intro c hc
  simpa using hp c hc
 simp [h,this]
theorem LK (b:ByteArray):ofP b=ofR b:=by
 unfold ofP ofR
 by_cases h1:256<b.size
 ·
  rw [if_pos h1,if_pos h1]
 rw [if_neg h1,if_neg h1]
 cases hf:(ap b).findIdx? (fun c=> !bz c) with
 |some i=>rfl
 |none=>
  dsimp only
  have hq:ap eqB= [61]:=rfl
  have hs:eqB.size=1:=rfl
  have h61:(ap b).take 1= [61]↔(ap b).headD 0=61:=by cases ap b<;>simp
  have hcut:ph b eqB=if (ap b).headD 0=61 then (sub b 1 b.size,true) else (b,false):=by
   unfold ph
   rw [hq,hs]
   by_cases h:(ap b).headD 0=61
   ·
    rw [if_pos (h61.2 h),if_pos h]
   ·
    rw [if_neg (fun h' =>h (h61.1 h')),if_neg h]
  rw [hcut]
  by_cases h2:(ap b).headD 0=61
  ·
   rw [if_pos h2,if_neg (by simp),if_neg (show ¬ ((ap b).headD 0≠61) from fun h=>h h2),BF]
  ·
   rw [if_neg h2,if_pos rfl,if_pos h2,Fz (xH h1 hf)]
def Chain:List Tk→Prop
 | []=>True
 |t::r=>(1≤t.kind∧t.kind≤11)∧(t.kind=7→(r.headD cU).kind=9)∧Chain r
theorem CD {l:List Int} {t:Tk} {n:Nat} (h:jL l=some (t,n)):t.kind=4:=by
 unfold jL at h
 obtain ⟨x,_,hx⟩:=Od.1 h
 cases hx;rfl
theorem BO {l:List Int} {t:Tk} {n:Nat} (h:gK l=some (t,n)):8≤t.kind∧t.kind≤11:=by
 unfold gK at h
 split at h
 ·
  cases h;simp
 ·
  split at h
  ·
   cases h;simp
  ·
   split at h
   ·
    cases h;simp
   ·
    split at h
    ·
     cases h;simp
    ·
     cases h
theorem BN {l:List Int} {t:Tk} {n:Nat} (h:iN l=some (t,n)):(1≤t.kind∧t.kind≤11)∧t.kind≠7:=by
 unfold iN at h
 split at h
 ·
  rename_i x hx
  cases h
  have:=CD hx
  omega
 ·
  have:=BO h
  omega
theorem Be {l:List Int} {t:Tk} {n:Nat} (h:f9 l=some (t,n)):(1≤t.kind∧t.kind≤11)∧(t.kind=7→(l.drop n).headD 0=40):=by
 unfold f9 at h
 split at h
 ·
  cases h
 ·
  split at h
  ·
   rename_i h1
   cases h
   exact ⟨by simp,fun _=>h1⟩
  ·
   split at h
   ·
    cases h;simp
   ·
    split at h
    ·
     cases h;simp
    ·
     split at h
     ·
      cases h
     ·
      split at h
      ·
       cases h
       simp only
       split<;>simp
      ·
       cases h;simp
theorem yP {l:List Int} {t:Tk} {n:Nat} (h:bC l=some (t,n)):(1≤t.kind∧t.kind≤11)∧(t.kind=7→(l.drop n).headD 0=40):=by
 unfold bC at h
 split at h
 ·
  obtain ⟨x,_,hx⟩:=Od.1 h
  cases hx;simp
 ·
  split at h
  ·
   obtain ⟨x,_,hx⟩:=Od.1 h
   cases hx;simp
  ·
   split at h
   ·
    exact Be h
   ·
    have:=BN h
    exact ⟨this.1,fun e=>absurd e this.2⟩
theorem lD (l:List Int):Fits l (bC l):=by
 intro t n h
 by_cases hd:aH (l.headD 0)=true
 ·
  unfold bC at h
  rw [if_pos hd,← tr] at h
  exact qB l t n h
 ·
  unfold bC at h
  rw [if_neg hd] at h
  split at h
  ·
   rename_i hq
   cases l with
   |nil=>cases hq
   |cons c r=>
    obtain ⟨⟨x,m⟩,hx,he⟩:=Od.1 h
    cases he
    rw [List.tail_cons,yR r.length r (Ni _)] at hx
    obtain ⟨k,hk,hk2⟩:=Option.bind_eq_some_iff.1 hx
    obtain ⟨y,_,hy⟩:=Od.1 hk2
    cases hy
    have:=mI r.length r k (Ni _) hk
    simp only [NB]
    omega
  ·
   split at h
   ·
    exact vk l t n h
   ·
    unfold iN at h
    split at h
    ·
     rename_i x hx
     cases h
     exact wm l t n hx
    ·
     exact vG l t n h
theorem yO {l:List Int} (h:l.headD 0=40): ∃ n,bC l=some (⟨9,0,au,aO,0⟩,n):=by
 unfold bC
 rw [h,if_neg (by decide),if_neg (by decide),if_neg (by decide),iN,kX (by omega)]
 simp only
 unfold gK
 rw [tj (by rw [h];decide) eD (by decide)]
 simp only [h,if_true]
 exact ⟨1,rfl⟩
theorem wY {l:List Int} {f i:Nat} {r:List Tk} (h:bn bC l (f+1) i= .ok r) (h1:(l.drop i).headD 0=40):(r.headD cU).kind=9:=by
 simp only [bn] at h
 cases hd:l.drop i with
 |nil=>rw [hd] at h1;cases h1
 |cons c q=>
  rw [hd] at h1 h
  simp only [Oz] at h1
  subst h1
  obtain ⟨n,hn⟩:=yO (l:=40::q) rfl
  simp only [hn] at h
  rw [if_neg (by decide)] at h
  cases hr:bn bC l f (i+n) with
  |error e=>rw [hr] at h;cases h
  |ok r' =>rw [hr] at h;cases h;rfl
theorem uO {l:List Int}: ∀ (f i:Nat) (r:List Tk),l.length - i≤f→bn bC l f i= .ok r→Chain r:=by
 intro f
 induction f with
 |zero=>intro i r _ h;cases h;trivial
 |succ f ih=>
  intro i r hf h
  simp only [bn] at h
  cases hd:l.drop i with
  |nil=>rw [hd] at h;cases h;trivial
  |cons c q=>
   rw [hd] at h
   have hlen:(l.drop i).length=q.length+1:=by rw [hd];rfl
   rw [Nq] at hlen
   simp only at h
   split at h
   ·
    exact ih (i+1) r (by omega) h
   ·
    cases ht:bC (c::q) with
    |none=>rw [ht] at h;cases h
    |some x=>
     obtain ⟨t,n⟩:=x
     rw [ht] at h
     simp only at h
     have hfit:=lD _ t n ht
     cases hr:bn bC l f (i+n) with
     |error e=>rw [hr] at h;cases h
     |ok r' =>
      rw [hr] at h
      cases h
      have hk:=yP ht
      refine ⟨hk.1,fun h7=> ?_,ih (i+n) r' (by omega) hr⟩
      have h40:=hk.2 h7
      rw [← hd,Ow] at h40
      cases f with
      |zero=>
       have:l.drop (i+n)= []:=by rw [List.drop_eq_nil_iff];omega
       rw [this] at h40;cases h40
      |succ f=>exact wY hr h40
theorem uN (l:List Int):Chain (bM bC l).1:=by
 unfold bM
 split
 ·
  trivial
 ·
  split
  ·
   trivial
  ·
   split
   ·
    rename_i r hr
    exact uO _ _ _ (by omega) hr
   ·
    trivial
theorem Chain.drop: ∀ {l:List Tk} (k:Nat),Chain l→Chain (l.drop k)
 |l,0,h=>h
 | [],k+1,h=>h
 |_::_,k+1,h=>Chain.drop k h.2.2
theorem Chain.name {l:List Tk} {fin:Int} (h:Chain l) (h7:(hdT fin l).kind=7):(hdT fin l.tail).kind=9:=by
 cases l with
 |nil=>cases h7
 |cons t r=>
  have h9:=h.2.1 h7
  cases r with
  |nil=>cases h9
  |cons u r=>exact h9
theorem Chain.kind {l:List Tk} {fin:Int} (h:Chain l):(hdT fin l).kind=0↔l= []:=by
 cases l with
 |nil=>exact ⟨fun _=>rfl,fun _=>rfl⟩
 |cons t r=>
  have:=h.1
  constructor
  ·
   intro e
   simp only [hdT,Oz] at e
   omega
  ·
   intro e;cases e
end Go.SL
namespace Go.SL
open Go Go.Proofs
attribute [local irreducible] W WL WQ WG WA WX WLI WR WT WC VOp RW thn blk bE scp ba bo bL aP FnIn FnP ceP
structure Et where
 at_:Rf
 input:ByteArray
def aB (e:Et):List Value:= [.int .i64 e.at_.col,.int .i64 e.at_.row,.string e.input]
theorem bg (e:Et):(aB e).length=3:=rfl
def jK (b:Option Rf) (e:Et):Int:=if e.at_.valid=false then 3 else if (match b with|some p=>eQ p e.at_|none=>true)=false then 12 else if e.input=au then 2 else (ofP e.input).2.2
def f6:Nat→Option Rf→List Et→Int × Int
 |_,_,[]=>(0,0)
 |i,b,e::r=>if jK b e≠0 then ((i:Int),jK b e) else f6 (i+1) (some e.at_) r
def gG (L:List Et):Int × Int:=f6 0 none L
def iE (L:List Et) (i:Nat):Option Rf:=if i=0 then none else (L[i - 1]?).map Et.at_
set_option maxHeartbeats 2000000 in
theorem u6 (L:List Et) (tv:Value) (w:World) (ht:Reads w tv L.length (L.flatMap aB)) (hlen:L.length≤1000000) (hW:Words w):
    ay Tryz.prog 59 [tv] w (.tuple #[.int .i64 (gG L).1,.int .i64 (gG L).2]):=by
  obtain ⟨Al,cl,rfl,hl1,hl2,hl3⟩:=ht
  refine aq Tryz.func59 rfl Tryz.ntmps59 rfl ?_
  repeat' (first|refine sT ?_|refine sS ?_|refine sM fun _=> ?_|(refine sC ?_ ?_<;>intro hb<;>try omega)|fail)
  refine ax [0,2,3,9,10] rfl (fun i:Nat=> [(11,.int .i64 (i:Int))]) (fun _=> []) (fun i=>i≤L.length∧gG L=f6 i (iE L i) (L.drop i)) (fun i=>L.length - i) 0 ⟨by omega,rfl⟩ sB (.refl _) ?_
  rintro i ⟨hi,hck⟩
  by_cases hlt:i<L.length
  · obtain ⟨gl,ol,rfl,hrl⟩:=hl3 (by omega)
    have he:=hrl.elem bg i hlt
    have hprev: ∀ h:0<i,Ro w gl (ol+(i - 1)*3) (aB L[i - 1]):=fun h=>hrl.elem bg (i - 1) (by omega)
    have hbef: ∀ h:0<i,iE L i=some L[i - 1].at_:=fun h=>by unfold iE;rw [if_neg (by omega),Nc (by omega)];rfl
    have hbef0:i=0→iE L i=none:=fun h=>by unfold iE;rw [if_pos h]
    have hnext:iE L (i+1)=some L[i].at_:=by unfold iE;rw [if_neg (by omega),OU,Nc hlt];rfl
    rw [Nn hlt,f6,← hnext] at hck
    generalize L[i]=e at he hck
    have hV: ∀ w',ay Tryz.prog 71 [.agg (cw e.at_).toArray] w' (.bool e.at_.valid):=fun w' =>j6 e.at_.col e.at_.row w'
    have hO:=fun (w' :World) (H' :List Blk) (hm:Mem w w' H')=>KU e.input w' (hW.next hm)
    by_cases h0:0<i
    · have hp:=hprev h0
      rw [hbef h0] at hck
      generalize L[i - 1]=b at hp hck
      have hL:=fun w' =>xW b.at_ e.at_ w'
      unfold jK at hck
      simp only at hck
      have hofV: ∀ (A:Option Nat) (cap:Nat),ofV A cap (ofP e.input)= .tuple #[.agg (xN (ofP e.input).1 (sl A (ofP e.input).1.tree.length cap)).toArray,.int .i64 (ofP e.input).2.1,.int .i64 (ofP e.input).2.2]:=fun _ _=>rfl
      simp only [hofV] at hO
      generalize ofP e.input=o at hO hck
      obtain ⟨⟨f1,f2,f3⟩,oa,oe⟩:=o
      simp only [xN] at hO
      simp only at hck
      generalize e.at_.valid=vd at hV hck
      generalize eQ b.at_ e.at_=ls at hL hck
      repeat' (first|(apply ak (d:=14);exact rfl;apply aj;exact rfl;exact rfl;exact hlt)|(apply ak (d:=15);exact rfl;apply aA;exact rfl;exact he;exact rfl)|(apply bZ (d:=29);(iterate 3 exact rfl);apply eH (o:=ol+(i - 1)*3) (off:=0) hp (ys:=cw b.at_);(iterate 3 exact rfl))|(apply aa;exact rfl;exact rfl;(intro w hm;exact hV w))|(apply (bp (id:=6) [11] []);kernel_rfl;kernel_rfl;kernel_rfl)|(apply bZ;(iterate 3 exact rfl);apply aj (j:=i - 1);exact rfl;exact rfl;omega)|(apply aa (f:=46);exact rfl;exact rfl;(intro w' hm;exact hL w'))|(apply aC (f:=99);exact rfl;exact rfl;(intro w' hm;exact hO w' _ hm);rintro _ _ ⟨A,cap,rfl,rfl⟩)|refine sT ?_|refine sS ?_|refine sW ?_|refine sN ?_|refine sWN ?_|refine sM fun _=> ?_|(refine sC ?_ ?_<;>intro hb<;>try omega)|(refine sCW ?_ ?_<;>intro hb<;>try omega)|fail)
      all_goals clear hofV
      all_goals first
        |(refine iJ eIO rfl rfl rfl (.nil _) ?_;rw [hck];simp_all [au];done)
        | (refine ⟨i + 1, ⟨hlt, ?_⟩, by omega, ?_, ?_, .nil _⟩
           · rw [hck];simp_all [au]
           · exact sB
           · exact sB)
    · have h00:i=0:=by omega
      rw [hbef0 h00] at hck
      unfold jK at hck
      simp only at hck
      have hofV: ∀ (A:Option Nat) (cap:Nat),ofV A cap (ofP e.input)= .tuple #[.agg (xN (ofP e.input).1 (sl A (ofP e.input).1.tree.length cap)).toArray,.int .i64 (ofP e.input).2.1,.int .i64 (ofP e.input).2.2]:=fun _ _=>rfl
      simp only [hofV] at hO
      generalize ofP e.input=o at hO hck
      obtain ⟨⟨f1,f2,f3⟩,oa,oe⟩:=o
      simp only [xN] at hO
      simp only at hck
      generalize e.at_.valid=vd at hV hck
      repeat' (first|(apply ak (d:=14);exact rfl;apply aj;exact rfl;exact rfl;exact hlt)|(apply ak (d:=15);exact rfl;apply aA;exact rfl;exact he;exact rfl)|(apply aa;exact rfl;exact rfl;(intro w hm;exact hV w))|(apply (bp (id:=6) [11] []);kernel_rfl;kernel_rfl;kernel_rfl)|(apply aC (f:=99);exact rfl;exact rfl;(intro w' hm;exact hO w' _ hm);rintro _ _ ⟨A,cap,rfl,rfl⟩)|refine sT ?_|refine sS ?_|refine sW ?_|refine sN ?_|refine sWN ?_|refine sM fun _=> ?_|(refine sC ?_ ?_<;>intro hb<;>try omega)|(refine sCW ?_ ?_<;>intro hb<;>try omega)|fail)
      all_goals clear hofV
      all_goals first
        |(refine iJ eIO rfl rfl rfl (.nil _) ?_;rw [hck];simp_all [au];done)
        | (refine ⟨i + 1, ⟨hlt, ?_⟩, by omega, ?_, ?_, .nil _⟩
           · rw [hck];simp_all [au]
           · exact sB
           · exact sB)
  · have e2:i=L.length:=by omega
    subst e2
    rw [NF,f6] at hck
    repeat' (first|refine sT ?_|refine sS ?_|refine sM fun _=> ?_|(refine sC ?_ ?_<;>intro hb<;>try omega)|fail)
    all_goals (refine iJ eIO rfl rfl rfl (.nil _) ?_;rw [hck])
theorem jv (L:List Et): ∀ u∈L.flatMap aB,u.oneCell' =true:=by
 intro u hu
 obtain ⟨x,_,hx⟩:=NU.1 hu
 simp only [aB,NA,OL,or_false] at hx
 rcases hx with rfl|rfl|rfl<;>rfl
theorem uD (L:List Et) (tv:Value) (w:World) (ht:Reads w tv L.length (L.flatMap aB)) (hlen:L.length≤1000000):
  aP Tryz.prog 35 [tv] w fun v H=> ∃ A cap,v=sl A L.length cap∧H= [.own A 52 3 L.length cap (L.flatMap aB)]:=by
 refine aq Tryz.func35 rfl Tryz.ntmps35 rfl ?_
 have hl:(L.flatMap aB).length=L.length*3:=aK bg L
 refine aD 52 3 ?_
 repeat' (first|(apply bT (n' :=0) (c:=0) (A:=none) (m:=L.length);(iterate 3 exact rfl);exact pK;(intro w hm;exact ht.of_w0 hm);exact hl;exact jv L;omega;(simp only [maxLen];omega);intro A' cap' hA)|refine sT ?_|refine sM fun _=> ?_|(refine sC ?_ ?_<;>intro hb<;>try omega)|fail)
 exact cG (.inl rfl) Tryz.results35 rfl (H' := [.own A' 52 3 (0+L.length) cap' ([]++L.flatMap aB)]) mS ⟨A',cap',by rw [Ny],by rw [Ny];rfl⟩
end Go.SL
namespace Go.SL
open Go Go.Proofs
instance:DecidableEq Et:=fun a b=>decidable_of_iff (a.at_=b.at_∧a.input=b.input) (by
 obtain ⟨a1,a2⟩:=a
 obtain ⟨b1,b2⟩:=b
 simp)
theorem MK {a b:Et}:a=b↔a.at_=b.at_∧a.input=b.input:=by
 obtain ⟨a1,a2⟩:=a
 obtain ⟨b1,b2⟩:=b
 simp
theorem GW (w:World) (d:Nat) (a b:Et):(Op.equalIn (d+5) 52 (.agg (aB a).toArray) (.agg (aB b).toArray)).run Tryz.prog w= .ok (decide (a=b)) w:=by
 rw [run_equalIn_agg w (d+4) 52 _ _ (by rw [Program.fieldsOf,Tryz.underlying52]) Tryz.stoodInHeld52]
 simp only [Program.fieldsOf,Tryz.underlying52]
 have hr: ∀ (a b:Rf) w,(Op.equalIn (d+4) 50 (.agg #[.int .i64 a.col,.int .i64 a.row]) (.agg #[.int .i64 b.col,.int .i64 b.row])).run Tryz.prog w= .ok (eqF a b) w:=fun a b w=>rp w (d+1) a b
 simp [Op.eqFields,aB,part,go_sem,py,q9,hr]
 by_cases h1:eqF a.at_ b.at_=true<;>by_cases h2:a.input=b.input<;>simp [h1,h2,MK]<;>(rw [i9] at h1;exact h1)
section
variable {w0:World} {s:az} {H:List Blk} {ty t' :TypeId} {x y:Operand}
theorem JF {a b:Et} (hx:ev s x=some (.agg (aB a).toArray)) (hy:ev s y=some (.agg (aB b).toArray)):VOp Tryz.prog w0 s H (.binOp .neq 52 x y t') ty (.bool (!decide (a=b))):=fun ρ w _ _ _ _ hρ _=>by
 have h:=GW w 9995 a b
 simp only [Nat.reduceAdd] at h
 simp only [execOp,hρ x _ hx,hρ y _ hy,Sem.run_bind,run_eqGuard_agg w _ _ _ _ _ _ Tryz.eqGuardType52,Result.andThen_ok,run_neq_struct,h,Sem.run_pure]
end
end Go.SL
namespace Go.SL
open Go Go.Proofs
attribute [local irreducible] W WL WQ WG WA WX WLI WR WT WC VOp RW thn blk bE scp ba bo bL aP FnIn FnP ceP
theorem ra (L M:List Et) (lv mv:Value) (w:World) (hl:Reads w lv L.length (L.flatMap aB)) (hm:Reads w mv M.length (M.flatMap aB)):
  ay Tryz.prog 53 [lv,mv] w (.bool (decide (L=M))):=by
 obtain ⟨Al,cl,rfl,hl1,hl2,hl3⟩:=hl
 obtain ⟨Am,cm,rfl,hm1,hm2,hm3⟩:=hm
 refine aq Tryz.func53 rfl Tryz.ntmps53 rfl ?_
 by_cases hlen:L.length=M.length
 ·
  repeat' (first|refine sT ?_|refine sS ?_|refine sM fun _=> ?_|(refine sC ?_ ?_<;>intro hb<;>try omega)|fail)
  refine fq (fun i:Nat=> [(0,.slice Al L.length cl),(1,.slice Am M.length cm),(5,.int .i64 (i:Int))]) (fun _=> []) (fun i=>i≤L.length∧decide (L=M)=decide (L.drop i=M.drop i)) (fun i=>L.length - i) 0 ⟨by omega,rfl⟩ ?_ ?_ ?_
  ·
   exact sB
  ·
   exact mS
  ·
   rintro i ⟨hi,hrec⟩
   by_cases hlt:i<L.length
   ·
    have hlt2:i<M.length:=by omega
    obtain ⟨gl,ol,rfl,hrl⟩:=hl3 (by omega)
    obtain ⟨gm,om,rfl,hrm⟩:=hm3 (by omega)
    have he1:=hrl.elem bg i hlt
    have he2:=hrm.elem bg i hlt2
    rw [o6 hlt hlt2] at hrec
    repeat' (first|(apply aS;exact rfl;apply aj;exact rfl;exact rfl;(first|exact hlt|exact hlt2))|(apply aS;exact rfl;apply aA;exact rfl;(first|exact he1|exact he2);exact rfl)|(apply aS;exact rfl;apply JF;exact rfl;exact rfl)|(apply ak;exact rfl;apply gj;exact rfl;exact rfl;(simp only [maxLen] at*;omega))|refine sT ?_|refine sS ?_|refine sQ ?_|refine sD ?_|refine sM fun _=> ?_|(refine sC ?_ ?_<;>intro hb<;>try omega)|(refine sCQ ?_ ?_<;>intro hb<;>try omega)|fail)
    ·
     (refine rT1 ?_)
     rw [hrec]
     simp_all
    ·
     refine ⟨i+1,⟨by omega,?_⟩,by omega,?_,?_⟩
     ·
      rw [hrec]
      simp_all
     ·
      exact sB
     ·
      exact mS
   ·
    have e:i=L.length:=by omega
    subst e
    repeat' (first|refine sT ?_|refine sS ?_|refine sM fun _=> ?_|(refine sC ?_ ?_<;>intro hb<;>try omega)|fail)
    (refine rT1 ?_)
    rw [hrec,NF,hlen,NF]
    rfl
 ·
  repeat' (first|refine sT ?_|refine sS ?_|refine sM fun _=> ?_|(refine sC ?_ ?_<;>intro hb<;>try omega)|fail)
  (refine rT1 ?_)
  rw [decide_eq_false]
  intro e
  exact hlen (congrArg List.length e)
end Go.SL
namespace Go.SL
open Go Go.Proofs
attribute [local irreducible] W WL WQ WG WA WX WLI WR WT WC WE RW thn blk bE scp ba bo bL aP FnIn FnP ceP
section
variable {P:Program} {w0:World} {s:az} {H:List Blk} {ty:TypeId}
theorem Gm {t e hi m c sz:Nat} {A:Option Nat} {x q r:Operand} {k k' :IntKind} [ht:Und P t (.slice e)] [hz:Size P e sz] (hx:ev s x=some (sl A m c)) (hq:ev s q=some (.int k (hi:Nat))) (hr:ev s r=some (.int k' (hi:Nat))) (h2:hi≤c):
  VOp P w0 s H (.slice t x none (some q) (some r)) ty (sl A hi hi):=fun ρ w _ _ _ _ hρ _=>by
 obtain ⟨i,hi1,hi2⟩:=hz.out
 have e2:((hi:Nat):Int)≤((c:Nat):Int):=by omega
 have e3:((0:Nat):Int)≤((hi:Nat):Int):=by omega
 have e4:(A.map fun g=>(⟨g,0,none⟩:Addr)).map (·.add 0)=A.map fun g=>⟨g,0,none⟩:=by cases A<;>simp [cE]
 unfold sl at hx ⊢
 simp [execOp,hρ x _ hx,hρ q _ hq,hρ r _ hr,Instr.sliceAt,run_underlying ht.out,Instr.slice,Instr.sliceBounds,Instr.sliceBound,asIntOf,sizeOf,typeInfo,hi1,h2]
 intro _
 cases A<;>simp [cE]
end
attribute [local irreducible] VOp
theorem ER {w0 w:World} {H:List Blk} {A:Option Nat} {cap i:Nat} {L:List Et} (hm:Mem w0 w H) (hi:In (.own A 52 3 L.length cap (L.flatMap aB)) H) (h:i≤L.length):Reads w (sl A i i) i ((L.take i).flatMap aB):=by
 have h1:=Reads.of_own hm hi
 obtain ⟨A',c',e,h2,h3,h4⟩:=h1
 unfold sl at e
 cases e
 refine ⟨_,_,rfl,Ni _,by omega,fun hp=> ?_⟩
 obtain ⟨g,o,e,hr⟩:=h4 (by omega)
 refine ⟨g,o,e,?_⟩
 rw [← jd bg]
 exact hr.take
set_option maxHeartbeats 8000000 in
theorem Fg (L:List Et) (i:Nat) (hi:i≤L.length) (x:Et) (A:Option Nat) (cap:Nat) (hL:L.length≤1000000) (w0:World) (R:List Blk):
  FnIn Tryz.prog 47 [sl A L.length cap,.int .i64 (i:Int),.agg (aB x).toArray] w0 (.own A 52 3 L.length cap (L.flatMap aB)::R) fun v H=> ∃ A' c,v=sl A' (L.length+1) c∧H= .own A' 52 3 (L.length+1) c ((L.take i++x::L.drop i).flatMap aB)::R:=by
 refine dZ Tryz.func47 rfl Tryz.ntmps47 rfl ?_
 refine K7 (A:=A) .hd fun hle=> ?_
 repeat' (first|refine sT ?_|refine sS ?_|refine sM fun _=> ?_|(refine sC ?_ ?_<;>intro hb<;>try omega)|fail)
 rename_i g5
 have hrd:=fun (w:World) (H:List Blk) (hi2:In (.own A 52 3 L.length cap (L.flatMap aB)) H) (hm:Mem w0 w H)=>ER hm hi2 hi
 have hdr:(((L.flatMap aB).drop (i*3)).take ((L.length - i)*3))=(L.drop i).flatMap aB:=by
  rw [je bg]
  exact NQ (by rw [aK bg,Nq];exact Ni _)
 have hrd2:=fun (w:World) (H:List Blk) (hi2:In (.own A 52 3 L.length cap (L.flatMap aB)) H) (hm:Mem w0 w H)=>hdr ▸ (Reads.of_own hm hi2).cut (lo:=i) (hi:=L.length) hi (Ni _)
 refine fP (id:=1) [5,6,10] [] [.box g5 52 (aB x),.own A 52 3 L.length cap (L.flatMap aB)] (by kernel_rfl) (by kernel_rfl) (by kernel_rfl) mS ?_
 repeat' (first|(apply bZ (d:=10);(iterate 3 exact rfl);apply Gm (hi:=i);(iterate 3 exact rfl);omega)|(apply bZ (d:=16);(iterate 3 exact rfl);apply iQ (lo:=i) (hi:=L.length);exact rfl;exact ⟨_,rfl⟩;exact rfl;exact hi;exact hle)|(apply Bi (d:=13) (n' :=i) (m:=1);(iterate 3 exact rfl);(intro w hm;exact hrd w _ pK hm);exact aK bg _|>.trans (by rw [Nu];congr 1;omega);(intro w hm;exact hm.cells_own pK);exact rfl;(intro u hu;simp [aB] at hu;rcases hu with rfl|rfl|rfl<;>rfl);omega;omega;(simp only [maxLen];omega);intro g13 c13)|(apply bT (d:=17) (n' :=i+1) (m:=L.length - i);(iterate 3 exact rfl);exact pK;(intro w hm;exact hrd2 w _ pK hm);(rw [aK bg,Nq]);exact jv _;omega;(simp only [maxLen];omega);intro A17 c17 h17)|refine sT ?_|refine sS ?_|refine sW ?_|refine sM fun _=> ?_|(refine sC ?_ ?_<;>intro hb<;>try omega)|(refine sCW ?_ ?_<;>intro hb<;>try omega)|fail)
 have e1:i+1+(L.length - i)=L.length+1:=by omega
 have e2:(L.take i++x::L.drop i).flatMap aB=(L.take i).flatMap aB++ [.int .i64 x.at_.col,.int .i64 x.at_.row,.string x.input]++(L.drop i).flatMap aB:=by
  rw [Nt,Np,NG]
  rfl
 rw [e2,e1]
 exact cG (.inl rfl) rfl rfl (H' := .own A17 52 3 (L.length+1) c17 ((L.take i).flatMap aB++ [.int .i64 x.at_.col,.int .i64 x.at_.row,.string x.input]++(L.drop i).flatMap aB)::R) mS ⟨A17,c17,rfl,rfl⟩
end Go.SL
namespace Go.SL
open Go Go.Proofs Go.ChangeShapes Go.WideShapes Go.ChangeAt Go.RowKit Go.Deep
section
variable {H:Type} {enc:TypeId × Value→H} {P:Program} {w:World} {base:Nat} {spare:Nat→Bool} {held:Bool}
theorem uZ {f:Func} {s:ChangeSpec} {apart fresh handsOn again:Bool} {W W' :World} {args:Array Value} {v:Value} {ds gs:List (DataW H)} {before pa pv:List MemPlace}
  (hW:DataW.Whole enc P f.params.toList s.vars apart W args.toList ds gs before)
  (hres: ∀ (b:Nat) (sp:Nat→Bool) (hd:Bool),DataW.TrodAll enc P W' b sp hd f.resultTypes.toList (v.resultList f.resultTypes.size) (s.fn H (ds++gs)).results [])
  (hargs: ∀ sp:Nat→Bool,(∀ p∈before,sp p.block=true)→DataW.TrodAll enc P W' 0 sp true f.params.toList args.toList (s.fn H (ds++gs)).args pa)
  (hvars: ∀ sp:Nat→Bool,(∀ p∈before,sp p.block=true)→DataW.TrodVars enc P W' sp s.vars (s.fn H (ds++gs)).vars pv)
  (hps:before=pa++pv) (hb:Below W.heap.size W W')
  (hok: ∀ (j:Nat) (t:TypeId) (r:Value),f.resultTypes[j]? =some t→(v.resultList f.resultTypes.size)[j]? =some r→Value.okWide P W' .any 0 t r):
  s.post enc P f apart fresh handsOn again W args v W' :=by
 have hold: ∀ p∈before,(fun b=>decide (b<W.heap.size)) p.block=true:=fun p hp=>by simpa using hW.lt p hp
 refine ⟨ds,gs,before,[],pa,pv,hW,hres _ _ _,hargs _ hold,hvars _ hold,hb.frame _,fun _=> ?_⟩
 have hlt:=hW.lt
 obtain ⟨_,_,_,_,_,hz,hn⟩:=hW
 refine ⟨hok,_,_,([]++pa)++pv,⟨[]++pa,pv,trodAll_append (hargs _ (fun _ _=>rfl)) (hres _ _ _),hvars _ (fun _ _=>rfl),rfl,?_,?_⟩,?_⟩
 ·
  intro b off hp
  have hp' :MemPlace.cell b off∈before:=by rw [hps];simpa using hp
  have h1:=hz b off hp'
  have h2:=hlt _ hp'
  rw [← h1]
  exact hb.frozen h2
 ·
  intro ha
  have:=hn ha
  rw [hps] at this
  simpa using this
 ·
  intro p hp _
  rw [hps]
  simpa using hp
theorem mQ {t:TypeId} (hl:laidOutB P=true) (hr:P.readableRec t=true) (hrow:t<P.types.size) {W W' :World} {v:Value} {d:DataW H} {ps:List MemPlace} {sp:Nat→Bool}
  (h:DataW.Trod enc P W 0 (fun _=>true) true t v d ps) (hb:Below W.heap.size W W') (hlt: ∀ x∈ps,x.block<W.heap.size) (hs: ∀ x∈ps,sp x.block=true):DataW.Trod enc P W' 0 sp true t v d ps:=
 WideElems.Trod_stays hl hr hrow h (fun x hx=>hb.same (hlt x hx)) hs
end
theorem KA:ownKnob Tryz.prog.godebug=none:=by kernel_rfl
theorem mh:laidOutB Tryz.prog=true:=by kernel_rfl
section
variable {H:Type} {enc:TypeId × Value→H} {w:World} {base:Nat} {spare:Nat→Bool} {held:Bool}
theorem uo {α:Type} {enc:α→List Value} {m:Nat} (hm: ∀ a,(enc a).length=m) (w:World) (g o:Nat): ∀ (L:List α),(∀ (i:Nat) (a:α),L[i]? =some a→Cells w g (o+i*m) (enc a))→Cells w g o (L.flatMap enc):=by
 intro L h j v hv
 by_cases hm0:m=0
 ·
  have:(L.flatMap enc).length=0:=by rw [aK hm,hm0,Nat.mul_zero]
  rw [Oy (by omega)] at hv
  cases hv
 have hlen:(L.flatMap enc).length=L.length*m:=aK hm L
 have hj:j<(L.flatMap enc).length:=(Nw.1 hv).1
 have hi:j / m<L.length:=by rw [Nat.div_lt_iff_lt_mul (by omega)];omega
 have hk:j % m<m:=Nat.mod_lt _ (by omega)
 have he:j / m*m+j % m=j:=by rw [Nat.mul_comm];exact Nat.div_add_mod j m
 have h1:=v7 hm L (j / m) (j % m) hi hk
 rw [he,hv] at h1
 have h2:=h (j / m) L[j / m] (Nc hi) (j % m) v h1.symm
 rw [show o+j / m*m+j % m=o+j by omega] at h2
 exact h2
theorem ku {α:Type} [Inhabited α] {encA:α→List Value} {ok:α→Prop} {P:Program} {t e m fuel:Nat} {cs:List Value} {x:DataW H × List MemPlace} (ht:P.underlying t=some (.slice e)) (hm:P.cellsOf e=m) (hm0:0<m) (hlenA: ∀ a,(encA a).length=m)
  (helem: ∀ (n:Nat) (cs:List Value) (y:DataW H × List MemPlace),DataW.trod enc P w 0 spare held n e cs=some y→ ∃ a,cs=encA a∧ok a) (h:DataW.trod enc P w 0 spare held fuel t cs=some x):
  ∃ (v:Value) (L:List α),cs= [v]∧Reads w v L.length (L.flatMap encA)∧ ∀ a∈L,ok a:=by
 rcases open_slice ht h with ⟨h0,_⟩|⟨a,len,cap,mm,n,D,Pl,h0,hb,hl,hmx,hmm,_,hx⟩
 ·
  exact ⟨_,[],h0,⟨none,0,rfl,Ni _,Ns _,fun h=>by cases h⟩,fun _ h=>by cases h⟩
 ·
  have hlm:len≤mm:=by rw [hmm];split<;>omega
  obtain ⟨F,hF⟩:=choose_lt (α:=α) (n:=len) (p:=fun i nd=>w.cells? 0 (a.add (i*m)) m=some (encA nd)∧ok nd) (fun i hi=>by
   obtain ⟨cs',h1,h2⟩:=hx i (by omega)
   rw [hm] at h1
   obtain ⟨nd,rfl,hw⟩:=helem _ _ _ h2
   exact ⟨nd,h1,hw⟩)
  have hlen:((List.range len).map F).length=len:=by simp
  refine ⟨_,(List.range len).map F,h0,⟨some a,cap,by rw [hlen],by omega,hmx,fun hpos=> ?_⟩,fun n hn=> ?_⟩
  rotate_left
  ·
   obtain ⟨i,hi,rfl⟩:=OQ.1 hn
   exact (hF i (List.mem_range.1 hi)).2
  rw [hlen] at hpos
  obtain ⟨g,o,spot⟩:=a
  have hspot:spot=none:=by
   obtain ⟨_,_,h3⟩:=World.cells?_some (hF 0 (by omega)).1
   have h4' :=h3 0 hm0
   rw [Nc (by rw [hlenA];exact hm0)] at h4'
   have h4:=World.cell?_spot h4'
   simpa [Addr.add] using h4
  subst hspot
  have hcell: ∀ (i:Nat) (nd:α),((List.range len).map F)[i]? =some nd→Cells w g (o+i*m) (encA nd):=by
   intro i nd hnd k v hv
   have hil:i<len:=by have:=(Nw.1 hnd).1;omega
   have hnd' :F i=nd:=by simpa [hil] using hnd
   subst hnd'
   have hk:k<m:=by have:=(Nw.1 hv).1;rwa [hlenA] at this
   obtain ⟨_,_,h3⟩:=World.cells?_some (hF i hil).1
   have:=h3 k hk
   rw [hv,cE,cE] at this
   exact this
  refine ⟨g,o,rfl,?_,uo hlenA w g o _ hcell⟩
  obtain ⟨u,hu⟩: ∃ u,(encA (F 0))[0]? =some u:=⟨_,Nc (by rw [hlenA];exact hm0)⟩
  have h5:=hcell 0 (F 0) (by simp [hpos]) 0 u hu
  simp only [World.cell?] at h5
  split at h5
  ·
   rename_i h6
   exact (NH.1 h6).1
  ·
   cases h5
theorem fw {n:Nat} {c:Value} {x:DataW H × List MemPlace} (h:DataW.trod enc Tryz.prog w base spare held n 3 [c]=some x): ∃ a,c= .int .i64 a∧I64 a:=by
 obtain ⟨a0,q0,_,w0⟩:=DataW.trod_int Tryz.underlying3 h
 simp only [List.cons.injEq,and_true] at q0
 exact ⟨a0,q0,bounds_i64 w0⟩
theorem Ls {n:Nat} {c:Value} {x:DataW H × List MemPlace} (h:DataW.trod enc Tryz.prog w base spare held n 9 [c]=some x): ∃ a,c= .string a:=by
 obtain ⟨a0,q0,_⟩:=DataW.trod_string Tryz.underlying9 h
 simp only [List.cons.injEq,and_true] at q0
 exact ⟨a0,q0⟩
def okF (a:Rf):Prop:=I64 a.col∧I64 a.row
def okR (r:Rct):Prop:=I64 r.c1∧I64 r.r1∧I64 r.c2∧I64 r.r2
set_option maxRecDepth 100000 in
theorem yI {fuel:Nat} {cs:List Value} {x:DataW H × List MemPlace} (h:DataW.trod enc Tryz.prog w base spare held fuel 50 cs=some x): ∃ v:Rf,cs=cw v∧okF v:=by
 obtain ⟨xs,n,_,_,hlen,hxl,hf⟩:=DataW.trod_struct Tryz.underlying50 h
 have eS:Tryz.prog.cellsOf 50=2:=by kernel_rfl
 have eI:Tryz.prog.cellsOf 3=1:=by kernel_rfl
 rw [eS] at hlen
 match cs,hlen,xs,hxl with
 | [c0,c1],_,[x0,x1],_=>
  have h0:DataW.trod enc Tryz.prog w base spare held n 3 ((([c0,c1]:List Value).drop 0).take (Tryz.prog.cellsOf 3))=some x0:=hf 0 _ rfl
  rw [eI] at h0
  obtain ⟨a0,rfl,w0⟩:=fw (c:=c0) h0
  have h1:DataW.trod enc Tryz.prog w base spare held n 3 ((([Value.int .i64 a0,c1]:List Value).drop 1).take (Tryz.prog.cellsOf 3))=some x1:=hf 1 _ rfl
  rw [eI] at h1
  obtain ⟨a1,rfl,w1⟩:=fw (c:=c1) h1
  exact ⟨⟨a0,a1⟩,rfl,w0,w1⟩
set_option maxRecDepth 100000 in
theorem j8 {fuel:Nat} {cs:List Value} {x:DataW H × List MemPlace} (h:DataW.trod enc Tryz.prog w base spare held fuel 32 cs=some x): ∃ v:Rct,cs=bH v∧okR v:=by
 obtain ⟨xs,n,_,_,hlen,hxl,hf⟩:=DataW.trod_struct Tryz.underlying32 h
 have eS:Tryz.prog.cellsOf 32=4:=by kernel_rfl
 have eI:Tryz.prog.cellsOf 3=1:=by kernel_rfl
 rw [eS] at hlen
 match cs,hlen,xs,hxl with
 | [c0,c1,c2,c3],_,[x0,x1,x2,x3],_=>
  have h0:DataW.trod enc Tryz.prog w base spare held n 3 ((([c0,c1,c2,c3]:List Value).drop 0).take (Tryz.prog.cellsOf 3))=some x0:=hf 0 _ rfl
  rw [eI] at h0
  obtain ⟨a0,rfl,w0⟩:=fw (c:=c0) h0
  have h1:DataW.trod enc Tryz.prog w base spare held n 3 ((([Value.int .i64 a0,c1,c2,c3]:List Value).drop 1).take (Tryz.prog.cellsOf 3))=some x1:=hf 1 _ rfl
  rw [eI] at h1
  obtain ⟨a1,rfl,w1⟩:=fw (c:=c1) h1
  have h2:DataW.trod enc Tryz.prog w base spare held n 3 ((([Value.int .i64 a0,.int .i64 a1,c2,c3]:List Value).drop 2).take (Tryz.prog.cellsOf 3))=some x2:=hf 2 _ rfl
  rw [eI] at h2
  obtain ⟨a2,rfl,w2⟩:=fw (c:=c2) h2
  have h3:DataW.trod enc Tryz.prog w base spare held n 3 ((([Value.int .i64 a0,.int .i64 a1,.int .i64 a2,c3]:List Value).drop 3).take (Tryz.prog.cellsOf 3))=some x3:=hf 3 _ rfl
  rw [eI] at h3
  obtain ⟨a3,rfl,w3⟩:=fw (c:=c3) h3
  exact ⟨⟨a0,a1,a2,a3⟩,rfl,w0,w1,w2,w3⟩
instance:Inhabited Et:=⟨⟨⟨0,0⟩,au⟩⟩
set_option maxRecDepth 100000 in
theorem E3 {α:Type} [Inhabited α] {encA:α→List Value} {ok:α→Prop} {t e m:Nat} {v:Value} {d:DataW H} {p:List MemPlace} (ht:Tryz.prog.underlying t=some (.slice e)) (hm:Tryz.prog.cellsOf e=m) (hm0:0<m) (hlenA: ∀ a,(encA a).length=m)
  (helem: ∀ (n:Nat) (cs:List Value) (y:DataW H × List MemPlace),DataW.trod enc Tryz.prog w 0 spare held n e cs=some y→ ∃ a,cs=encA a∧ok a)
  (hv:Value.okWide Tryz.prog w .any base t v) (h:DataW.Trod enc Tryz.prog w 0 spare held t v d p): ∃ L:List α,Reads w v L.length (L.flatMap encA)∧ ∀ a∈L,ok a:=by
 obtain ⟨fuel,hf⟩:=h
 have hc:v.cells.toList= [v]:=by
  obtain ⟨a,n,c,rfl⟩:=okWide_slice ht hv
  rfl
 rw [hc] at hf
 obtain ⟨v',L,q,h1,h2⟩:=ku ht hm hm0 hlenA helem hf
 simp only [List.cons.injEq,and_true] at q
 subst q
 exact ⟨L,h1,h2⟩
end
end Go.SL
namespace Go.SL
open Go Go.Proofs
attribute [local irreducible] W WL WQ WG WA WX WLI WR WT WC VOp RW thn blk bE scp ba bo bL aP FnIn FnP ceP
structure Cx where
 g:Nat
 sa:ByteArray
 A:Option Nat
 cap:Nat
 toks:List Tk
 hsa:sa.size≤256
 ht:toks.length≤256
 hc:Chain toks
def Cx.fin (x:Cx):Int:=(x.sa.size:Int)
def Cx.B (x:Cx) (k:Nat) (B:Option Nat) (cb:Nat) (out:List Nd) (at_ e:Int):List Blk:=rB x.g x.sa x.A x.cap x.toks k B cb out at_ e
def RR (x:Cx) (j m:Nat) (R:List Blk) (r:Out) (v:Value) (H:List Blk):Prop:=v= .tuple #[]∧match r with
 | .ok (_,p')=> ∃ k' B' cb',k' ≤x.toks.length∧p'.l=x.toks.drop k' ∧j≤k' ∧p'.out.length+j≤m+k' ∧H=x.B k' B' cb' p'.out 0 0++R
 | .error e=> ∃ k' B' cb' out',e.2≠0∧k' ≤x.toks.length+1∧j≤k' ∧out'.length+j≤m+k' ∧H=x.B k' B' cb' out' e.1 e.2++R
def KT (F:Int→PS→Option Out) (fid:FuncId) (args:List Value):Prop:=
 ∀ (x:Cx) (k:Nat) (p:PS) (B:Option Nat) (cb:Nat) (r:Out) (R:List Blk) (w0:World),k≤x.toks.length→p.l=x.toks.drop k→p.out.length≤k→F x.fin p=some r→
  FnIn Tryz.prog fid (.pointer (some ⟨x.g,0,none⟩)::args) w0 (x.B k B cb p.out 0 0++R) (RR x k p.out.length R r)
def mP (f:Nat) (j:Job) (fid:FuncId) (args:List Value):Prop:=KT (fun fin p=>bG fin f j p) fid args
theorem Cx.lt {x:Cx} {k:Nat} {t:Tk} (hd:hdT x.fin (x.toks.drop k)=t) (h:t.kind≠0):k<x.toks.length:=by
 rcases OO k x.toks.length with h1|h1
 ·
  exact h1
 ·
  rw [rz h1] at hd
  subst hd
  exact absurd rfl h
theorem Cx.skip {x:Cx} {k:Nat} {p:PS} (h:p.l=x.toks.drop k):p.skip.l=x.toks.drop (k+1):=by
 simp only [PS.skip];rw [h,Pu]
theorem Cx.next {x:Cx} {k:Nat} {t:Tk} (hd:hdT x.fin (x.toks.drop k)=t) {B:Option Nat} {cb:Nat} {out:List Nd} {at_ e:Int} {H:List Blk} {w0:World} (hH:MSub (x.B k B cb out at_ e) H) (w:World) (hm:Mem w0 w H):
  ay Tryz.prog 197 [.pointer (some ⟨x.g,0,none⟩)] w (.agg (bh t).toArray):=sZ (Nz x.hsa (by decide)) (Nz x.ht (by decide)) hd hH w hm
theorem Cx.op {x:Cx} {k:Nat} {t:Tk} (hd:hdT x.fin (x.toks.drop k)=t) (q:Int) {B:Option Nat} {cb:Nat} {out:List Nd} {at_ e:Int} {H:List Blk} {w0:World} (hH:MSub (x.B k B cb out at_ e) H) (w:World) (hm:Mem w0 w H):
  ay Tryz.prog 241 [.pointer (some ⟨x.g,0,none⟩),.int .i64 q] w (.bool (decide (t.kind=8∧fV t.num=q))):=Lz q (Nz x.hsa (by decide)) (Nz x.ht (by decide)) hd hH w hm
theorem CT (q:Int):(fV q=6)↔(q=5):=by
 unfold fV
 repeat' split
 all_goals omega
theorem IY (q:Int):(fV q=7)↔(q=13):=by
 unfold fV
 repeat' split
 all_goals omega
theorem jo {fn:Func} {fr:Fr} {w0:World} {R H:List Blk} {x:Cx} {j m n k' :Nat} {p' :PS} {B' :Option Nat} {cb' :Nat} {e:Exit} {s:az} (he:e= .ret∨e= .normal) (hf:fn.results= #[]) (h1:k' ≤x.toks.length) (h2:p'.l=x.toks.drop k') (h3:j≤k') (h4:p'.out.length+j≤m+k') (hs:MSub (x.B k' B' cb' p'.out 0 0++R) H):
  ba Tryz.prog fn fr w0 (RR x j m R (.ok (n,p'))) e s H:=iB he hf hs ⟨rfl,k',B',cb',h1,h2,h3,h4,rfl⟩
theorem eL {fn:Func} {fr:Fr} {w0:World} {R H:List Blk} {x:Cx} {j m k' :Nat} {x' :Int × Int} {out' :List Nd} {B' :Option Nat} {cb' :Nat} {e:Exit} {s:az} (he:e= .ret∨e= .normal) (hf:fn.results= #[]) (h0:x'.2≠0) (h1:k' ≤x.toks.length+1) (h3:j≤k') (h4:out'.length+j≤m+k') (hs:MSub (x.B k' B' cb' out' x'.1 x'.2++R) H):
  ba Tryz.prog fn fr w0 (RR x j m R (.error x')) e s H:=iB he hf hs ⟨rfl,k',B',cb',out',h0,h1,h3,h4,rfl⟩
set_option maxHeartbeats 2000000 in
theorem G7 (f:Nat) (ihS:mP f .sign 240 []) (ihP:mP f .pct 287 []):mP (f+1) .sign 240 []:=by
  intro x k p B cb r R w0 hk hp hout hrun
  refine dZ Tryz.func240 rfl Tryz.ntmps240 rfl ?_
  have hxt:=x.ht
  dsimp only at hrun
  rw [bG] at hrun
  dsimp only at hrun
  obtain ⟨t,ht⟩: ∃ t,hdT x.fin p.l=t:=⟨_,rfl⟩
  rw [ht] at hrun
  have hd:hdT x.fin (x.toks.drop k)=t:=hp ▸ ht
  have hN:=fun w hm=>Cx.next hd (B:=B) (cb:=cb) (out:=p.out) (at_:=0) (e:=0) (w0:=w0) (H:=x.B k B cb p.out 0 0++R) ⟨R,.refl _⟩ w hm
  by_cases hk2:t.kind=8∧t.num=2
  · rw [if_pos hk2] at hrun
    have hlt:=Cx.lt hd (by omega)
    obtain ⟨r1,hr1,⟨e,rfl,rfl⟩|⟨n1,p1,rfl,hr2⟩⟩:=bF hrun
    · repeat' (first|(apply aa (f:=197);exact rfl;exact rfl;exact hN)|(apply aw (f:=240);exact rfl;exact rfl;exact FnIn.msub (ihS x (k+1) p.skip B cb _ _ w0 hlt (Cx.skip hp) (Pq hout) hr1) (MSub.pick pK (MSub.pick pK (MSub.pick pK (MSub.refl _))));rintro _ _ ⟨rfl,k1,B1,cb1,o1,h1,h2,h3,h4,rfl⟩;replace h4:o1.length+(k+1)≤p.out.length+k1:=h4)|(apply aG;(iterate 3 exact rfl);exact pK;exact pK;exact rfl;(simp [cv,Value.oneCell']);omega;(simp only [maxLen];omega);intro g8 c8)|refine sT ?_|refine sS ?_|refine sN ?_|refine sM fun _=> ?_|(refine sC ?_ ?_<;>intro hb<;>try omega)|fail)
      all_goals first
        |(exfalso;omega)
        | (refine eL (k' := k1) (out' := o1 ++ [dF 4 0]) (B' := some g8) (cb' := c8) eIO rfl h1 h2 (by omega) (by rw [Na, Nh]; omega) ?_
           simp only [Cx.B,rB,Na,Nh,Nt,Np,NE,Nl,Nf,Ng]
           exact mS)
    · cases hr2
      repeat' (first|(apply aa (f:=197);exact rfl;exact rfl;exact hN)|(apply aw (f:=240);exact rfl;exact rfl;exact FnIn.msub (ihS x (k+1) p.skip B cb _ _ w0 hlt (Cx.skip hp) (Pq hout) hr1) (MSub.pick pK (MSub.pick pK (MSub.pick pK (MSub.refl _))));rintro _ _ ⟨rfl,k1,B1,cb1,h1,h2,h3,h4,rfl⟩;replace h4:p1.out.length+(k+1)≤p.out.length+k1:=h4)|(apply aG;(iterate 3 exact rfl);exact pK;exact pK;exact rfl;(simp [cv,Value.oneCell']);omega;(simp only [maxLen];omega);intro g8 c8)|refine sT ?_|refine sS ?_|refine sN ?_|refine sM fun _=> ?_|(refine sC ?_ ?_<;>intro hb<;>try omega)|fail)
      all_goals first
        |(exfalso;omega)
        | (refine jo (k' := k1) (p' := p1.put (dF 4 0)) (B' := some g8) (cb' := c8) eIO rfl h1 h2 (by omega) (by simp only [PS.put, Na, Nh]; omega) ?_
           simp only [PS.put,Cx.B,rB,Na,Nh,Nt,Np,NE,Nl,Nf,Ng]
           exact mS)
  rw [if_neg hk2] at hrun
  obtain ⟨r1,hr1,⟨e,rfl,rfl⟩|⟨n1,p1,rfl,hr2⟩⟩:=bF hrun
  · repeat' (first|(apply aa (f:=197);exact rfl;exact rfl;exact hN)|(apply aw (f:=287);exact rfl;exact rfl;exact FnIn.msub (ihP x k p B cb _ _ w0 hk hp hout hr1) (MSub.pick pK (MSub.pick pK (MSub.pick pK (MSub.refl _))));rintro _ _ ⟨rfl,k1,B1,cb1,o1,h1,h2,h3,h4,rfl⟩)|refine sT ?_|refine sS ?_|refine sN ?_|refine sM fun _=> ?_|(refine sC ?_ ?_<;>intro hb<;>try omega)|fail)
    all_goals first
      |(exfalso;omega)
      |exact absurd (by assumption) h1
      | (refine eL (k' := k1) (out' := o1) (B' := B1) (cb' := cb1) eIO rfl h1 h2 h3 h4 ?_
         simp only [Cx.B,rB,Nf,Ng]
         exact mS)
  · obtain ⟨u,hu⟩: ∃ u,hdT x.fin p1.l=u:=⟨_,rfl⟩
    rw [hu] at hr2
    by_cases hk3:u.kind=8∧u.num=5
    · rw [if_pos hk3] at hr2
      obtain ⟨r2,hr3,⟨e,rfl,rfl⟩|⟨n2,p2,rfl,hr4⟩⟩:=bF hr2
      · repeat' (first|(apply aa (f:=197);exact rfl;exact rfl;exact hN)|(apply aw (f:=287);exact rfl;exact rfl;exact FnIn.msub (ihP x k p B cb _ _ w0 hk hp hout hr1) (MSub.pick pK (MSub.pick pK (MSub.pick pK (MSub.refl _))));rintro _ _ ⟨rfl,k1,B1,cb1,h1,h2,h3,h4,rfl⟩;have hd1:hdT x.fin (x.toks.drop k1)=u:=h2 ▸ hu;have hlt1:=Cx.lt hd1 (by omega))|(apply aa (f:=241);exact rfl;exact rfl;exact fun w hm=>Cx.op hd1 6 (B:=B1) (cb:=cb1) (out:=p1.out) (at_:=0) (e:=0) (MSub.pick pK (MSub.pick pK (MSub.pick pK (MSub.nil _)))) w hm)|(apply aw (f:=240);exact rfl;exact rfl;exact FnIn.msub (ihS x (k1+1) p1.skip B1 cb1 _ _ w0 hlt1 (Cx.skip h2) (by simp only [PS.skip];omega) hr3) (MSub.pick pK (MSub.pick pK (MSub.pick pK (MSub.refl _))));rintro _ _ ⟨rfl,k2,B2,cb2,o2,j1,j2,j3,j4,rfl⟩;replace j4:o2.length+(k1+1)≤p1.out.length+k2:=j4)|(apply aG;(iterate 3 exact rfl);exact pK;exact pK;exact rfl;(simp [cv,Value.oneCell']);omega;(simp only [maxLen];omega);intro g8 c8)|refine sT ?_|refine sS ?_|refine sN ?_|refine sM fun _=> ?_|(refine sC ?_ ?_<;>intro hb<;>try omega)|fail)
        all_goals first
          |(exfalso;omega)
          |(exfalso;simp_all [CT];done)
          | (refine eL (k' := k2) (out' := o2 ++ [dF 6 5]) (B' := some g8) (cb' := c8) eIO rfl j1 j2 (by omega) (by rw [Na, Nh]; omega) ?_
             simp only [Cx.B,rB,Na,Nh,Nt,Np,NE,Nl,Nf,Ng]
             exact mS)
      · cases hr4
        repeat' (first|(apply aa (f:=197);exact rfl;exact rfl;exact hN)|(apply aw (f:=287);exact rfl;exact rfl;exact FnIn.msub (ihP x k p B cb _ _ w0 hk hp hout hr1) (MSub.pick pK (MSub.pick pK (MSub.pick pK (MSub.refl _))));rintro _ _ ⟨rfl,k1,B1,cb1,h1,h2,h3,h4,rfl⟩;have hd1:hdT x.fin (x.toks.drop k1)=u:=h2 ▸ hu;have hlt1:=Cx.lt hd1 (by omega))|(apply aa (f:=241);exact rfl;exact rfl;exact fun w hm=>Cx.op hd1 6 (B:=B1) (cb:=cb1) (out:=p1.out) (at_:=0) (e:=0) (MSub.pick pK (MSub.pick pK (MSub.pick pK (MSub.nil _)))) w hm)|(apply aw (f:=240);exact rfl;exact rfl;exact FnIn.msub (ihS x (k1+1) p1.skip B1 cb1 _ _ w0 hlt1 (Cx.skip h2) (by simp only [PS.skip];omega) hr3) (MSub.pick pK (MSub.pick pK (MSub.pick pK (MSub.refl _))));rintro _ _ ⟨rfl,k2,B2,cb2,j1,j2,j3,j4,rfl⟩;replace j4:p2.out.length+(k1+1)≤p1.out.length+k2:=j4)|(apply aG;(iterate 3 exact rfl);exact pK;exact pK;exact rfl;(simp [cv,Value.oneCell']);omega;(simp only [maxLen];omega);intro g8 c8)|refine sT ?_|refine sS ?_|refine sN ?_|refine sM fun _=> ?_|(refine sC ?_ ?_<;>intro hb<;>try omega)|fail)
        all_goals first
          |(exfalso;omega)
          |(exfalso;simp_all [CT];done)
          | (refine jo (k' := k2) (p' := p2.put (dF 6 5)) (B' := some g8) (cb' := c8) eIO rfl j1 j2 (by omega) (by simp only [PS.put, Na, Nh]; omega) ?_
             simp only [PS.put,Cx.B,rB,Na,Nh,Nt,Np,NE,Nl,Nf,Ng]
             exact mS)
    · rw [if_neg hk3] at hr2
      cases hr2
      repeat' (first|(apply aa (f:=197);exact rfl;exact rfl;exact hN)|(apply aw (f:=287);exact rfl;exact rfl;exact FnIn.msub (ihP x k p B cb _ _ w0 hk hp hout hr1) (MSub.pick pK (MSub.pick pK (MSub.pick pK (MSub.refl _))));rintro _ _ ⟨rfl,k1,B1,cb1,h1,h2,h3,h4,rfl⟩;have hd1:hdT x.fin (x.toks.drop k1)=u:=h2 ▸ hu)|(apply aa (f:=241);exact rfl;exact rfl;exact fun w hm=>Cx.op hd1 6 (B:=B1) (cb:=cb1) (out:=p1.out) (at_:=0) (e:=0) (MSub.pick pK (MSub.pick pK (MSub.pick pK (MSub.nil _)))) w hm)|refine sT ?_|refine sS ?_|refine sN ?_|refine sM fun _=> ?_|(refine sC ?_ ?_<;>intro hb<;>try omega)|fail)
      all_goals first
        |(exfalso;omega)
        |(exfalso;simp_all [CT];done)
        | (refine jo (k' := k1) (p' := p1) (B' := B1) (cb' := cb1) eIO rfl h1 h2 h3 h4 ?_
           simp only [Cx.B,rB,Nf,Ng]
           exact mS)
end Go.SL
