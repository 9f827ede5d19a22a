/-
  Lemmas and walks, put together: Cd Cn D2 Oq Gp Pl8 Cg Ck D7 E2 K1 K2 Gq D11 Lu Pl2 Gu Lp D8 G2a.
-/
import Derived.Test.YtpoafcnhplbkmaaGreatDoorKs14
import Derived.Test.YtpoafcnhplbkmaaGreatDoorKs15
set_option linter.unusedSimpArgs false
set_option linter.unusedVariables false
set_option maxRecDepth 20000
set_option maxHeartbeats 16000000
namespace Go.SL
open Go
def tJ (r:Nat→Nat→Bool) (n:Nat) (lf:Nat→Bool):Option Nat:=(List.range n).find? fun i=>lf i && (List.range n).all fun k=> !(lf k && r i k)
def yH (r:Nat→Nat→Bool) (n:Nat):Nat→(Nat→Bool)→List Nat
 |0,_=> []
 |m+1,lf=>match tJ r n lf with
  |none=> []
  |some i=>i::yH r n m fun j=>if j=i then false else lf j
theorem FC {r:Nat→Nat→Bool} {n i:Nat} {lf:Nat→Bool}:tJ r n lf=some i↔i<n∧(lf i=true∧ ∀ k,k<n→lf k=true→r i k=false)∧ ∀ j,j<i→ ¬ (lf j=true∧ ∀ k,k<n→lf k=true→r j k=false):=by
 have hp: ∀ i,(lf i && (List.range n).all fun k=> !(lf k && r i k))=true↔(lf i=true∧ ∀ k,k<n→lf k=true→r i k=false):=fun i=>by
  rw [RB,SI];refine and_congr_right fun _=>⟨fun h k hk hl=> ?_,fun h k hk=> ?_⟩
  ·have:=h k (RH.2 hk);rw [hl] at this;simpa using this
  ·cases hl:lf k with
   |false=>simp
   |true=>rw [h k (RH.1 hk) hl];simp
 unfold tJ;rw [UR];constructor
 ·rintro ⟨h1,h2,h3⟩;exact ⟨RH.1 h2,(hp i).1 h1,fun j hj hh=>by have:=h3 j hj;rw [(hp j).2 hh] at this;cases this⟩
 ·rintro ⟨h1,h2,h3⟩;refine ⟨(hp i).2 h2,RH.2 h1,fun j hj=> ?_⟩
  cases hc:(lf j && (List.range n).all fun k=> !(lf k && r j k)) with
  |false=>rfl
  |true=>exact absurd ((hp j).1 hc) (h3 j hj)
structure SubN (r:Nat→Nat→Bool) (n:Nat) (l:List Nat) (X:Nx):Prop where
 len:X.length=l.length
 asc:l.Pairwise (· < ·)
 lt: ∀ i∈l,i<n
 ok: ∀ p,∀ q∈au X p,q<l.length
 rel: ∀ p q (hp:p<l.length) (hq:q<l.length),r l[p] l[q]=true↔ ∃ k∈au X p,Rch X k q
 acy: ∀ p,p<l.length→ ¬ onC X p
def iG (l D:List Nat) (i:Nat):Bool:=(List.range l.length).any fun p=>decide ((l[p]?).getD 0=i) && !decide (p∈D)
theorem iF {l D:List Nat} {i:Nat}:iG l D i=true↔ ∃ p,∃ h:p<l.length,l[p]=i∧p∉D:=by
 unfold iG;rw [Uk];constructor
 ·rintro ⟨p,hp,h⟩;have hp:=RH.1 hp;rw [RB,decide_eq_true_eq,QU hp] at h;exact ⟨p,hp,h.1,by simpa using h.2⟩
 ·rintro ⟨p,hp,h1,h2⟩;refine ⟨p,RH.2 hp,?_⟩;rw [QU hp];simp [h1,h2]
section
variable {r:Nat→Nat→Bool} {n:Nat} {l:List Nat} {X:Nx} (S:SubN r n l X)
include S
theorem SubN.inj {p q:Nat} (hp:p<l.length) (hq:q<l.length) (h:l[p]=l[q]):p=q:=by
 have h1:=TR.1 S.asc;rcases UO p q with h2|h2|h2
 ·have:=h1 p q hp hq h2;omega
 ·exact h2
 ·have:=h1 q p hq hp h2;omega
theorem SubN.mono {p q:Nat} (hp:p<l.length) (hq:q<l.length) (h:l[p]<l[q]):p<q:=by
 have h1:=TR.1 S.asc;rcases UO p q with h2|h2|h2
 ·exact h2
 ·subst h2;omega
 ·have:=h1 q p hq hp h2;omega
theorem SubN.free {D:List Nat} (hD: ∀ i∈D,∀ k∈au X i,k∈D) {p:Nat} (hp:p<l.length):oI X D p=true↔(iG l D l[p]=true∧ ∀ k,k<n→iG l D k=true→r l[p] k=false):=by
 rw [eV];constructor
 ·rintro ⟨h1,h2⟩;refine ⟨iF.2 ⟨p,hp,rfl,h1⟩,fun k _ hk=> ?_⟩;obtain ⟨q,hq,rfl,hqd⟩:=iF.1 hk
  cases hr:r l[p] l[q] with
  |false=>rfl
  |true=>
   obtain ⟨k,hk1,hk2⟩:=(S.rel p q hp hq).1 hr;exact absurd (hk2.closed (C:=fun v=>v∈D) hD (h2 k hk1)) hqd
 ·rintro ⟨h1,h2⟩;obtain ⟨p',hp',e,hd⟩:=iF.1 h1;have:=S.inj hp' hp e;subst this;refine ⟨hd,fun k hk=>Classical.byContradiction fun hn=> ?_⟩;have hkl:=S.ok p' k hk;have h3:=h2 l[k] (S.lt _ (RL hkl)) (iF.2 ⟨k,hkl,rfl,hn⟩);rw [(S.rel p' k hp hkl).2 ⟨k,hk,.refl k⟩] at h3;cases h3
theorem SubN.pick {D:List Nat} (hD: ∀ i∈D,∀ k∈au X i,k∈D) {p:Nat} (h:jR X D=some p): ∃ hp:p<l.length,tJ r n (iG l D)=some l[p]:=by
 obtain ⟨h1,h2,h3⟩:=ny.1 h;have hp:p<l.length:=by rw [← S.len];exact h1
 refine ⟨hp,FC.2 ⟨S.lt _ (RL hp),(S.free hD hp).1 h2,fun j hj hh=> ?_⟩⟩;obtain ⟨q,hq,rfl,_⟩:=iF.1 hh.1;have h4:=h3 q (S.mono hq hp hj);rw [(S.free hD hq).2 hh] at h4;cases h4
theorem SubN.left {D:List Nat} {p:Nat} (hp:p<l.length):(fun j=>if j=l[p] then false else iG l D j)=iG l (D++ [p]):=by
 funext j;rw [Sc,iF];by_cases e:j=l[p]
 ·rw [if_pos e];refine ⟨fun h=>(by cases h),?_⟩;rintro ⟨q,hq,h1,h2⟩;have:=S.inj hq hp (h1.trans e);subst this;exact absurd (Sj _ (Rd.2 rfl)) h2
 ·rw [if_neg e,iF];constructor
  ·rintro ⟨q,hq,h1,h2⟩;refine ⟨q,hq,h1,fun hm=>(Rz.1 hm).elim h2 fun h3=> ?_⟩;have h3:=Rd.1 h3;subst h3;exact e h1.symm
  ·rintro ⟨q,hq,h1,h2⟩;exact ⟨q,hq,h1,fun hm=>h2 (Si _ hm)⟩
theorem SubN.fin: ∀ (m:Nat) (D:List Nat),(∀ i∈D,∀ k∈au X i,k∈D)→D.Nodup→(∀ i∈D,i<l.length)→D.length+m=l.length→
 (fw X m D).map (fun p=>(l[p]?).getD 0)=D.map (fun p=>(l[p]?).getD 0)++yH r n m (iG l D)∧(fw X m D).Perm (List.range l.length):=by
 intro m
 induction m with
 |zero=>
  intro D hD hn hl hm;refine ⟨by rw [fw,yH,Rc],?_⟩;rw [fw];refine (List.perm_ext_iff_of_nodup hn UE).2 fun x=>⟨fun hx=>RH.2 (hl x hx),fun hx=> ?_⟩;refine Classical.byContradiction fun hxn=> ?_;have h1:=dR (x::D) (List.range l.length) (Te.2 ⟨hxn,hn⟩) fun y hy=>by
   rcases RF.1 hy with rfl|hy
   ·exact hx
   ·exact RH.2 (hl y hy)
  rw [Sg,Rk] at h1;omega
 |succ m ih=>
  intro D hD hn hl hm;have hex: ∃ v,v<X.length∧v∉D:=by
   refine Classical.byContradiction fun hne=> ?_;have h1:=dR (List.range X.length) D UE fun x hx=>Classical.byContradiction fun hxd=>hne ⟨x,RH.1 hx,hxd⟩;rw [Sg,S.len] at h1;omega
  obtain ⟨v,hv,hvd⟩:=hex;obtain ⟨p,hp⟩:=Je (fun i k hk=>by rw [S.len];exact S.ok i k hk) (fun w hw=>S.acy w (by rw [← S.len];exact hw)) _ v (Rg _) hv hvd;obtain ⟨hpl,hpick⟩:=S.pick hD hp;have hf:=eV.1 (ny.1 hp).2.1;have hD' : ∀ i∈D++ [p],∀ k∈au X i,k∈D++ [p]:=fun i hi k hk=>by
   rcases Rz.1 hi with hi|hi
   ·exact Si _ (hD i hi k hk)
   ·rw [Rd.1 hi] at hk;exact Si _ (hf.2 k hk)
  have hn' :(D++ [p]).Nodup:=TS.2 ⟨hn,by simp,fun a ha b hb e=>hf.1 (by rw [← Rd.1 hb,← e];exact ha)⟩;have hl' : ∀ i∈D++ [p],i<l.length:=fun i hi=>by
   rcases Rz.1 hi with hi|hi
   ·exact hl i hi
   ·rw [Rd.1 hi];exact hpl
  obtain ⟨h1,h2⟩:=ih (D++ [p]) hD' hn' hl' (by rw [QT,QX];omega);rw [fw,hp];dsimp only;refine ⟨?_,h2⟩;rw [h1,yH,hpick];dsimp only;rw [S.left hpl,Sh,Rx];simp [QU hpl]
theorem SubN.topo:(cI X).map (fun p=>(l[p]?).getD 0)=yH r n l.length (iG l [])∧(cI X).Perm (List.range l.length):=by
 have h:=S.fin l.length [] (fun _ h=>by cases h) TY (fun _ h=>by cases h) (by simp);unfold cI;rw [S.len];simpa using h
end
theorem yF (X:Nx): ∀ (m:Nat) (D:List Nat),∃ R,fw X m D=D++R
 |0,D=>⟨[],by rw [fw,Rc]⟩
 |m+1,D=>by
  rw [fw]
  cases h:jR X D with
  |none=>exact ⟨[],by simp⟩
  |some i=>
   obtain ⟨R,hR⟩:=yF X m (D++ [i]);exact ⟨i::R,by simp [hR]⟩
theorem vJ (X:Nx): ∀ (m:Nat) (D:List Nat) (t:Nat),D.length≤t→(ht:t<(fw X m D).length)→jR X ((fw X m D).take t)=some (fw X m D)[t]
 |0,D,t,h1,h2=>by
  rw [fw] at h2;omega
 |m+1,D,t,h1,h2=>by
  cases h:jR X D with
  |none=>
   have e:fw X (m+1) D=D:=by rw [fw,h]
   rw [e] at h2;omega
  |some i=>
   have e:fw X (m+1) D=fw X m (D++ [i]):=by rw [fw,h]
   rcases SW D.length t with h3|h3
   ·have ih:=vJ X m (D++ [i]) t (by rw [QT,QX];exact h3) (by rw [← e];exact h2);simp only [e];exact ih
   ·have ht:t=D.length:=by omega
    subst ht;obtain ⟨R,hR⟩:=yF X m (D++ [i]);simp only [e,hR];simp [h]
theorem yE {X:Nx} {t:Nat} (ht:t<(cI X).length):jR X ((cI X).take t)=some (cI X)[t]:=vJ X _ _ t (QZ _) ht
theorem SubN.pick_at {r:Nat→Nat→Bool} {n:Nat} {l:List Nat} {X:Nx} (S:SubN r n l X) {t:Nat} (ht:t<(cI X).length): ∃ hp:(cI X)[t]<l.length,tJ r n (iG l ((cI X).take t))=some l[(cI X)[t]]:=by
 refine S.pick (fun i hi k hk=> ?_) (yE ht);obtain ⟨j,hj,rfl⟩:=SM.1 hi;rw [RI] at hj;rw [Ub] at hk;have h1:=yE (X:=X) (t:=j) (by omega);have h2:=(eV.1 (ny.1 h1).2.1).2 k hk;have h3:(cI X).take j=((cI X).take t).take j:=by rw [List.take_take,Tm (by omega)]
 rw [h3] at h2;exact SF h2
end Go.SL
namespace Go.SL
open Go Go.Proofs
attribute [local irreducible] W WL WQ WG WA WX WLI WR WT VOp RW thn blk bH scp aV bz bP FnAt FnIn FnP
theorem PI {a:ByteArray} {i:Nat} (h:i<a.size):jL (sub a i (i+1))=if bG (bat a i) then 0 else 4:=by
 have h1:ap (sub a i (i+1))= [bat a i]:=by
  rw [eU,bi h,Nat.add_sub_cancel_left]
  rfl
 have h2:(sub a i (i+1)).size=1:=by rw [co a (by omega)];omega
 simp only [jL,h2,oo,h1];cases h:bG (bat a i)<;>simp [h]
structure Mn where
 formula:Bool
 v:Vl
 tree:List Nd
def eqB:ByteArray:=⟨#[61]⟩
def rJ:Mn:=⟨false,bK,[]⟩
def ofP (b:ByteArray):Mn × Int × Int:=
 if 256<b.size then (rJ,0,5)
 else match (ap b).findIdx? (fun c=> !bG c) with
  |some i=>(rJ,(i:Int),4)
  |none=>
   if (kX b eqB).2=false then (⟨false,sY b,[]⟩,0,0)
   else match bM (bq dJ (ap (kX b eqB).1)) ((kX b eqB).1.size:Int) with
    |(t,at_,e)=>if e≠0 then (rJ,IntKind.i64.wrap (at_+1),e) else (⟨true,bK,t⟩,0,0)
def AY (m:Mn) (tv:Value):List Value:= [.bool m.formula,.int .u8 m.v.kind,.int .i64 m.v.num,.string m.v.text,tv]
def ofV (A:Option Nat) (cap:Nat) (r:Mn × Int × Int):Value:= .tuple #[.agg (AY r.1 (sl A r.1.tree.length cap)).toArray,.int .i64 r.2.1,.int .i64 r.2.2]
theorem OG (b:ByteArray) (w:World) (hW:Words w):FnAt Tryz.prog 45 [.string b] w fun v H=> ∃ A cap,v=ofV A cap (ofP b)∧H= [.own A 123 11 (ofP b).1.tree.length cap ((ofP b).1.tree.flatMap bf)]:=by
 refine ay Tryz.func45 rfl Tryz.ntmps45 rfl ?_;refine aI 123 11 ?_;unfold ofP;by_cases hlen:256<b.size
 ·rw [if_pos hlen];repeat' (first|refine zZF ?_|refine sM fun _=>?_|(refine sC ?_ ?_<;>intro hb<;>try omega)|fail)
  all_goals first
   |(exfalso;omega)
   |exact gO (.inl rfl) rfl rfl pK rfl rfl rfl (H' := [.own none 123 11 0 0 []]) mS ⟨none,0,rfl,rfl⟩
 rw [if_neg hlen];repeat' (first|refine zZF ?_|refine sM fun _=>?_|(refine sC ?_ ?_<;>intro hb<;>try omega)|fail)
 all_goals try (exfalso;omega)
 rename_i g2;refine aw [0,2,14] rfl (fun i:Nat=> [(15,.int .i64 (i:Int))]) (fun _=> [.box g2 93 [.bool false,.int .u8 0,.int .i64 0,.string ax,.slice none 0 0],.own none 123 11 0 0 []]) (fun i=>i≤b.size∧ ∀ j,j<i→bG (bat b j)=true) (fun i=>b.size - i) 0 ⟨by omega,fun j h=>by omega⟩ sB mS ?_;rintro i ⟨hi,hpl⟩;by_cases hlt:i<b.size
 ·have hg:=PI hlt;have hG:=fun w=>DD (sub b i (i+1)) w;rw [hg] at hG;by_cases hc:bG (bat b i)=true
  ·rw [if_pos hc] at hG;repeat' (first|(apply ai;exact rfl;apply gM;(iterate 3 exact rfl);exact ⟨by omega,by omega⟩)|(apply aa;exact rfl;exact rfl;(intro w hm;exact hG w))|refine zZC ?_|refine sM fun _=>?_|(refine sC ?_ ?_<;>intro hb<;>try omega)|fail)
   all_goals try (exfalso;omega)
   refine ⟨i+1,?_,(by first|omega|(dsimp only;omega)),sB,sB,mS⟩;refine ⟨hlt,fun j hj=> ?_⟩;rcases (by omega:j<i∨j=i) with h|rfl
   ·exact hpl j h
   ·exact hc
  ·rw [if_neg hc] at hG;repeat' (first|(apply ai;exact rfl;apply gM;(iterate 3 exact rfl);exact ⟨by omega,by omega⟩)|(apply aa;exact rfl;exact rfl;(intro w hm;exact hG w))|refine zZC ?_|refine sM fun _=>?_|(refine sC ?_ ?_<;>intro hb<;>try omega)|fail)
   all_goals try (exfalso;omega)
   have hf:(ap b).findIdx? (fun c=> !bG c)=some i:=oK hlt (by simp [hc]) fun j hj=>by rw [hpl j hj];rfl
   rw [hf];exact gO (.inl rfl) rfl rfl pK rfl rfl rfl (H' := [.own none 123 11 0 0 []]) mS ⟨none,0,rfl,rfl⟩
 ·have e:i=b.size:=by omega
  subst e;have hf:(ap b).findIdx? (fun c=> !bG c)=none:=nr fun j hj=>by rw [hpl j hj];rfl
  rw [hf];dsimp only;have hcut:=fun w=>Me b eqB (by omega) w;obtain ⟨⟨rest,is⟩,hx⟩: ∃ x,kX b eqB=x:=⟨_,rfl⟩;rw [hx] at hcut ⊢
  cases is with
  |false=>
   rw [if_pos rfl];repeat' (first|(apply aa;exact rfl;exact rfl;(intro w hm;exact hcut w))|(apply aa (f:=90);exact rfl;exact rfl;(intro w' hm';exact DZ b (by omega) w' (hW.next hm')))|refine zZC ?_|refine sM fun _=>?_|(refine sC ?_ ?_<;>intro hb<;>try omega)|fail)
   all_goals try (exfalso;omega)
   exact gO (.inl rfl) rfl rfl pK rfl rfl rfl (H' := [.own none 123 11 0 0 []]) mS ⟨none,0,rfl,rfl⟩
  |true=>
   rw [if_neg (by simp)];dsimp only;have hF:=fun (w' :World) (h:Words w')=>GD rest w' h _ rfl;obtain ⟨⟨t,at0,e0⟩,hr⟩: ∃ x,bM (bq dJ (ap rest)) (rest.size:Int)=x:=⟨_,rfl⟩;simp only [hr,GW] at hF;rw [hr];dsimp only;by_cases he:e0≠0
   ·rw [if_pos he];repeat' (first|(apply aa;exact rfl;exact rfl;(intro w hm;exact hcut w))|(apply aK (f:=91);exact rfl;exact rfl;(intro w' hm';exact hF w' (hW.next hm'));rintro _ _ ⟨A,cap,rfl,rfl⟩)|(apply ai;exact rfl;apply vD;exact rfl;exact rfl)|refine zZC ?_|refine sM fun _=>?_|(refine sC ?_ ?_<;>intro hb<;>try omega)|fail)
    all_goals try (exfalso;omega)
    exact gO (.inl rfl) rfl rfl pK rfl rfl rfl (H' := [.own none 123 11 0 0 []]) mS ⟨none,0,rfl,rfl⟩
   ·rw [if_neg he];repeat' (first|(apply aa;exact rfl;exact rfl;(intro w hm;exact hcut w))|(apply aK (f:=91);exact rfl;exact rfl;(intro w' hm';exact hF w' (hW.next hm'));rintro _ _ ⟨A,cap,rfl,rfl⟩)|(apply ai;exact rfl;apply vD;exact rfl;exact rfl)|refine zZC ?_|refine sM fun _=>?_|(refine sC ?_ ?_<;>intro hb<;>try omega)|fail)
    all_goals try (exfalso;omega)
    exact gO (.inl rfl) rfl rfl pK rfl rfl rfl (H' := [.own A 123 11 t.length cap (t.flatMap bf)]) mS ⟨A,cap,rfl,rfl⟩
end Go.SL
namespace Go.SL
open Go
def ofR (b:ByteArray):Mn × Int × Int:=
 if 256<b.size then (rJ,0,5)
 else match (ap b).findIdx? (fun c=> !bG c) with
  |some i=>(rJ,(i:Int),4)
  |none=>
   if (ap b).headD 0≠61 then (⟨false,xz b,[]⟩,0,0)
   else match bM (bq bC (ap (sub b 1 b.size))) ((sub b 1 b.size).size:Int) with
    |(t,at_,e)=>if e≠0 then (rJ,IntKind.i64.wrap (at_+1),e) else (⟨true,bK,t⟩,0,0)
theorem AK {b:ByteArray} (h: ¬ 256<b.size) (hp:(ap b).findIdx? (fun c=> !bG c)=none):jL b=0:=by
 rw [Sy] at hp;unfold jL;rw [oo];have:(ap b).all bG=true:=by
  rw [SI];intro c hc;simpa using hp c hc
 simp [h,this]
theorem K8 (b:ByteArray):ofP b=ofR b:=by
 unfold ofP ofR;by_cases h1:256<b.size
 ·rw [if_pos h1,if_pos h1]
 rw [if_neg h1,if_neg h1]
 cases hf:(ap b).findIdx? (fun c=> !bG c) with
 |some i=>rfl
 |none=>
  dsimp only;have hq:ap eqB= [61]:=rfl;have hs:eqB.size=1:=rfl;have h61:(ap b).take 1= [61]↔(ap b).headD 0=61:=by cases ap b<;>simp
  have hcut:kX b eqB=if (ap b).headD 0=61 then (sub b 1 b.size,true) else (b,false):=by
   unfold kX;rw [hq,hs];by_cases h:(ap b).headD 0=61
   ·rw [if_pos (h61.2 h),if_pos h]
   ·rw [if_neg (fun h' =>h (h61.1 h')),if_neg h]
  rw [hcut];by_cases h2:(ap b).headD 0=61
  ·rw [if_pos h2,if_neg (by simp),if_neg (show ¬ ((ap b).headD 0≠61) from fun h=>h h2),ES]
  ·rw [if_neg h2,if_pos rfl,if_pos h2,JK (AK h1 hf)]
abbrev Gr:=List (Rf × List Nd × List Us)
def aA (G:Gr):List Rf:=G.map fun e=>e.1
def SortG (G:Gr):Prop:=G.Pairwise fun x y=>bo x.1 y.1=true
def mq (G:Gr) (a:Rf):Option (List Nd × List Us):=(G.find? fun e=>decide (e.1=a)).map fun e=>e.2
def ye (G:Gr) (a:Rf):Gr:=G.filter fun e=>decide (e.1≠a)
def uq (G:Gr) (a:Rf) (x:List Nd × List Us):Gr:=G.filter (fun e=>bo e.1 a)++(a,x)::G.filter fun e=>bo a e.1
def gV (G:Gr) (a:Rf):List Nd:=((mq G a).map fun x=>x.1).getD []
def dF (G:Gr) (a:Rf):List Us:=((mq G a).map fun x=>x.2).getD []
def isG (G:Gr) (a:Rf):Bool:=(mq G a).isSome
def dW (us:List Us) (r:Rct):Bool:=us.any (vH r)
def EQ (G:Gr) (r:Rct):List Rf:=if pI r≠0 then [] else (G.filter fun e=>dW e.2.2 r).map fun e=>e.1
def gJ (us:List Us) (a:Rf):Bool:=us.any fun u=>DC u.rect a
def bW (G:Gr):List (Rf × Rf):=G.flatMap fun e=>(G.filter fun f=>gJ e.2.2 f.1).map fun f=>(e.1,f.1)
def fN (G:Gr) (a:Rf) (b:ByteArray):Gr × Int:=
 if a.valid=false then (G,3)
 else if (ofP b).2.2≠0 then (G,(ofP b).2.2)
 else if (ofP b).1.formula=false then (ye G a,0)
 else (uq G a ((ofP b).1.tree,eE (ofP b).1.tree),0)
theorem mA {a b:Rf}:bo a b=true↔a.row<b.row∨(a.row=b.row∧a.col<b.col):=by simp [bo]
theorem oV (a:Rf):bo a a=false:=by simp [bo]
theorem tQ {a b c:Rf} (h:bo a b=true) (k:bo b c=true):bo a c=true:=by
 rw [mA] at*;omega
theorem lH {a b:Rf} (h:bo a b=true):bo b a=false:=by
 rw [← Bool.not_eq_true,mA];rw [mA] at h;omega
theorem Dt {a b:Rf} (h:a≠b):bo a b=true∨bo b a=true:=by
 rw [mA,mA];rcases Int.lt_trichotomy a.row b.row with h1|h1|h1
 ·exact .inl (.inl h1)
 ·rcases Int.lt_trichotomy a.col b.col with h2|h2|h2
  ·exact .inl (.inr ⟨h1,h2⟩)
  ·refine absurd ?_ h;obtain ⟨a1,a2⟩:=a;obtain ⟨b1,b2⟩:=b;simp only at h1 h2;subst h1 h2;rfl
  ·exact .inr (.inr ⟨h1.symm,h2⟩)
 ·exact .inr (.inl h1)
theorem mz {a b:Rf} (h:bo a b=true):a≠b:=by
 rintro rfl;rw [oV] at h;cases h
theorem SortG.nodup {G:Gr} (h:SortG G):(aA G).Nodup:=by
 rw [aA,List.Nodup,Uy];exact h.imp fun h=>mz h
theorem yI:SortG []:=List.Pairwise.nil
theorem rV {G:Gr} (h:SortG G) (a:Rf):SortG (ye G a):=h.filter _
theorem rU {G:Gr} (h:SortG G) (a:Rf) (x:List Nd × List Us):SortG (uq G a x):=by
 refine SX.2 ⟨h.filter _,SJ.2 ⟨fun e he=> ?_,h.filter _⟩,fun e he f hf=> ?_⟩
 ·exact (ST.1 he).2
 ·have h1:=(ST.1 he).2;rcases RF.1 hf with rfl|hf
  ·exact h1
  ·exact tQ h1 (ST.1 hf).2
theorem Iy {G:Gr} (h:SortG G) (a:Rf) (b:ByteArray):SortG (fN G a b).1:=by
 unfold fN;split
 ·exact h
 ·split
  ·exact h
  ·split
   ·exact rV h a
   ·exact rU h a _
theorem wI {G:Gr} {a:Rf} {x:List Nd × List Us} {e:Rf × List Nd × List Us}:e∈uq G a x↔e=(a,x)∨(e∈G∧e.1≠a):=by
 simp only [uq,Rz,RF,ST];constructor
 ·rintro (⟨h1,h2⟩|rfl|⟨h1,h2⟩)
  ·exact .inr ⟨h1,mz h2⟩
  ·exact .inl rfl
  ·exact .inr ⟨h1,(mz h2).symm⟩
 ·rintro (rfl|⟨h1,h2⟩)
  ·exact .inr (.inl rfl)
  ·rcases Dt h2 with h|h
   ·exact .inl ⟨h1,h⟩
   ·exact .inr (.inr ⟨h1,h⟩)
theorem wJ {G:Gr} {a:Rf} {e:Rf × List Nd × List Us}:e∈ye G a↔e∈G∧e.1≠a:=by simp [ye]
theorem kQ {G:Gr} (h:SortG G) {a:Rf} {x:List Nd × List Us}:mq G a=some x↔(a,x)∈G:=by
 constructor
 ·intro hl;obtain ⟨e,he,rfl⟩:=Sr.1 hl;have h1:=List.find?_some he;have h2:=Ui he;simp only [decide_eq_true_eq] at h1;subst h1;exact h2
 ·intro hm;have hn:=h.nodup
  cases hf:G.find? fun e=>decide (e.1=a) with
  |none=>
   rw [Ur] at hf;exact absurd (hf _ hm) (by simp)
  |some e=>
   have h1:=List.find?_some hf;have h2:=Ui hf;simp only [decide_eq_true_eq] at h1;have:=qm (fun e:Rf × List Nd × List Us=>e.1) hn h2 hm h1;rw [mq,hf,this];rfl
theorem FT {G:Gr} {a:Rf}:mq G a=none↔ ∀ e∈G,e.1≠a:=by
 rw [mq,Option.map_eq_none_iff,Ur];simp
theorem Dx {G:Gr} (h:SortG G):(aA G).Pairwise fun x y=>bo x y=true:=by
 rw [aA,Uy];exact h
theorem xX {L:List Rf} (h:L.Pairwise fun x y=>bo x y=true):sortRf L=L:=by
 refine List.mergeSort_of_pairwise ?_;exact h.imp fun h=>by rw [lH h];rfl
def kF (G:Gr) (i k:Nat):Bool:=match (aA G)[i]?,(aA G)[k]? with
 |some c,some d=>dW (dF G c) (kN d.col d.row)
 |_,_=>false
def aQ (G:Gr):Nat→Nat→Nat→Bool
 |0,i,k=>kF G i k
 |v+1,i,k=>aQ G v i k||(aQ G v i v && aQ G v v k)
section
variable {G:Gr}
theorem zz {v i k:Nat} (h:aQ G v i k=true): ∀ u,v≤u→aQ G u i k=true:=fun u hu=>by
 induction u with
 |zero=>rw [Nat.le_zero.1 hu] at h;exact h
 |succ u ih=>
  rcases SW u v with h1|h1
  ·rw [show u+1=v by omega];exact h
  ·rw [aQ,ih h1,Bool.true_or]
theorem Gt: ∀ v j i k,j<v→aQ G v i j=true→aQ G v j k=true→aQ G v i k=true:=fun v=>by
 induction v with
 |zero=>intro j i k h;omega
 |succ v ih=>
  intro j i k hj h1 h2;simp only [aQ,TH,RB] at h1 h2 ⊢;rcases SW j v with h3|h3
  ·rcases h1 with h1|⟨h1,h4⟩
   ·rcases h2 with h2|⟨h2,h5⟩
    ·exact .inl (ih j i k h3 h1 h2)
    ·exact .inr ⟨ih j i v h3 h1 h2,h5⟩
   ·rcases h2 with h2|⟨h2,h5⟩
    ·exact .inr ⟨h1,ih j v k h3 h4 h2⟩
    ·exact .inr ⟨h1,h5⟩
  ·have e:j=v:=by omega
   subst e;have h4:aQ G j i j=true:=h1.elim id fun h=>h.1;have h5:aQ G j j k=true:=h2.elim id fun h=>h.2;exact .inr ⟨h4,h5⟩
theorem KF {i k:Nat}:kF G i k=true↔ ∃ c d,(aA G)[i]? =some c∧(aA G)[k]? =some d∧dW (dF G c) (kN d.col d.row)=true:=by
 unfold kF;constructor
 ·intro h;split at h
  ·rename_i c d h1 h2;exact ⟨c,d,h1,h2,h⟩
  ·cases h
 ·rintro ⟨c,d,h1,h2,h⟩;rw [h1,h2];exact h
def jP (K:List Rf) (b:Nat→Bool):Nat→List Rf
 |0=> []
 |n+1=>jP K b n++(match K[n]? with|some c=>if b n then [c] else []|none=> [])
open Classical in
open Classical in
end
def aM (G:Gr):Nx:=(List.range G.length).map fun i=>(List.range G.length).filter fun k=>kF G i k
def pathN (X:Nx) (i k:Nat):Prop:= ∃ m∈au X i,Rch X m k
theorem cH (G:Gr):(aM G).length=G.length:=by simp [aM]
theorem uH {G:Gr} {i k:Nat} (h:kF G i k=true):i<G.length∧k<G.length:=by
 obtain ⟨c,d,h1,h2,_⟩:=KF.1 h;have l1:=(Rm.1 h1).1;have l2:=(Rm.1 h2).1;rw [aA,RA] at l1 l2;exact ⟨l1,l2⟩
theorem oz {G:Gr} {i k:Nat}:k∈au (aM G) i↔kF G i k=true:=by
 constructor
 ·intro h;have hi:=mX h;rw [cH] at hi;simp [au,aM,hi] at h;exact h.2
 ·intro h;obtain ⟨hi,hk⟩:=uH h;simp [au,aM,hi,hk,h]
theorem qU {G:Gr}: ∀ i,∀ k∈au (aM G) i,k<(aM G).length:=fun i k h=>by
 rw [cH];exact (uH (oz.1 h)).2
theorem pathN.trans {X:Nx} {i j k:Nat} (h:pathN X i j) (r:Rch X j k):pathN X i k:=by
 obtain ⟨m,hm,h⟩:=h;exact ⟨m,hm,h.trans r⟩
theorem pathN.rch {X:Nx} {i k:Nat} (h:pathN X i k):Rch X i k:=by
 obtain ⟨m,hm,h⟩:=h;exact .step hm h
theorem Gw {G:Gr}: ∀ v i k,aQ G v i k=true→pathN (aM G) i k:=fun v=>by
 induction v with
 |zero=>intro i k h;exact ⟨k,oz.2 h,.refl k⟩
 |succ v ih=>
  intro i k h;simp only [aQ,TH,RB] at h;rcases h with h|⟨h1,h2⟩
  ·exact ih i k h
  ·exact (ih _ _ h1).trans (ih _ _ h2).rch
theorem Gv {G:Gr} {m k:Nat} (r:Rch (aM G) m k): ∀ i,kF G i m=true→aQ G G.length i k=true:=by
 induction r with
 |refl k=>intro i h;exact zz (v:=0) h _ (QZ _)
 |step h _ ih=>
  intro i hi;exact Gt _ _ _ _ (uH hi).2 (zz (v:=0) hi _ (QZ _)) (ih _ (oz.1 h))
theorem fG {G:Gr} {i k:Nat}:aQ G G.length i k=true↔pathN (aM G) i k:=
 ⟨Gw _ _ _,fun ⟨_,hm,r⟩=>Gv r i (oz.1 hm)⟩
theorem Lw {G:Gr} {i:Nat}:aQ G G.length i i=true↔onC (aM G) i:=fG
theorem Eb {G:Gr} {i:Nat}:(aQ G G.length i i||(List.range G.length).any fun k=>aQ G G.length i k && aQ G G.length k k)=true↔eX (aM G) i:=by
 rw [TH,Uk];constructor
 ·rintro (h|⟨k,_,h⟩)
  ·exact ⟨i,fG.1 h,.refl i⟩
  ·rw [RB] at h;exact ⟨k,fG.1 h.2,(fG.1 h.1).rch⟩
 ·rintro ⟨u,hu,r⟩
  cases r with
  |refl=>exact .inl (fG.2 hu)
  |step h r=>
   have h1:=fG.2 hu;have hl:u<G.length:=by
    obtain ⟨m,hm,_⟩:=hu;exact (uH (oz.1 hm)).1
   exact .inr ⟨u,RH.2 hl,by rw [h1,fG.2 ⟨_,h,r⟩];rfl⟩
theorem Oa {X:Nx} {i k:Nat} (h:k∈au X i) (hc:eX X k):eX X i:=by
 obtain ⟨u,hu,r⟩:=hc;exact ⟨u,hu,.step h r⟩
theorem Dg {X:Nx} {i k:Nat} (h: ¬ eX X i) (hk:k∈au X i): ¬ eX X k:=fun hc=>h (Oa hk hc)
theorem zr {X:Nx} {i:Nat} (h:pathN X i i):eX X i:=⟨i,h,.refl i⟩
def bX (r:Nat→Nat→Bool) (l:List Nat):Nx:=(List.range l.length).map fun p=>(List.range l.length).filter fun q=>r ((l[p]?).getD 0) ((l[q]?).getD 0)
theorem pg {r:Nat→Nat→Bool} {l:List Nat} {p q:Nat}:q∈au (bX r l) p↔ ∃ (hp:p<l.length) (hq:q<l.length),r l[p] l[q]=true:=by
 constructor
 ·intro h;have hp:=mX h;rw [bX,RA,Sg] at hp;simp [au,bX,hp] at h;obtain ⟨hq,h⟩:=h;rw [QU hq,TJ] at h;exact ⟨hp,hq,h⟩
 ·rintro ⟨hp,hq,h⟩;simp [au,bX,hp,hq,h]
theorem JU {X:Nx} {r:Nat→Nat→Bool} {n:Nat} {l:List Nat} (hr: ∀ i k,r i k=true↔pathN X i k) (ha:l.Pairwise (· < ·)) (hl: ∀ i∈l,i<n) (hc: ∀ i∈l,¬ eX X i):SubN r n l (bX r l):=by
 have hgo: ∀ {k q:Nat},Rch (bX r l) k q→ ∀ (hk:k<l.length) (hq:q<l.length),Rch X l[k] l[q]:=by
  intro k q h
  induction h with
  |refl k=>intro _ _;exact .refl _
  |step h _ ih=>
   intro hk hq;obtain ⟨_,hm,h⟩:=pg.1 h;exact ((hr _ _).1 h).rch.trans (ih hm hq)
 have hrel: ∀ p q (hp:p<l.length) (hq:q<l.length),r l[p] l[q]=true↔ ∃ k∈au (bX r l) p,Rch (bX r l) k q:=by
  intro p q hp hq;constructor
  ·intro h;exact ⟨q,pg.2 ⟨hp,hq,h⟩,.refl q⟩
  ·rintro ⟨k,hk,h⟩;obtain ⟨_,hkl,h1⟩:=pg.1 hk;exact (hr _ _).2 (((hr _ _).1 h1).trans (hgo h hkl hq))
 exact ⟨by simp [bX],ha,hl,fun p q h=>(pg.1 h).2.1,hrel,fun p hp h=>hc _ (RL hp) (zr ((hr _ _).1 ((hrel p p hp hp).2 h)))⟩
def ic (l:List Nat) (k:Nat):Nat:=(l.findIdx? fun b=>decide (b=k)).getD 0
theorem rf {l:List Nat} (hn:l.Pairwise (· < ·)) {i:Nat} (h:i<l.length):ic l l[i]=i:=by
 unfold ic
 rw [RU.2 ⟨h,by simp,fun j hj=>by
  have:=TR.1 hn j i (by omega) h hj;simpa using (by omega:l[j]'(by omega)≠l[i])⟩]
 rfl
def cF (X:Nx) (l:List Nat):Nx:=(List.range l.length).map fun p=>(au X ((l[p]?).getD 0)).map (ic l)
theorem mb {X:Nx} {l:List Nat} (ha:l.Pairwise (· < ·)) (hcl: ∀ i∈l,∀ k∈au X i,k∈l) {p q:Nat}:q∈au (cF X l) p↔ ∃ (hp:p<l.length) (hq:q<l.length),l[q]∈au X l[p]:=by
 constructor
 ·intro h;have hp:=mX h;rw [cF,RA,Sg] at hp;simp [au,cF,hp] at h;obtain ⟨k,hk,rfl⟩:=h;obtain ⟨q,hq,rfl⟩:=SM.1 (hcl _ (RL hp) k hk);rw [rf ha hq];exact ⟨hp,hq,hk⟩
 ·rintro ⟨hp,hq,h⟩;have:q∈(au X l[p]).map (ic l):=RG.2 ⟨l[q],h,rf ha hq⟩;simpa [au,cF,hp] using this
theorem I2 {X:Nx} {r:Nat→Nat→Bool} {n:Nat} {l:List Nat} (hr: ∀ i k,r i k=true↔pathN X i k) (ha:l.Pairwise (· < ·)) (hl: ∀ i∈l,i<n) (hc: ∀ i∈l,¬ eX X i) (hcl: ∀ i∈l,∀ k∈au X i,k∈l):SubN r n l (cF X l):=by
 have hgo: ∀ {k q:Nat},Rch (cF X l) k q→ ∀ (hk:k<l.length) (hq:q<l.length),Rch X l[k] l[q]:=by
  intro k q h
  induction h with
  |refl k=>intro _ _;exact .refl _
  |step h _ ih=>
   intro hk hq;obtain ⟨_,hm,h⟩:=(mb ha hcl).1 h;exact .step h (ih hm hq)
 have hback: ∀ {a b:Nat},Rch X a b→ ∀ (p q:Nat) (hp:p<l.length) (hq:q<l.length),l[p]=a→l[q]=b→Rch (cF X l) p q:=by
  intro a b h
  induction h with
  |refl k=>
   intro p q hp hq h1 h2;have e:p=q:=by
    rw [← rf ha hp,← rf ha hq,h1,h2]
   rw [e];exact .refl q
  |step h _ ih=>
   intro p q hp hq h1 h2;obtain ⟨m,hm,rfl⟩:=SM.1 (hcl _ (RL hp) _ (h1 ▸ h));exact .step ((mb ha hcl).2 ⟨hp,hm,h1 ▸ h⟩) (ih m q hm hq rfl h2)
 have hrel: ∀ p q (hp:p<l.length) (hq:q<l.length),r l[p] l[q]=true↔ ∃ k∈au (cF X l) p,Rch (cF X l) k q:=by
  intro p q hp hq;rw [hr];constructor
  ·rintro ⟨m,hm,h⟩;obtain ⟨k,hk,rfl⟩:=SM.1 (hcl _ (RL hp) m hm);exact ⟨k,(mb ha hcl).2 ⟨hp,hk,hm⟩,hback h k q hk hq rfl rfl⟩
  ·rintro ⟨k,hk,h⟩;obtain ⟨_,hkl,h1⟩:=(mb ha hcl).1 hk;exact ⟨l[k],h1,hgo h hkl hq⟩
 exact ⟨by simp [cF],ha,hl,fun p q h=>((mb ha hcl).1 h).2.1,hrel,fun p hp h=>hc _ (RL hp) (zr ((hr _ _).1 ((hrel p p hp hp).2 h)))⟩
end Go.SL
namespace Go.SL
open Go Go.Proofs
attribute [local irreducible] W WL WQ WG WA WX WLI WR WT WC VOp RW thn blk bH scp aV bz bP FnAt FnIn FnP ceP
def cj (p:Rf × Rf):List Value:= [.int .i64 p.1.col,.int .i64 p.1.row,.int .i64 p.2.col,.int .i64 p.2.row]
theorem o6 (p:Rf × Rf):(cj p).length=4:=rfl
def lQ (q:Rf→Rf→Bool) (F:List Rf) (a:Rf):List (Rf × Rf):=(F.filter (q a)).map fun b=>(a,b)
def iT (q:Rf→Rf→Bool) (F G:List Rf):List (Rf × Rf):=G.flatMap (lQ q F)
theorem IJ {q:Rf→Rf→Bool} {F:List Rf} {a:Rf} {k:Nat} (h:k<F.length):lQ q (F.take (k+1)) a=if q a F[k] then lQ q (F.take k) a++ [(a,F[k])] else lQ q (F.take k) a:=by
 rw [Ra h];simp only [lQ,TL,Sh,Tq,T9];split<;>simp
theorem DW {q:Rf→Rf→Bool} {F G:List Rf} {i:Nat} (h:i<G.length):iT q F (G.take (i+1))=iT q F (G.take i)++lQ q F G[i]:=by
 rw [Ra h];simp only [iT,Rp,Rl,RN,Rc]
theorem CA (q:Rf→Rf→Bool) (F:List Rf) (a:Rf):(lQ q F a).length≤F.length:=by
 simp only [lQ,RA];exact SR _ _
theorem xx (q:Rf→Rf→Bool) (F:List Rf): ∀ G:List Rf,(iT q F G).length≤G.length*F.length
 | []=>QZ _
 |a::r=>by
  have h1:=CA q F a;have h2:=xx q F r;have:iT q F (a::r)=lQ q F a++iT q F r:=rfl;rw [this,QT,Rk,Tg,TT];omega
def sV (E:List En):List (Rf × Rf):=iT (fun a b=>gJ (aW E a).uses b) (jM (E.map En.m)) (jM (E.map En.m))
theorem w7 (es:List (Rf × Value × Nat)):(jM es).length=es.length:=by
 have:=(TV (es.map fun e=>e.1) (fun x y=> !(bo y x))).length_eq;simp [jM,sortRf]
theorem Mx (gg gm clock:Nat) (E:List En) (hok:MapOk (E.map En.m) clock) (hlen:E.length≤1000) (R:List Blk) (w0:World) (hE: ∀ e∈E,EnOk R e):
 FnIn Tryz.prog 55 [.pointer (some ⟨gg,0,none⟩)] w0 (gB gg gm (E.map En.m) clock++R) fun v H=> ∃ A cap,v=sl A (sV E).length cap∧H= .own A 114 4 (sV E).length cap ((sV E).flatMap cj)::(gB gg gm (E.map En.m) clock++R):=by
 refine bF Tryz.func55 rfl Tryz.ntmps55 rfl ?_;have hF:=fun R=>uf gg gm clock (E.map En.m) hok (by simp;omega) R w0;have hfl:(jM (E.map En.m)).length≤1000:=by rw [w7];simpa using hlen
 have hl2:(E.map En.m).length=(jM (E.map En.m)).length:=(w7 _).symm;unfold sV;rw [hl2] at hF;generalize jM (E.map En.m)=F at hF hfl;refine aI 114 4 ?_;repeat' (first|(apply ak (f:=29);exact rfl;exact rfl;exact FnIn.msub (hF (.own none 114 4 0 0 []::R)) (by unfold gB;exact mS);rintro _ _ ⟨A0,c0,rfl,rfl⟩)|refine zZB ?_|refine sM fun _=>?_|(refine sC ?_ ?_<;>intro hb<;>try omega)|fail)
 unfold gB
 refine aw [0,4,14,15] rfl (fun x:Nat × Option Nat × Nat=> [(3,sl x.2.1 (iT (fun a b=>gJ (aW E a).uses b) F (F.take x.1)).length x.2.2),(16,.int .i64 (x.1:Int))])
  (fun x=> .own x.2.1 114 4 (iT (fun a b=>gJ (aW E a).uses b) F (F.take x.1)).length x.2.2 ((iT (fun a b=>gJ (aW E a).uses b) F (F.take x.1)).flatMap cj):: .own A0 28 2 F.length c0 (F.flatMap aB):: .box gg 85 [.map (some gm)]:: .obj gm (dw dm (E.map En.m) clock)::R)
  (fun x=>x.1≤F.length) (fun x=>F.length - x.1) (0,none,0) (QZ _) ?_ ?_ ?_
 ·exact sB
 ·simp only [iT,SK,RN,Ta];exact mS
 rintro ⟨i,A,cap⟩ hi;dsimp only at hi ⊢;by_cases hlt:i<F.length
 ·have htake:=DW (q:=fun a b=>gJ (aW E a).uses b) (F:=F) hlt;have hel:(iT (fun a b=>gJ (aW E a).uses b) F (F.take i)).length≤1000*1000:=by
   have h1:=xx (fun a b=>gJ (aW E a).uses b) F (F.take i);rw [RI] at h1;exact RD h1 (Nat.mul_le_mul (by omega) hfl)
  have hv0:((F.flatMap aB).drop (i*2)).take 2=aB F[i]:=fD eW F i hlt;have hl:=LA E F[i];have hoke:=sx hE F[i];have hq:lQ (fun a b=>gJ (aW E a).uses b) F F[i]=lQ (fun _ b=>gJ (aW E F[i]).uses b) F F[i]:=rfl;rw [hq] at htake;generalize F[i]=a at hv0 hl hoke htake;generalize aW E a=e at hl hoke htake;generalize iT (fun a b=>gJ (aW E a).uses b) F (F.take i)=X at htake hel;refine bg (A:=A0) pK (by omega) fun g0 hA0=> ?_;subst hA0;repeat' (first|(apply ai;exact rfl;apply ag;exact rfl;exact rfl;exact hlt)|(apply ai;exact rfl;apply aO (ys:=aB a);exact rfl;exact pK;(rw [Rv];exact hv0);exact rfl)|(apply fq;(iterate 3 exact rfl);apply eK;exact rfl)|(apply lZ (id:=8) [] [];kernel_rfl;kernel_rfl;kernel_rfl)|(apply fq;(iterate 3 exact rfl);apply nQ (enc:=dm) (z:=uT);exact rfl;exact rfl;exact pK;exact hl)|(apply fq;(iterate 3 exact rfl);apply ee;exact rfl;exact rfl)|refine zZK ?_|refine sM fun _=>?_|(refine sC ?_ ?_<;>intro hb<;>try omega)|(refine sCW ?_ ?_<;>intro hb<;>try omega)|fail)
  rename_i g6
  refine aw [0,4,6,7,14,15,16,27,28] rfl (fun x:Nat × Option Nat × Nat=> [(3,sl x.2.1 (X++lQ (fun _ b=>gJ e.uses b) (F.take x.1) a).length x.2.2),(29,.int .i64 (x.1:Int))])
   (fun x=> .box g6 28 (aB a):: .own x.2.1 114 4 (X++lQ (fun _ b=>gJ e.uses b) (F.take x.1) a).length x.2.2 ((X++lQ (fun _ b=>gJ e.uses b) (F.take x.1) a).flatMap cj):: .own (some g0) 28 2 F.length c0 (F.flatMap aB):: .box gg 85 [.map (some gm)]:: .obj gm (dw dm (E.map En.m) clock)::R)
   (fun x=>x.1≤F.length) (fun x=>F.length - x.1) (0,A,cap) (QZ _) ?_ ?_ ?_
  ·simp only [lQ,SK,T9,SE,Rc];exact sB
  ·simp only [lQ,SK,T9,SE,Rc];exact mS
  rintro ⟨k,A2,cap2⟩ hk;dsimp only at hk ⊢;by_cases hkt:k<F.length
  ·have hrow:=IJ (q:=fun _ b=>gJ e.uses b) (a:=a) hkt;have hrl:(lQ (fun _ b=>gJ e.uses b) (F.take k) a).length≤1000:=by
    have:=CA (fun _ b=>gJ e.uses b) (F.take k) a;rw [RI] at this;omega
   have hv1:((F.flatMap aB).drop (k*2)).take 2=aB F[k]:=fD eW F k hkt;generalize F[k]=b at hv1 hrow;have hcf:=fun (g9:Nat) (w' :World) (H' :List Blk) (hs:MSub R H') (hi:In (.box g9 28 (aB b)) H') (hm:Mem w0 w' H')=>Bn 102 [.pointer (some ⟨g9,0,none⟩)] (fun u=>DC u.rect b) e.uses hoke.ul e.uv w' (hoke.uses _ w' (hs.use hm)) (fun u w2 H2 hm2=>L5 u b g9 w2 (Ro.next (Ro.of_box hm hi) hm2));have hU:(e.uses.any fun u=>DC u.rect b)=gJ e.uses b:=rfl;rw [hU] at hcf;generalize gJ e.uses b=yes at hcf hrow;generalize lQ (fun _ b=>gJ e.uses b) (F.take k) a=Y at hrow hrl;have hXY:(X++Y).length≤1002000:=by rw [QT];omega
   have hXYs:(X++Y).length+1=(X++(Y++ [(a,b)])).length:=by simp [SC]
   have hXYf:(X++Y).flatMap cj++cj (a,b)=(X++(Y++ [(a,b)])).flatMap cj:=by simp
   repeat' (first|(apply ai;exact rfl;apply ag;exact rfl;exact rfl;exact hkt)|(apply ai;exact rfl;apply aO (ys:=aB b);exact rfl;exact pK;(rw [Rv];exact hv1);exact rfl)|(apply aa (f:=101);exact rfl;exact rfl;(intro w' hm;exact hcf _ w' _ mS pK hm))|(apply uZ;(iterate 6 exact rfl))|(apply aD (news:=cj (a,b));(iterate 3 exact rfl);exact pK;exact pK;exact rfl;(simp [cj,Value.oneCell']);omega;(simp only [maxLen];omega);(intro g3 cap3;rw [hXYs,hXYf]))|refine zZA ?_|refine sM fun _=>?_|(refine sC ?_ ?_<;>intro hb<;>try omega)|fail)
   ·rw [hb] at hrow;simp only [if_true] at hrow;refine ⟨(k+1,some g3,cap3),hkt,(by dsimp only;omega),?_,?_,?_⟩
    ·dsimp only;rw [hrow];exact sB
    ·exact sB
    ·dsimp only;rw [hrow];exact mS
   ·rw [hb] at hrow;simp only [RY,if_false] at hrow;refine ⟨(k+1,A2,cap2),hkt,(by dsimp only;omega),?_,?_,?_⟩
    ·dsimp only;rw [hrow];exact sB
    ·exact sB
    ·dsimp only;rw [hrow];exact mS
  ·have e2:k=F.length:=by omega
   subst e2;have htake' :=htake;rw [show F.take F.length=F from RS] at*;repeat' (first|refine zZA ?_|refine sM fun _=>?_|(refine sC ?_ ?_<;>intro hb<;>try omega)|fail)
   refine ⟨(i+1,A2,cap2),hlt,(by dsimp only;omega),?_,?_,?_⟩
   ·dsimp only;rw [htake];exact sB
   ·exact sB
   ·dsimp only;rw [htake];exact mS
 ·have e2:i=F.length:=by omega
  subst e2;rw [RS];repeat' (first|refine zZB ?_|refine sM fun _=>?_|(refine sC ?_ ?_<;>intro hb<;>try omega)|fail)
  all_goals exact bJ eIO rfl rfl mS ⟨A,cap,rfl,rfl⟩
end Go.SL
namespace Go.SL
open Go Go.Proofs
theorem KM (w:World) (d:Nat) (a b:Rf × Rf):(Op.equalIn (d+5) 114 (.agg (cj a).toArray) (.agg (cj b).toArray)).run Tryz.prog w= .ok (eqF a.1 b.1 && eqF a.2 b.2) w:=by
 obtain ⟨i,h1,h2⟩:=(inferInstance:Size Tryz.prog 28 2).out;have hc:Tryz.prog.cellsOf 28=2:=by kernel_rfl
 rw [run_equalIn_array w (d+4) (cj a).toArray (cj b).toArray Tryz.underlying114 h1,hc,show List.range 2= [0,1] from rfl];have hr: ∀ (a b:Rf) w,(Op.equalIn (d+4) 28 (.agg #[.int .i64 a.col,.int .i64 a.row]) (.agg #[.int .i64 b.col,.int .i64 b.row])).run Tryz.prog w= .ok (eqF a b) w:=fun a b w=>uI w (d+1) a b;have hpa: ∀ (c:Rf × Rf) w,(part 28 (cj c).toArray 0).run Tryz.prog w= .ok (.agg #[.int .i64 c.1.col,.int .i64 c.1.row]) w:=by
  intro c w;simp [part,go_sem,cj]
 have hpb: ∀ (c:Rf × Rf) w,(part 28 (cj c).toArray 2).run Tryz.prog w= .ok (.agg #[.int .i64 c.2.col,.int .i64 c.2.row]) w:=by
  intro c w;simp [part,go_sem,cj]
 by_cases h1:eqF a.1 b.1=true<;>by_cases h2:eqF a.2 b.2=true<;>simp [Op.eqItems,hpa,hpb,hr,h1,h2]
theorem LX (a b:Rf × Rf):(eqF a.1 b.1 && eqF a.2 b.2)=decide (a=b):=by
 rw [o5,o5,Sc];obtain ⟨a1,a2⟩:=a;obtain ⟨b1,b2⟩:=b;simp
section
variable {w0:World} {s:az} {H:List Blk} {ty t' :TypeId} {x y:Operand}
theorem MS {a b:Rf × Rf} (hx:ev s x=some (.agg (cj a).toArray)) (hy:ev s y=some (.agg (cj b).toArray)):VOp Tryz.prog w0 s H (.binOp .neq 114 x y t') ty (.bool (!decide (a=b))):=fun ρ w _ _ _ _ hρ _=>by
 have h:=KM w 9995 a b;rw [LX] at h;simp only [Nat.reduceAdd] at h;simp only [execOp,hρ x _ hx,hρ y _ hy,Sem.run_bind,run_eqGuard_agg w _ _ _ _ _ _ Tryz.eqGuardType114,Result.andThen_ok,run_neq_struct,h,Sem.run_pure]
end
end Go.SL
namespace Go.SL
open Go Go.Proofs
attribute [local irreducible] W WL WQ WG WA WX WLI WR WT WC VOp RW thn blk bH scp aV bz bP FnAt FnIn FnP ceP
theorem Bm (L M:List Rf) (lv mv:Value) (w:World) (hl:Reads w lv L.length (L.flatMap aB)) (hm:Reads w mv M.length (M.flatMap aB)):
 aC Tryz.prog 23 [lv,mv] w (.bool (decide (L=M))):=by
 obtain ⟨Al,cl,rfl,hl1,hl2,hl3⟩:=hl;obtain ⟨Am,cm,rfl,hm1,hm2,hm3⟩:=hm;refine ay Tryz.func23 rfl Tryz.ntmps23 rfl ?_;by_cases hlen:L.length=M.length
 ·repeat' (first|refine zZB ?_|refine sM fun _=>?_|(refine sC ?_ ?_<;>intro hb<;>try omega)|fail)
  refine fR (fun i:Nat=> [(0,.slice Al L.length cl),(1,.slice Am M.length cm),(5,.int .i64 (i:Int))]) (fun _=> []) (fun i=>i≤L.length∧decide (L=M)=decide (L.drop i=M.drop i)) (fun i=>L.length - i) 0 ⟨by omega,rfl⟩ ?_ ?_ ?_
  ·exact sB
  ·exact mS
  ·rintro i ⟨hi,hrec⟩;by_cases hlt:i<L.length
   ·have hlt2:i<M.length:=by omega
    obtain ⟨gl,ol,rfl,hrl⟩:=hl3 (by omega);obtain ⟨gm,om,rfl,hrm⟩:=hm3 (by omega);have he1:=hrl.elem eW i hlt;have he2:=hrm.elem eW i hlt2;rw [uQ hlt hlt2,← o5] at hrec;repeat' (first|(apply aZ;exact rfl;apply ag;exact rfl;exact rfl;(first|exact hlt|exact hlt2))|(apply aZ;exact rfl;apply bO;exact rfl;(first|exact he1|exact he2);exact rfl)|(apply aZ;exact rfl;apply Ko;exact rfl;exact rfl)|(apply ai;exact rfl;apply iJ;exact rfl;exact rfl;(simp only [maxLen] at*;omega))|refine sT ?_|refine sS ?_|refine sQ ?_|refine sD ?_|refine sM fun _=>?_|(refine sC ?_ ?_<;>intro hb<;>try omega)|(refine sCQ ?_ ?_<;>intro hb<;>try omega)|fail)
    ·(refine rT1 ?_);rw [hrec];simp_all
    ·refine ⟨i+1,⟨by omega,?_⟩,by omega,?_,?_⟩
     ·rw [hrec];simp_all
     ·exact sB
     ·exact mS
   ·have e:i=L.length:=by omega
    subst e;repeat' (first|refine zZB ?_|refine sM fun _=>?_|(refine sC ?_ ?_<;>intro hb<;>try omega)|fail)
    (refine rT1 ?_);rw [hrec,Sn,hlen,Sn]
    rfl
 ·repeat' (first|refine zZB ?_|refine sM fun _=>?_|(refine sC ?_ ?_<;>intro hb<;>try omega)|fail)
  (refine rT1 ?_);rw [decide_eq_false];intro e;exact hlen (congrArg List.length e)
theorem yg (L M:List (Rf × Rf)) (lv mv:Value) (w:World) (hl:Reads w lv L.length (L.flatMap cj)) (hm:Reads w mv M.length (M.flatMap cj)):
 aC Tryz.prog 57 [lv,mv] w (.bool (decide (L=M))):=by
 obtain ⟨Al,cl,rfl,hl1,hl2,hl3⟩:=hl;obtain ⟨Am,cm,rfl,hm1,hm2,hm3⟩:=hm;refine ay Tryz.func57 rfl Tryz.ntmps57 rfl ?_;by_cases hlen:L.length=M.length
 ·repeat' (first|refine zZB ?_|refine sM fun _=>?_|(refine sC ?_ ?_<;>intro hb<;>try omega)|fail)
  refine fR (fun i:Nat=> [(0,.slice Al L.length cl),(1,.slice Am M.length cm),(5,.int .i64 (i:Int))]) (fun _=> []) (fun i=>i≤L.length∧decide (L=M)=decide (L.drop i=M.drop i)) (fun i=>L.length - i) 0 ⟨by omega,rfl⟩ ?_ ?_ ?_
  ·exact sB
  ·exact mS
  ·rintro i ⟨hi,hrec⟩;by_cases hlt:i<L.length
   ·have hlt2:i<M.length:=by omega
    obtain ⟨gl,ol,rfl,hrl⟩:=hl3 (by omega);obtain ⟨gm,om,rfl,hrm⟩:=hm3 (by omega);have he1:=hrl.elem o6 i hlt;have he2:=hrm.elem o6 i hlt2;rw [uQ hlt hlt2] at hrec;repeat' (first|(apply aZ;exact rfl;apply ag;exact rfl;exact rfl;(first|exact hlt|exact hlt2))|(apply aZ;exact rfl;apply bO;exact rfl;(first|exact he1|exact he2);exact rfl)|(apply aZ;exact rfl;apply MS;exact rfl;exact rfl)|(apply ai;exact rfl;apply iJ;exact rfl;exact rfl;(simp only [maxLen] at*;omega))|refine sT ?_|refine sS ?_|refine sQ ?_|refine sD ?_|refine sM fun _=>?_|(refine sC ?_ ?_<;>intro hb<;>try omega)|(refine sCQ ?_ ?_<;>intro hb<;>try omega)|fail)
    ·(refine rT1 ?_);rw [hrec];simp_all
    ·refine ⟨i+1,⟨by omega,?_⟩,by omega,?_,?_⟩
     ·rw [hrec];simp_all
     ·exact sB
     ·exact mS
   ·have e:i=L.length:=by omega
    subst e;repeat' (first|refine zZB ?_|refine sM fun _=>?_|(refine sC ?_ ?_<;>intro hb<;>try omega)|fail)
    (refine rT1 ?_);rw [hrec,Sn,hlen,Sn]
    rfl
 ·repeat' (first|refine zZB ?_|refine sM fun _=>?_|(refine sC ?_ ?_<;>intro hb<;>try omega)|fail)
  (refine rT1 ?_);rw [decide_eq_false];intro e;exact hlen (congrArg List.length e)
theorem Bi {L M:List Us} (h:L=M) {lv mv:Value} {w:World} (hl:Reads w lv L.length (L.flatMap cP)) (hm:Reads w mv M.length (M.flatMap cP)):aC Tryz.prog 63 [lv,mv] w (.bool true):=by
 have:=Bj L M lv mv w hl hm;rwa [decide_eq_true h] at this
theorem dO {L M:List Rf} (h:L=M) {lv mv:Value} {w:World} (hl:Reads w lv L.length (L.flatMap aB)) (hm:Reads w mv M.length (M.flatMap aB)):aC Tryz.prog 23 [lv,mv] w (.bool true):=by
 have:=Bm L M lv mv w hl hm;rwa [decide_eq_true h] at this
theorem yf {L M:List (Rf × Rf)} (h:L=M) {lv mv:Value} {w:World} (hl:Reads w lv L.length (L.flatMap cj)) (hm:Reads w mv M.length (M.flatMap cj)):aC Tryz.prog 57 [lv,mv] w (.bool true):=by
 have:=yg L M lv mv w hl hm;rwa [decide_eq_true h] at this
theorem Bk {L M:List Nd} (h:L=M) {lv mv:Value} {w:World} (hl:Reads w lv L.length (L.flatMap bf)) (hm:Reads w mv M.length (M.flatMap bf)):aC Tryz.prog 64 [lv,mv] w (.bool true):=by
 have:=Bl L M lv mv w hl hm;rwa [decide_eq_true h] at this
end Go.SL
namespace Go.SL
open Go
def En.abs (e:En):Rf × List Nd × List Us:=(e.at_,e.tree,e.uses)
structure GOk (R:List Blk) (E:List En) (clock:Nat) (G:Gr):Prop where
 ok:MapOk (E.map En.m) clock
 en: ∀ e∈E,EnOk R e
 rel: ∀ x,x∈E.map En.abs↔x∈G
 sort:SortG G
theorem Hq (E:List En):((E.map En.m).map fun e=>e.1)=E.map En.at_:=by rw [SZ];rfl
theorem Mh (E:List En):((E.map En.m).map fun e=>e.2.2)=E.map En.born:=by rw [SZ];rfl
theorem GOk.sub {R R' :List Blk} {E:List En} {clock:Nat} {G:Gr} (h:GOk R E clock G) (hs:MSub R R'):GOk R' E clock G:=⟨h.ok,fun e he=>(h.en e he).sub hs,h.rel,h.sort⟩
theorem GOk.nodup {R:List Blk} {E:List En} {clock:Nat} {G:Gr} (h:GOk R E clock G):(E.map En.at_).Nodup:=Hq E ▸ h.ok.keys
theorem GOk.perm {R:List Blk} {E:List En} {clock:Nat} {G:Gr} (h:GOk R E clock G):(E.map En.abs).Perm G:=by
 refine qf ?_ ?_ h.rel
 ·have:=h.nodup;have e:E.map En.at_=(E.map En.abs).map fun x=>x.1:=by rw [SZ];rfl
  rw [e] at this;exact j9 _ this
 ·exact j9 (fun e:Rf × List Nd × List Us=>e.1) h.sort.nodup
theorem GOk.len {R:List Blk} {E:List En} {clock:Nat} {G:Gr} (h:GOk R E clock G):E.length=G.length:=by
 have:=h.perm.length_eq;simpa using this
theorem GOk.forms {R:List Blk} {E:List En} {clock:Nat} {G:Gr} (h:GOk R E clock G):jM (E.map En.m)=aA G:=by
 have hp:(E.map En.at_).Perm (aA G):=by
  have:=h.perm.map fun x=>x.1;rw [SZ] at this;exact this
 rw [jM,Hq,tD hp,xX (Dx h.sort)]
theorem GOk.look {R:List Blk} {E:List En} {clock:Nat} {G:Gr} (h:GOk R E clock G) (a:Rf):(eL E a).map (fun e=>(e.tree,e.uses))=mq G a:=by
 cases hf:eL E a with
 |some e=>
  have h1:=List.find?_some hf;simp only [decide_eq_true_eq] at h1;have h2:(a,e.tree,e.uses)∈G:=by
   rw [← h.rel];refine RG.2 ⟨e,Ui hf,?_⟩;rw [← h1];rfl
  rw [(kQ h.sort).2 h2];rfl
 |none=>
  rw [eL,Ur] at hf;symm;rw [UX,FT];intro x hx;rw [← h.rel] at hx;obtain ⟨e,he,rfl⟩:=RG.1 hx;have:=hf e he;simpa [En.abs] using this
theorem GOk.uses {R:List Blk} {E:List En} {clock:Nat} {G:Gr} (h:GOk R E clock G) (a:Rf):(aW E a).uses=dF G a:=by
 rw [dF,← h.look a,aW];cases eL E a<;>rfl
theorem GOk.tree {R:List Blk} {E:List En} {clock:Nat} {G:Gr} (h:GOk R E clock G) (a:Rf):(aW E a).tree=gV G a:=by
 rw [gV,← h.look a,aW];cases eL E a<;>rfl
theorem GOk.is {R:List Blk} {E:List En} {clock:Nat} {G:Gr} (h:GOk R E clock G) (a:Rf):(eL E a).isSome=isG G a:=by
 rw [isG,← h.look a];cases eL E a<;>rfl
theorem qj {κ:Type} [DecidableEq κ] {k:κ}: ∀ {es:List (κ × Value × Nat)} {i:Nat},cx k es i=none→ ∀ e∈es,e.1≠k
 | [],_,_,e,he=>by cases he
 |x::r,i,h,e,he=>by
  rw [cx] at h;split at h
  ·cases h
  ·rename_i hk;rcases RF.1 he with rfl|he
   ·exact fun e=>hk e.symm
   ·exact qj h e he
theorem GOk.del {R:List Blk} {E:List En} {clock:Nat} {G:Gr} (h:GOk R E clock G) (a:Rf): ∃ E',E'.map En.m=FX a (E.map En.m)∧GOk R E' clock (ye G a):=by
 unfold FX
 cases hk:cx a (E.map En.m) 0 with
 |none=>
  have hno:=qj hk;refine ⟨E,rfl,h.ok,h.en,fun x=> ?_,rV h.sort a⟩;rw [wJ,← h.rel];refine ⟨fun hx=>⟨hx,?_⟩,fun hx=>hx.1⟩;obtain ⟨e,he,rfl⟩:=RG.1 hx;exact hno e.m (RG.2 ⟨e,he,rfl⟩)
 |some x=>
  obtain ⟨j,v⟩:=x;obtain ⟨b,_,hj⟩:=oW hk;rw [Td,Rj] at hj;obtain ⟨e0,he0,hm0⟩:=Sr.1 hj;have ha:e0.at_=a:=congrArg Prod.fst hm0;have hsub:(E.eraseIdx j).Sublist E:=List.eraseIdx_sublist E j;have hin: ∀ e,e∈E.eraseIdx j↔e∈E∧e.at_≠a:=by
   intro e;rw [List.mem_eraseIdx_iff_getElem?];obtain ⟨hjl,hj0⟩:=Rm.1 he0;constructor
   ·rintro ⟨i,hne,hi⟩;refine ⟨Uf hi,fun hea=>hne ?_⟩;obtain ⟨hil,hi0⟩:=Rm.1 hi;have hn:=h.nodup;have:=UG (xs:=E.map En.at_) (h₀:=by simpa using hil) (h₁:=by simpa using hjl) hn;refine this.1 ?_;simp only [UV,hi0,hj0,hea,ha]
   ·rintro ⟨he,hea⟩;obtain ⟨i,hil,hi⟩:=Tb he;refine ⟨i,?_,by rw [QU hil,hi]⟩;rintro rfl;rw [hj0] at hi;exact hea (hi ▸ ha)
  refine ⟨E.eraseIdx j,nz _ _ _,?_,fun e he=>h.en e (hsub.subset he),fun x=> ?_,rV h.sort a⟩
  ·have hs2:((E.eraseIdx j).map En.m).Sublist (E.map En.m):=hsub.map _;exact ⟨(hs2.map _).nodup h.ok.born,fun e he=>h.ok.old e (hs2.subset he),(hs2.map _).nodup h.ok.keys⟩
  ·rw [wJ,← h.rel];constructor
   ·intro hx;obtain ⟨e,he,rfl⟩:=RG.1 hx;obtain ⟨h1,h2⟩:=(hin e).1 he;exact ⟨RG.2 ⟨e,h1,rfl⟩,h2⟩
   ·rintro ⟨hx,hne⟩;obtain ⟨e,he,rfl⟩:=RG.1 hx;exact RG.2 ⟨e,(hin e).2 ⟨he,hne⟩,rfl⟩
theorem GOk.put {R:List Blk} {E:List En} {clock:Nat} {G:Gr} (h:GOk R E clock G) (n:En) (hn:EnOk R n): ∃ E',E'.map En.m=(nC n.at_ (.agg #[n.tv,n.uv]) clock (E.map En.m)).1∧GOk R E' (nC n.at_ (.agg #[n.tv,n.uv]) clock (E.map En.m)).2 (uq G n.at_ (n.tree,n.uses)):=by
 unfold nC
 cases hk:cx n.at_ (E.map En.m) 0 with
 |none=>
  have hno:=qj hk;have hno' :n.at_∉E.map En.at_:=fun hx=>by
   obtain ⟨e,he,hea⟩:=RG.1 hx;exact hno e.m (RG.2 ⟨e,he,rfl⟩) hea
  refine ⟨E++ [{ n with born:=clock }],by simp [En.m,En.tv,En.uv],⟨?_,?_,?_⟩,fun e he=> ?_,fun x=> ?_,rU h.sort _ _⟩
  ·have hb:=h.ok.born;rw [Mh] at hb ⊢;rw [Sh,TS];refine ⟨hb,by simp,fun x hx y hy=> ?_⟩;simp only [RP,SE,Rd] at hy;subst hy;obtain ⟨e,he,rfl⟩:=RG.1 hx;have:=h.ok.old e.m (RG.2 ⟨e,he,rfl⟩);simp only [En.m] at this;omega
  ·intro e he;rw [Sh] at he;rcases Rz.1 he with he|he
   ·have:=h.ok.old e he;simp only;omega
   ·simp only [RP,SE,Rd] at he;subst he;simp [En.m]
  ·rw [Hq,Sh,TS];refine ⟨h.nodup,by simp,fun x hx y hy e=> ?_⟩;simp only [RP,SE,Rd] at hy;subst hy;subst e;exact hno' hx
  ·rcases Rz.1 he with he|he
   ·exact h.en e he
   ·rw [Rd.1 he];exact ⟨hn.tree,hn.uses,hn.tl,hn.ul⟩
  ·rw [wI,← h.rel,Sh,Rz];constructor
   ·rintro (hx|hx)
    ·right
     obtain ⟨e,he,rfl⟩:=RG.1 hx;exact ⟨hx,fun hea=>hno' (RG.2 ⟨e,he,hea⟩)⟩
    ·left
     simpa [En.abs] using hx
   ·rintro (rfl|⟨hx,_⟩)
    ·right;simp [En.abs]
    ·left;exact hx
 |some x=>
  obtain ⟨j,v⟩:=x;obtain ⟨b,_,hj⟩:=oW hk;rw [Td,Rj] at hj;obtain ⟨e0,he0,hm0⟩:=Sr.1 hj;have ha:e0.at_=n.at_:=congrArg Prod.fst hm0;obtain ⟨hjl,hj0⟩:=Rm.1 he0;have hget: ∀ i,(E.modify j fun e=>{ n with born:=e.born })[i]? =if j=i then (E[i]?).map (fun e=>{ n with born:=e.born }) else E[i]? :=fun i=>by
   rw [List.getElem?_modify];split<;>rename_i hji
   ·rfl
   ·cases E[i]? <;>rfl
  have hin: ∀ e,e∈(E.modify j fun e=>{ n with born:=e.born })↔e={ n with born:=e0.born } ∨(e∈E∧e.at_≠n.at_):=by
   intro e;constructor
   ·intro he;obtain ⟨i,hi⟩:=UC.1 he;rw [hget] at hi;split at hi
    ·rename_i hji;subst hji;rw [he0] at hi
     left
     exact (Option.some.inj hi).symm
    ·rename_i hji
     right
     refine ⟨Uf hi,fun hea=>hji ?_⟩;obtain ⟨hil,hi0⟩:=Rm.1 hi;have:=UG (xs:=E.map En.at_) (h₀:=by simpa using hjl) (h₁:=by simpa using hil) h.nodup;refine this.1 ?_;simp only [UV,hi0,hj0,hea,ha]
   ·rintro (rfl|⟨he,hea⟩)
    ·refine UC.2 ⟨j,?_⟩;rw [hget,if_pos rfl,he0];rfl
    ·obtain ⟨i,hil,hi⟩:=Tb he;refine UC.2 ⟨i,?_⟩;rw [hget,if_neg,QU hil,hi];rintro rfl;rw [hj0] at hi;exact hea (hi ▸ ha)
  have hborn:(E.modify j fun e=>{ n with born:=e.born }).map En.born=E.map En.born:=by
   apply Sz;intro i;rw [Rj,Rj,hget];split
   ·cases E[i]? <;>rfl
   ·rfl
  have hkeys:(E.modify j fun e=>{ n with born:=e.born }).map En.at_=E.map En.at_:=by
   apply Sz;intro i;rw [Rj,Rj,hget];split
   ·rename_i hji;subst hji;rw [he0];simp [ha]
   ·rfl
  refine ⟨E.modify j fun e=>{ n with born:=e.born },?_,⟨?_,?_,?_⟩,fun e he=> ?_,fun x=> ?_,rU h.sort _ _⟩
  ·apply Sz;intro i;simp only [List.getElem?_modify,Rj]
   cases E[i]? with
   |none=>simp
   |some e=>by_cases hji:j=i<;>simp [hji,En.m,En.tv,En.uv]
  ·rw [Mh,hborn,← Mh];exact h.ok.born
  ·intro e he;obtain ⟨e',he',rfl⟩:=RG.1 he;have:e'.born∈E.map En.born:=by rw [← hborn];exact RG.2 ⟨e',he',rfl⟩
   obtain ⟨e2,he2,hb2⟩:=RG.1 this;have:=h.ok.old e2.m (RG.2 ⟨e2,he2,rfl⟩);simp only [En.m] at this ⊢;omega
  ·rw [Hq,hkeys];exact h.nodup
  ·rcases (hin e).1 he with rfl|⟨he,_⟩
   ·exact ⟨hn.tree,hn.uses,hn.tl,hn.ul⟩
   ·exact h.en e he
  ·rw [wI,← h.rel];constructor
   ·intro hx;obtain ⟨e,he,rfl⟩:=RG.1 hx;rcases (hin e).1 he with rfl|⟨he,hea⟩
    ·left;rfl
    ·right;exact ⟨RG.2 ⟨e,he,rfl⟩,hea⟩
   ·rintro (rfl|⟨hx,hne⟩)
    ·exact RG.2 ⟨_,(hin _).2 (.inl rfl),rfl⟩
    ·obtain ⟨e,he,rfl⟩:=RG.1 hx;exact RG.2 ⟨e,(hin e).2 (.inr ⟨he,hne⟩),rfl⟩
theorem iL {o:Option Out} {k:Nat→PS→Option Out} {x:Int × Int} (h:gK o k=some (.error x)) (h1: ∀ y,o=some (.error y)→y.2≠0) (h2: ∀ n p y,k n p=some (.error y)→y.2≠0):x.2≠0:=by
 obtain ⟨r1,hr,⟨e,rfl,he⟩|⟨n,p,rfl,hk⟩⟩:=bI h
 ·cases he;exact h1 _ hr
 ·exact h2 _ _ _ hk
theorem tW {fin:Int} {name:Tk} {fn:Int} {n:Nat} {p:PS} {x:Int × Int} (h:dz fin name fn n p=some (.error x)):x.2≠0:=by
 unfold dz at h;dsimp only at h;split at h
 ·cases h;simp
 ·split at h
  ·cases h;simp
  ·split at h
   ·cases h;simp
   ·cases h
theorem KN (fin:Int): ∀ (f:Nat) (j:Job) (p:PS) (x:Int × Int),bw fin f j p=some (.error x)→x.2≠0:=by
 intro f
 induction f with
 |zero=>intro j p x h;cases j<;>cases h
 |succ f ih=>
  intro j p x h
  cases j with
  |level k=>
   rw [bw] at h;split at h
   ·exact ih _ _ _ h
   ·exact iL h (ih _ _) fun _ _=>ih _ _
  |loop k=>
   rw [bw] at h;try dsimp only at h
   split at h
   ·exact iL h (ih _ _) fun _ _=>ih _ _
   ·cases h
  |sign=>
   rw [bw] at h;try dsimp only at h
   split at h
   ·exact iL h (ih _ _) fun _ _ _ h=>by cases h
   ·refine iL h (ih _ _) fun _ _ y h=> ?_;split at h
    ·exact iL h (ih _ _) fun _ _ _ h=>by cases h
    ·cases h
  |pct=>
   rw [bw] at h;exact iL h (ih _ _) fun _ _=>ih _ _
  |pctl=>
   rw [bw] at h;try dsimp only at h
   split at h
   ·exact ih _ _ _ h
   ·cases h
  |prim=>
   rw [bw] at h;try dsimp only at h
   split at h
   ·cases h
   ·split at h
    ·cases h
    ·split at h
     ·refine iL h (ih _ _) fun _ _ y h=> ?_;split at h
      ·cases h;simp
      ·cases h
     ·split at h
      ·split at h
       ·cases h;simp
       ·split at h
        ·cases h;simp
        ·split at h
         ·exact tW h
         ·exact iL h (ih _ _) fun _ _ _ h=>tW h
      ·cases h;simp
  |args fn n=>
   rw [bw] at h;try dsimp only at h
   have hgo: ∀ (p:PS) (y:Int × Int),(if (hdT fin p.l).kind=11 then bw fin f (.args fn (n+1)) p.skip else some (.ok (n+1,p)))=some (.error y)→y.2≠0:=by
    intro p y h;split at h
    ·exact ih _ _ _ h
    ·cases h
   split at h
   ·exact iL h (ih _ _) fun _ _ _ h=>hgo _ _ h
   ·split at h
    ·cases h;simp
    ·exact hgo _ _ h
theorem pO {x:List Tk × Int × Int} {fin:Int}:(bM x fin).1.length≤x.1.length∧((bM x fin).2.2=0→dM (bM x fin).1=0):=by
 have hends:=rX fin (20*x.1.length+40) (.level 1) ⟨x.1,[]⟩ ⟨by omega,by omega⟩ (by simp only [Job.c];omega);have hgrew:=fun n p hp=>ku fin (20*x.1.length+40) (.level 1) ⟨x.1,[]⟩ n p hp;unfold bM;split
 ·rename_i h;exact ⟨QZ _,fun h' =>absurd h' h⟩
 ·split
  ·rename_i h;obtain ⟨r,hr,_⟩:=hends;rw [h] at hr;cases hr
  ·rename_i a e h;exact ⟨QZ _,fun h' =>absurd h' (KN _ _ _ _ _ h)⟩
  ·rename_i n p hp;split
   ·exact ⟨QZ _,fun h' =>by cases h'⟩
   ·split
    ·rename_i hc;exact ⟨QZ _,fun h' =>absurd h' hc⟩
    ·rename_i hc;obtain ⟨⟨m,h1,h2,h3⟩,_,_⟩:=hgrew _ _ hp;simp only [Ta,Rv] at h3;exact ⟨RD h3 h2,fun _=>by simpa using hc⟩
theorem wz {b:ByteArray} (h:(ofP b).2.2=0) (hf:(ofP b).1.formula=true):dM (ofP b).1.tree=0:=by
 unfold ofP at h hf ⊢;split at hf
 ·cases hf
 ·rename_i h1;rw [if_neg h1] at h ⊢;split at hf
  ·cases hf
  ·rename_i h2;rw [h2] at h;simp only at h ⊢;split at hf
   ·cases hf
   ·rename_i h3;rw [if_neg h3] at h ⊢;have ht:=pO (x:=bq dJ (ap (kX b eqB).1)) (fin:=((kX b eqB).1.size:Int));generalize bM (bq dJ (ap (kX b eqB).1)) ((kX b eqB).1.size:Int)=r at h hf ht ⊢;obtain ⟨t,at_,e⟩:=r;simp only at h hf ht ⊢;split at hf
    ·cases hf
    ·rename_i h4;rw [if_neg h4];exact ht.2 (by simpa using h4)
theorem Ae (b:ByteArray):(ofP b).1.tree.length≤256:=by
 unfold ofP;split
 ·exact QZ _
 ·split
  ·exact QZ _
  ·split
   ·exact QZ _
   ·have ht:=(pO (x:=bq dJ (ap (kX b eqB).1)) (fin:=((kX b eqB).1.size:Int))).1;have hl:=nV dJ (ap (kX b eqB).1);generalize bM (bq dJ (ap (kX b eqB).1)) ((kX b eqB).1.size:Int)=r at ht ⊢;obtain ⟨t,at_,e⟩:=r;simp only at ht ⊢;split
    ·exact QZ _
    ·exact RD ht hl
end Go.SL
namespace Go.SL
open Go Go.Proofs
attribute [local irreducible] W WL WQ WG WA WX WLI WR WT WC VOp RW thn blk bH scp aV bz bP FnAt FnIn FnP ceP
theorem NL (R:List Blk):GOk R [] 0 []:=⟨⟨TY,(fun _ h=>by cases h),TY⟩,(fun _ h=>by cases h),(fun _=>Iff.rfl),yI⟩
end Go.SL
namespace Go.SL
open Go
theorem lN: ∀ (L:List Nd) (i:Nat),∀ u∈dV L i,∃ n∈L,gG n=true∧u.rect=n.rect
 | [],_,u,h=>by cases h
 |n::r,i,u,h=>by
  rw [dV] at h
  cases hr:gG n with
  |false=>
   rw [hr,cond_false] at h;obtain ⟨m,hm,h1,h2⟩:=lN r (i+1) u h;exact ⟨m,Rh _ hm,h1,h2⟩
  |true=>
   rw [hr,cond_true] at h;rcases RF.1 h with rfl|h
   ·refine ⟨n,QY,hr,?_⟩;unfold nT
    cases r with
    |nil=>rfl
    |cons m q=>dsimp only;split<;>rfl
   ·obtain ⟨m,hm,h1,h2⟩:=lN r (i+1) u h;exact ⟨m,Rh _ hm,h1,h2⟩
theorem Ig {L:List Nd} (h:dM L=0): ∀ u∈eE L,dL u.rect=true:=fun u hu=>by
 obtain ⟨n,hn,h1,h2⟩:=lN L 0 u hu;rw [h2];exact DP (Ba h n hn) h1
structure EntOk (e:Rf × List Nd × List Us):Prop where
 at_:e.1.valid=true
 tree:dM e.2.1=0
 uses:e.2.2=eE e.2.1
 len:e.2.1.length≤256
theorem EntOk.rect {e:Rf × List Nd × List Us} (h:EntOk e): ∀ u∈e.2.2,dL u.rect=true:=by
 rw [h.uses];exact Ig h.tree
structure GrOk (G:Gr):Prop where
 sort:SortG G
 ent: ∀ e∈G,EntOk e
theorem wW:GrOk []:=⟨yI,fun _ h=>by cases h⟩
theorem GrOk.set {G:Gr} (h:GrOk G) (a:Rf) (b:ByteArray):GrOk (fN G a b).1:=by
 refine ⟨Iy h.sort a b,?_⟩;unfold fN;split
 ·exact h.ent
 ·rename_i hv;split
  ·exact h.ent
  ·rename_i he;split
   ·exact fun e he=>h.ent e (wJ.1 he).1
   ·rename_i hf;intro e hm;rcases wI.1 hm with rfl|⟨hm,_⟩
    ·exact ⟨by simpa using hv,wz (by simpa using he) (by simpa using hf),rfl,Ae b⟩
    ·exact h.ent e hm
theorem vT (G:Gr) (a:Rf) (b:ByteArray):(fN G a b).1.length≤G.length+1:=by
 unfold fN;split
 ·exact TP _
 ·split
  ·exact TP _
  ·split
   ·exact RD (SR _ _) (TP _)
   ·simp only [uq,QT,Rk];have:(G.filter fun e=>bo e.1 a).length+(G.filter fun e=>bo a e.1).length≤G.length:=by
     induction G with
     |nil=>simp
     |cons e r ih=>
      simp only [Tq,Rk];cases h1:bo e.1 a
      ·cases h2:bo a e.1<;>simp<;>omega
      ·rw [lH h1];simp;omega
    omega
theorem H6 {c r:Int}:valid c r=true↔1≤c∧c≤1024∧1≤r∧r≤1024:=by
 simp only [valid,RB,decide_eq_true_eq];omega
theorem CN {c r:Int}:dL (kN c r)=valid c r:=by
 rw [Sc,v8,H6];simp only [kN];omega
theorem Jy {u:Us} {a:Rf} (hu:dL u.rect=true) (ha:a.valid=true):DC u.rect a=vH (kN a.col a.row) u:=by
 rw [Sc,Ik,CN];have hv:valid a.col a.row=true:=ha;simp only [DC,RB,decide_eq_true_eq,kN,hu,hv,true_and];omega
theorem rk {us:List Us} {a:Rf} (hu: ∀ u∈us,dL u.rect=true) (ha:a.valid=true):gJ us a=dW us (kN a.col a.row):=by
 unfold gJ dW;exact zy fun u h=>Jy (hu u h) ha
theorem Jm {G:Gr} (h:SortG G) {e:Rf × List Nd × List Us} (he:e∈G):mq G e.1=some e.2:=(kQ h).2 he
theorem yB {G:Gr} (h:SortG G) {e:Rf × List Nd × List Us} (he:e∈G):dF G e.1=e.2.2:=by rw [dF,Jm h he];rfl
theorem Ji {G:Gr} {c:Rf}:c∈aA G↔ ∃ e∈G,e.1=c:=by simp [aA]
theorem Jq {G:Gr} (h:GrOk G) {d:Rf} (hd:d∈aA G):d.valid=true:=by
 obtain ⟨e,he,rfl⟩:=Ji.1 hd;exact (h.ent e he).at_
theorem GOk.edges {R:List Blk} {E:List En} {clock:Nat} {G:Gr} (h:GOk R E clock G):sV E=bW G:=by
 unfold sV iT bW;rw [h.forms];have hrow: ∀ a,lQ (fun a b=>gJ (aW E a).uses b) (aA G) a=(G.filter fun f=>gJ (dF G a) f.1).map fun f=>(a,f.1):=by
  intro a;rw [lQ,aA,Ut,SZ,h.uses]
  rfl
 have: ∀ L:Gr,(∀ e∈L,e∈G)→(aA L).flatMap (lQ (fun a b=>gJ (aW E a).uses b) (aA G))=L.flatMap fun e=>(G.filter fun f=>gJ e.2.2 f.1).map fun f=>(e.1,f.1):=by
  intro L
  induction L with
  |nil=>intro _;rfl
  |cons e r ih=>
   intro hL;have hk:aA (e::r)=e.1::aA r:=rfl;rw [hk,Rl,Rl,hrow,yB h.sort (hL e QY),ih fun f hf=>hL f (Rh _ hf)]
 exact this G fun _ h=>h
theorem xy (G:Gr):(bW G).length≤G.length*G.length:=by
 unfold bW;have: ∀ L:Gr,(L.flatMap fun e=>(G.filter fun f=>gJ e.2.2 f.1).map fun f=>(e.1,f.1)).length≤L.length*G.length:=by
  intro L
  induction L with
  |nil=>simp
  |cons a r ih=>
   rw [Rl,QT,RA,Rk,Tg,TT];have:=SR (fun f:Rf × List Nd × List Us=>gJ a.2.2 f.1) G;omega
 exact this G
theorem Ih {G:Gr} (h:GrOk G) (c:Rf):(dF G c).length≤256:=by
 unfold dF
 cases hl:mq G c with
 |none=>simp
 |some x=>
  have h1:=h.ent _ ((kQ h.sort).1 hl);simp only [Sq,TJ];rw [h1.uses];exact RD (iK _ _) h1.len
theorem Ij {G:Gr} (h:GrOk G) (c:Rf):(gV G c).length≤256:=by
 unfold gV
 cases hl:mq G c with
 |none=>simp
 |some x=>
  have h1:=h.ent _ ((kQ h.sort).1 hl);simpa using h1.len
end Go.SL
namespace Go.SL
open Go Go.Proofs
attribute [local irreducible] W WL WQ WG WA WX WLI WR WT WC VOp RW thn blk bH scp aV bz bP FnAt FnIn FnP ceP
theorem Bf (gg gm clock:Nat) (E:List En) (G:Gr) (a:Rf) (b:ByteArray) (R F:List Blk) (w0:World) (hG:GOk R E clock G) (hW:Words w0):
 FnIn Tryz.prog 15 [.pointer (some ⟨gg,0,none⟩),dm a,.string b] w0 (gB gg gm (E.map En.m) clock++(R++F)) fun v H=>v= .int .i64 (fN G a b).2∧ ∃ E' clock' R',H=gB gg gm (E'.map En.m) clock' ++(R' ++F)∧MSub R R' ∧GOk R' E' clock' (fN G a b).1:=by
 refine bF Tryz.func15 rfl Tryz.ntmps15 rfl ?_;have hV:=fun (w' :World) (H' :List Blk) (hm:Mem w0 w' H')=>(nO a.col a.row w' :aC Tryz.prog 44 [dm a] w' (.bool (valid a.col a.row)));have hO:=fun (w' :World) (H' :List Blk) (hm:Mem w0 w' H')=>OG b w' (hW.next hm);unfold gB;unfold fN;by_cases hv:a.valid=false
 ·rw [if_pos hv];have hv' :valid a.col a.row=false:=hv;rw [hv'] at hV;repeat' (first|(apply aa (f:=44);exact rfl;exact rfl;(intro w' hm;exact hV w' _ hm))|refine zZI ?_|refine sM fun _=>?_|(refine sC ?_ ?_<;>intro hb<;>try omega)|(refine sCW ?_ ?_<;>intro hb<;>try omega)|fail)
  all_goals exact bJ eIO rfl rfl mS ⟨rfl,E,clock,R,rfl,MSub.refl _,hG⟩
 rw [if_neg hv];have hv' :valid a.col a.row=true:=by
  have:a.valid=valid a.col a.row:=rfl;rw [this] at hv;simpa using hv
 rw [hv'] at hV;have hlen:=Ae b;have htree:=wz (b:=b);generalize ofP b=r at hO hlen htree;obtain ⟨⟨fm,v,t⟩,at_,e⟩:=r;simp only [ofV,AY] at hO;dsimp only at hlen htree ⊢;by_cases he:e≠0
 ·rw [if_pos he];repeat' (first|(apply aa (f:=44);exact rfl;exact rfl;(intro w' hm;exact hV w' _ hm))|(apply aK (f:=45);exact rfl;exact rfl;(intro w' hm;exact hO w' _ hm);rintro _ _ ⟨A,cap,rfl,rfl⟩)|refine zZI ?_|refine sM fun _=>?_|(refine sC ?_ ?_<;>intro hb<;>try omega)|(refine sCW ?_ ?_<;>intro hb<;>try omega)|fail)
  all_goals exact bJ eIO rfl rfl mS ⟨rfl,E,clock,R,rfl,MSub.refl _,hG⟩
 rw [if_neg he];have he0:e=0:=by omega
 subst he0
 cases fm with
 |false=>
  obtain ⟨E',hE',hG'⟩:=hG.del a;rw [if_pos rfl];repeat' (first|(apply aa (f:=44);exact rfl;exact rfl;(intro w' hm;exact hV w' _ hm))|(apply aK (f:=45);exact rfl;exact rfl;(intro w' hm;exact hO w' _ hm);rintro _ _ ⟨A,cap,rfl,rfl⟩)|refine zZI ?_|refine sM fun _=>?_|(refine sC ?_ ?_<;>intro hb<;>try omega)|(refine sCW ?_ ?_<;>intro hb<;>try omega)|fail)
  rename_i g4 g7;refine gy (id:=9) [5] [] [.box gg 85 [.map (some gm)],.box g4 28 (aB a)] (by kernel_rfl) (by kernel_rfl) (by kernel_rfl) mS ?_;repeat' (first|(apply fq;(iterate 3 exact rfl);apply eK;exact rfl)|(apply HW (enc:=dm) (t:=83);(iterate 3 exact rfl);exact pK;rw [← hE'])|refine zZI ?_|refine sM fun _=>?_|(refine sC ?_ ?_<;>intro hb<;>try omega)|(refine sCW ?_ ?_<;>intro hb<;>try omega)|fail)
  all_goals exact bJ eIO rfl rfl mS ⟨rfl,E',clock,R,rfl,MSub.refl _,hG'⟩
 |true=>
  have hck:=htree rfl rfl;rw [if_neg (by simp)];have hU:=fun (w' :World) (A:Option Nat) (cap:Nat) (H' :List Blk) (hi:In (.own A 123 11 t.length cap (t.flatMap bf)) H') (hm:Mem w0 w' H')=>Og t (sl A t.length cap) w' (Reads.of_own hm hi) (by omega);have hue:iZ t=(eE t,0):=by unfold iZ;rw [hck];rfl
  have hul:(eE t).length≤256:=RD (iK t 0) hlen;rw [hue] at hU;repeat' (first|(apply aa (f:=44);exact rfl;exact rfl;(intro w' hm;exact hV w' _ hm))|(apply aK (f:=45);exact rfl;exact rfl;(intro w' hm;exact hO w' _ hm);rintro _ _ ⟨A,cap,rfl,rfl⟩)|(apply aK (f:=46);exact rfl;exact rfl;(intro w' hm;exact hU w' _ _ _ pK hm);rintro _ _ ⟨A2,cap2,rfl,rfl⟩)|refine zZI ?_|refine sM fun _=>?_|(refine sC ?_ ?_<;>intro hb<;>try omega)|(refine sCW ?_ ?_<;>intro hb<;>try omega)|fail)
  rename_i g4 g7;have hGR:=hG.sub (R' := .own A 123 11 t.length cap (t.flatMap bf):: .own A2 121 6 (eE t).length cap2 ((eE t).flatMap cP)::R) mS;obtain ⟨E',hE',hG'⟩:=hGR.put ⟨a,A.map fun g=>⟨g,0,none⟩,cap,A2.map fun g=>⟨g,0,none⟩,cap2,t,eE t,0⟩ ⟨rdIn.own (A:=A) pK,rdIn.own (A:=A2) pK,by dsimp only;omega,by dsimp only;omega⟩;generalize hck2:(nC a (.agg #[sl A t.length cap,sl A2 (eE t).length cap2]) clock (E.map En.m))=kp;have hE2:E'.map En.m=kp.1:=hck2 ▸ hE';have hG2:GOk _ E' kp.2 (uq G a (t,eE t)):=hck2 ▸ hG';refine gy (id:=14) [9] [] [.box gg 85 [.map (some gm)],.box g4 28 (aB a),.box g7 93 [.bool true,.int .u8 v.kind,.int .i64 v.num,.string v.text,sl A t.length cap]] (by kernel_rfl) (by kernel_rfl) (by kernel_rfl) mS ?_;repeat' (first|(apply fq;(iterate 3 exact rfl);apply eK;exact rfl)|(apply rL (enc:=dm);(iterate 3 exact rfl);exact pK;rw [hck2,← hE2])|refine zZI ?_|refine sM fun _=>?_|(refine sC ?_ ?_<;>intro hb<;>try omega)|(refine sCW ?_ ?_<;>intro hb<;>try omega)|fail)
  all_goals exact bJ eIO rfl rfl (H' :=gB gg gm (E'.map En.m) kp.2++((.own A 123 11 t.length cap (t.flatMap bf):: .own A2 121 6 (eE t).length cap2 ((eE t).flatMap cP)::R)++F)) (by unfold gB;simp only [Re,QV,QW];exact mS) ⟨rfl,E',kp.2,_,rfl,mS,hG2⟩
theorem PO (gg gm clock:Nat) (E:List En) (G:Gr) (a:Rf) (b:ByteArray) (R:List Blk) (w0:World) (hG:GOk R E clock G) (hW:Words w0):
 FnIn Tryz.prog 15 [.pointer (some ⟨gg,0,none⟩),dm a,.string b] w0 (gB gg gm (E.map En.m) clock++R) fun v H=>v= .int .i64 (fN G a b).2∧ ∃ E' clock' R',H=gB gg gm (E'.map En.m) clock' ++R' ∧MSub R R' ∧GOk R' E' clock' (fN G a b).1:=by
 have h:=Bf gg gm clock E G a b R [] w0 hG hW;simp only [Rc] at h;exact h
end Go.SL
namespace Go.SL
open Go Go.Proofs
attribute [local irreducible] W WL WQ WG WA WX WLI WR WT WC VOp RW thn blk bH scp aV bz bP FnAt FnP ceP
theorem MSub.mid (A B C:List Blk):MSub (A++C) (A++(B++C)):=⟨B,by
 rw [Rx];exact List.Perm.append_left A RO⟩
theorem kK {f:FuncId} {args:List Value} {w0:World} {B H:List Blk} {φ:Value→Option Nat→Nat→Prop} {t sz n:Nat} {cs:List Value}
 (h: ∀ F,FnIn Tryz.prog f args w0 (B++F) fun v H' => ∃ A cap,φ v A cap∧H' = .own A t sz n cap cs::(B++F)) (hs:MSub B H):
 FnIn Tryz.prog f args w0 H fun v H' => ∃ A cap,φ v A cap∧H' = .own A t sz n cap cs::H:=by
 obtain ⟨F,hp⟩:=hs;refine ((h F).msub (MSub.of_perm hp)).re ?_;rintro v H' ⟨A,cap,hv,rfl⟩;exact ⟨_,MSub.of_perm (hp.symm.cons _),A,cap,hv,rfl⟩
section
variable {R:List Blk} {E:List En} {clock:Nat} {G:Gr} (h:GOk R E clock G) (gg gm:Nat) {H:List Blk} (hs:MSub (gB gg gm (E.map En.m) clock++R) H) (w0:World)
include h hs
theorem GOk.uses_any (c:Rf):FnIn Tryz.prog 59 [.pointer (some ⟨gg,0,none⟩),dm c] w0 H fun v H' => ∃ A cap,v=sl A (dF G c).length cap∧H' = .own A 121 6 (dF G c).length cap ((dF G c).flatMap cP)::H:=by
 refine kK (φ:=fun v A cap=>v=sl A (dF G c).length cap) (fun F=> ?_) hs;have h1:=Oe gg gm clock E c (R++F) w0 (fun e he=>(h.en e he).sub (MSub.appL R F));rw [h.uses] at h1;rw [Rx];exact h1
theorem GOk.tree_any (c:Rf):FnIn Tryz.prog 61 [.pointer (some ⟨gg,0,none⟩),dm c] w0 H fun v H' => ∃ A cap,v= .tuple #[sl A (gV G c).length cap,.bool (isG G c)]∧H' = .own A 123 11 (gV G c).length cap ((gV G c).flatMap bf)::H:=by
 refine kK (φ:=fun v A cap=>v= .tuple #[sl A (gV G c).length cap,.bool (isG G c)]) (fun F=> ?_) hs;have h1:=Oi gg gm clock E c (R++F) w0 (fun e he=>(h.en e he).sub (MSub.appL R F));rw [h.tree,h.is] at h1;rw [Rx];exact h1
variable (hl:G.length≤900)
include hl
theorem GOk.formulas_any:FnIn Tryz.prog 29 [.pointer (some ⟨gg,0,none⟩)] w0 H fun v H' => ∃ A cap,v=sl A (aA G).length cap∧H' = .own A 28 2 (aA G).length cap ((aA G).flatMap aB)::H:=by
 refine kK (φ:=fun v A cap=>v=sl A (aA G).length cap) (fun F=> ?_) hs;have h1:=uf gg gm clock (E.map En.m) h.ok (by rw [RA,h.len];omega) (R++F) w0;rw [h.forms,show (E.map En.m).length=(aA G).length by rw [RA,h.len,aA,RA]] at h1;rw [Rx];exact h1
theorem GOk.edges_any:FnIn Tryz.prog 55 [.pointer (some ⟨gg,0,none⟩)] w0 H fun v H' => ∃ A cap,v=sl A (bW G).length cap∧H' = .own A 114 4 (bW G).length cap ((bW G).flatMap cj)::H:=by
 refine kK (φ:=fun v A cap=>v=sl A (bW G).length cap) (fun F=> ?_) hs;have h1:=Mx gg gm clock E h.ok (by rw [h.len];omega) (R++F) w0 (fun e he=>(h.en e he).sub (MSub.appL R F));rw [h.edges] at h1;rw [Rx];exact h1
variable (hG:GrOk G)
include hG
end
end Go.SL
