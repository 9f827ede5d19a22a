/-
  Lemmas and walks, put together: Zh Zk Ze.
-/
import Derived.Test.YtpoafcnhplbkmaaGreatDoorKs22
set_option linter.unusedSimpArgs false
set_option linter.unusedVariables false
set_option maxRecDepth 20000
set_option maxHeartbeats 16000000
namespace Go.SL
open Go
theorem Ci {L:List Nat} {i j:Nat} (hi:i<L.length) (hj:j<L.length):atN (swapN L i j)=l5 (atN L) i j:=funext (vM hi hj)
theorem Ef {L M:List Nat} {i:Nat} (h:i<L.length):atN (L++M) i=atN L i:=by
 unfold atN;rw [RC h]
theorem Eg {L:List Nat} {x:Nat}:atN (L++ [x]) L.length=x:=by
 unfold atN;rw [RM (Rg _)];simp
theorem Kv {h:List Nat} {x:Nat} (H:HpF (atN h) h.length):UpH (atN (h++ [x])) (h.length+1) h.length:=H.push fun i hi=>Ef hi
def dx (X:Nx) (i m k:Nat):List Nat:=((List.range i).flatMap fun j=>((au X j).filter fun u=>decide (u=k)).map fun _=>j)++(((au X i).take m).filter fun u=>decide (u=k)).map fun _=>i
def bV (X:Nx) (i m:Nat):Nx:=(List.range X.length).map (dx X i m)
theorem oZ (X:Nx) (i m:Nat):(bV X i m).length=X.length:=by simp [bV]
theorem rl {X:Nx} {i m k:Nat} (h:k<X.length):au (bV X i m) k=dx X i m k:=by
 unfold au bV;rw [Rj,RT h];rfl
theorem qo (X:Nx):bV X 0 0=qZ X.length:=by
 unfold bV qZ;apply Sz;intro k;by_cases h:k<X.length
 ·rw [Rj,RT h,TE,if_pos h];simp [dx]
 ·rw [Ry (by simp;omega),Ry (by simp;omega)]
theorem wY {X:Nx} {i m k:Nat} (h:m<(au X i).length):dx X i (m+1) k=if atN (au X i) m=k then dx X i m k++ [i] else dx X i m k:=by
 unfold dx;rw [Ra h,TL,Sh,← Rx,dN h];by_cases e:(au X i)[m]=k
 ·simp [e]
 ·simp [e]
theorem wZ {X:Nx} {i m k:Nat} (h:m<(au X i).length) (hk:atN (au X i) m=k):bV X i (m+1)=(bV X i m).set k (dx X i m k++ [i]):=by
 apply Sz;intro j;by_cases hj:j<X.length
 ·unfold bV;rw [Rj,RT hj,Uc];simp only [Sq];by_cases e:k=j
  ·subst e;rw [if_pos rfl,if_pos (by simpa using hj),wY h,if_pos hk]
  ·rw [if_neg e,Rj,RT hj,wY h,if_neg (fun e2=>e (hk.symm.trans e2))]
   rfl
 ·rw [Ry (by rw [oZ];omega),Ry (by rw [Su,oZ];omega)]
theorem w5 (X:Nx) (i:Nat):bV X i (au X i).length=bV X (i+1) 0:=by
 unfold bV;refine Sx fun k _=> ?_;unfold dx;rw [RS,SK,Tx,Rp];simp
theorem nF (X:Nx):bV X X.length 0=iV X:=by
 unfold bV iV;refine Sx fun k _=> ?_;unfold dx dP;simp
theorem oY {X:Nx} {B:Nat} (hB: ∀ j,(au X j).length≤B) (i m k:Nat):(dx X i m k).length≤(i+1)*B:=by
 have h1: ∀ n:Nat,((List.range n).flatMap fun j=>((au X j).filter fun u=>decide (u=k)).map fun _=>j).length≤n*B:=fun n=>by
  induction n with
  |zero=>simp
  |succ n ih=>
   rw [Tx,Rp,QT,Tt,RA,Tg,TT];have:=RD (SR (fun u=>decide (u=k)) (au X n)) (hB n);omega
 have h2:((((au X i).take m).filter fun u=>decide (u=k)).map fun _=>i).length≤B:=by
  rw [RA];refine RD (SR _ _) (RD ?_ (hB i));rw [RI];omega
 have h3:=h1 i;unfold dx;rw [QT,Tg,TT];omega
def jT (X:Nx) (i:Nat):List Nat:=(List.range X.length).map fun j=>if j<i then (au X j).length else 0
def lR (X:Nx) (i:Nat):List Nat:=(List.range i).filter fun j=>decide ((au X j).length=0)
theorem mB (X:Nx) (i:Nat):(jT X i).length=X.length:=by simp [jT]
theorem FV (X:Nx):jT X 0=List.replicate X.length 0:=by
 unfold jT;apply Sz;intro k;by_cases h:k<X.length
 ·rw [Rj,RT h,TE,if_pos h];rfl
 ·rw [Ry (by simp;omega),Ry (by simp;omega)]
theorem FW {X:Nx} {i:Nat}:(jT X i).set i (au X i).length=jT X (i+1):=by
 apply Sz;intro j;by_cases hj:j<X.length
 ·rw [Uc];unfold jT;rw [Rj,Rj,RT hj];by_cases e:i=j
  ·subst e;rw [if_pos rfl,if_pos (by simpa using hj)];simp
  ·rw [if_neg e];simp only [Sq];by_cases h1:j<i
   ·rw [if_pos h1,if_pos (by omega)]
   ·rw [if_neg h1,if_neg (by omega)]
 ·rw [Ry (by rw [Su,mB];omega),Ry (by rw [mB];omega)]
theorem CP (X:Nx) (i:Nat):lR X (i+1)=if (au X i).length=0 then lR X i++ [i] else lR X i:=by
 unfold lR;rw [gA];simp only [decide_eq_true_eq]
theorem LN {X:Nx} {h:List Nat} (hp:h.Perm (lR X X.length)):HpI X [] h (jT X X.length):={
 dn:=TY
 dl i hi:=by cases hi
 dc i hi:=by cases hi
 ll:=mB _ _
 lv i hi:=by
  unfold jT;rw [Rj,RT hi,List.countP_eq_length.2 (fun k _=>by simp)];simp [hi]
 hn:=hp.nodup_iff.2 (List.Pairwise.filter _ UE)
 hm m:=by
  rw [hp.mem_iff];unfold lR;rw [ST,RH,eV,decide_eq_true_eq];refine and_congr_right fun _=>⟨fun h=>⟨by simp,fun k hk=> ?_⟩,fun h=> ?_⟩
  ·rw [TD.1 h] at hk;cases hk
  ·rcases hs:au X m with _|⟨a,l⟩
   ·rfl
   ·have:=h.2 a (by rw [hs];exact QY);cases this }
def lc (n:Nat) (M:Nat→Bool):Nat:=(List.range n).countP M
theorem o7 (n:Nat) (M:Nat→Bool):lc n M≤n:=by
 have:=List.countP_le_length (p:=M) (l:=List.range n);rwa [Sg] at this
theorem zq {n:Nat} {M:Nat→Bool} {u:Nat} (hu:u<n) (h:M u=false):lc n (fun x=>if x=u then true else M x)=lc n M+1:=by
 unfold lc
 induction n with
 |zero=>omega
 |succ n ih=>
  rw [Tx,List.countP_append,List.countP_append,U1,U1];by_cases e:u=n
  ·subst e;have h2:(List.range u).countP (fun x=>if x=u then true else M x)=(List.range u).countP M:=List.countP_congr fun x hx=>by
    have:=RH.1 hx;simp [show x≠u by omega]
   rw [h2];simp [h]
  ·rw [ih (by omega)];have: ¬ n=u:=fun e2=>e e2.symm;simp only [this,if_false];omega
def jS (l:List Nat) (x:Nat):Bool:=decide (x∈l)
theorem FP {n:Nat} {l:List Nat} {j:Nat} (h:j<l.length):aF n (fun x=>if x=atN l j then true else jS (l.take j) x)=aF n (jS (l.take (j+1))):=aP fun x _=>by
 unfold jS;rw [Ra h,dN h];by_cases e:x=l[j]
 ·subst e;rw [if_pos rfl,decide_eq_true (Sj _ (Rd.2 rfl))]
 ·rw [if_neg e,decide_eq_decide,Rz,Rd];exact ⟨.inl,fun hh=>hh.resolve_right e⟩
theorem D0 {n:Nat} {l:List Nat} (hn:l.Nodup) (hl: ∀ x∈l,x<n):lc n (jS l)=l.length:=by
 unfold lc jS;rw [List.countP_eq_length_filter];refine List.Perm.length_eq ((List.perm_ext_iff_of_nodup (List.Pairwise.filter _ UE) hn).2 fun x=> ?_);rw [ST,RH,decide_eq_true_eq];exact ⟨fun h=>h.2,fun h=>⟨hl x h,h⟩⟩
end Go.SL
namespace Go.SL
open Go Go.Proofs Go.RowKit
attribute [local irreducible] W WL WQ WG WA WX WLI WR WT WC WE VOp RW thn blk bH scp aV bz bP FnAt FnIn FnP ceP
instance klaw_Z:KLaw Tryz.prog 3 (fun z:Int=>Value.int .i64 z):=Dv
def zK (l:List Nat):List Int:=l.map fun i:Nat=>(i:Int)
theorem zE (l:List Nat):(zK l).length=l.length:=by simp [zK]
theorem Bp {l:List Nat} (h:l.Nodup):(zK l).Nodup:=by
 unfold zK;rw [List.Nodup,Uy];exact h.imp fun hab e=>hab (Int.ofNat.inj e)
theorem De (K:List Rf) (hn:K.Nodup) (hlen:K.length≤1000000) (tv:Value) (w:World) (ht:Reads w tv K.length (K.flatMap aB)):
 FnAt Tryz.prog 77 [tv] w fun v H=> ∃ g,v= .map (some g)∧H= [.obj g (dw dm (ia K) K.length)]:=by
 obtain ⟨Al,cl,rfl,hl1,hl2,hl3⟩:=ht;refine ay Tryz.func77 rfl Tryz.ntmps77 rfl ?_;repeat' (first|(apply mQ (enc:=dm);exact rfl;intro gm)|refine zZB ?_|refine sM fun _=>?_|(refine sC ?_ ?_<;>intro hb<;>try omega)|fail)
 refine aw [3,7,8] rfl (fun i:Nat=> [(9,.int .i64 (i:Int))]) (fun i=> [.obj gm (dw dm (ia (K.take i)) i)]) (fun i=>i≤K.length) (fun i=>K.length - i) 0 (QZ _) sB mS ?_;rintro i hi;by_cases hlt:i<K.length
 ·obtain ⟨gl,ol,rfl,hrl⟩:=hl3 (by omega);have he:=hrl.elem eW i hlt;have hput:nC K[i] (.int .i64 (i:Int)) i (ia (K.take i))=(ia (K.take (i+1)),i+1):=by
   have h1:=He (K:=K.take i) (a:=K[i]) (fun hm=>by
    obtain ⟨j,hj,e⟩:=SM.1 hm;rw [RI] at hj;rw [Ub] at e;have:=(UG hn).1 e;omega)
   rw [RI,Tm (by omega),← Ra hlt] at h1;exact h1
  generalize K[i]=a at he hput;repeat' (first|(apply ai (d:=12);exact rfl;apply ag (j:=i);exact rfl;exact rfl;exact hlt)|(apply rL (enc:=dm) (k:=a);(iterate 3 exact rfl);exact pK;rw [hput])|refine sT ?_|refine sS ?_|refine sN ?_|refine sO ?_|refine sM fun _=>?_|(refine sC ?_ ?_<;>intro hb<;>try omega)|fail)
  all_goals first
   |(exfalso;omega)
   |(refine ⟨i+1,hlt,by omega,by exact sB,by exact sB,by exact mS⟩;done)
 ·have e:i=K.length:=by omega
  subst e;rw [RS];repeat' (first|refine zZA ?_|refine sM fun _=>?_|(refine sC ?_ ?_<;>intro hb<;>try omega)|fail)
  all_goals first
   |(exfalso;omega)
   |(exact bJ eIO rfl rfl (MSub.refl _) ⟨gm,rfl,rfl⟩)
theorem Dd (l:List Nat) (hn:l.Nodup) (hlen:l.length≤1000000) (tv:Value) (w:World) (ht:Reads w tv l.length (nzC l)):
 FnAt Tryz.prog 37 [tv] w fun v H=> ∃ g,v= .map (some g)∧H= [.obj g (dw (fun z:Int=>Value.int .i64 z) (ia (zK l)) l.length)]:=by
 obtain ⟨Al,cl,rfl,hl1,hl2,hl3⟩:=ht;refine ay Tryz.func37 rfl Tryz.ntmps37 rfl ?_;repeat' (first|(apply mQ (enc:=fun z:Int=>Value.int .i64 z);exact rfl;intro gm)|refine zZB ?_|refine sM fun _=>?_|(refine sC ?_ ?_<;>intro hb<;>try omega)|fail)
 refine aw [3,7,8] rfl (fun i:Nat=> [(9,.int .i64 (i:Int))]) (fun i=> [.obj gm (dw (fun z:Int=>Value.int .i64 z) (ia ((zK l).take i)) i)]) (fun i=>i≤l.length) (fun i=>l.length - i) 0 (QZ _) sB mS ?_;rintro i hi;by_cases hlt:i<l.length
 ·obtain ⟨gl,ol,rfl,hrl⟩:=hl3 (by omega);have he:=hrl.natN i hlt;have hz:i<(zK l).length:=by rw [zE];exact hlt
  have hget:(zK l)[i]=((atN l i:Nat):Int):=by rw [dN hlt];simp [zK]
  have hput:nC ((atN l i:Nat):Int) (.int .i64 (i:Int)) i (ia ((zK l).take i))=(ia ((zK l).take (i+1)),i+1):=by
   have h1:=He (K:=(zK l).take i) (a:=(zK l)[i]) (fun hm=>by
    obtain ⟨j,hj,e⟩:=SM.1 hm;rw [RI] at hj;rw [Ub] at e;have:=(UG (Bp hn)).1 e;omega)
   rw [RI,Tm (by omega),← Ra hz,hget] at h1;exact h1
  generalize atN l i=a at he hput;repeat' (first|(apply ai (d:=12);exact rfl;apply ag (j:=i);exact rfl;exact rfl;exact hlt)|(apply rL (enc:=fun z:Int=>Value.int .i64 z) (k:=(a:Int));(iterate 3 exact rfl);exact pK;rw [hput])|refine sT ?_|refine sS ?_|refine sN ?_|refine sO ?_|refine sM fun _=>?_|(refine sC ?_ ?_<;>intro hb<;>try omega)|fail)
  all_goals first
   |(exfalso;omega)
   |(refine ⟨i+1,hlt,by omega,by exact sB,by exact sB,by exact mS⟩;done)
 ·have e:i=l.length:=by omega
  subst e;have htl:(zK l).take l.length=zK l:=by rw [← zE,RS]
  rw [htl];repeat' (first|refine zZA ?_|refine sM fun _=>?_|(refine sC ?_ ?_<;>intro hb<;>try omega)|fail)
  all_goals first
   |(exfalso;omega)
   |(exact bJ eIO rfl rfl (MSub.refl _) ⟨gm,rfl,rfl⟩)
theorem JM (K:List Rf) (l:List Nat) (hl: ∀ i∈l,i<K.length) (hlen:l.length≤1000000) (cv mv xv lv:Value) (w:World) (hc:Reads w cv K.length (K.flatMap aB)) (ht:Reads w lv l.length (nzC l)):
 FnAt Tryz.prog 35 [.agg #[cv,mv,xv],lv] w fun v H=> ∃ A c,v=sl A (dD K l).length c∧H= [.own A 28 2 (dD K l).length c ((dD K l).flatMap aB)]:=by
 obtain ⟨Ac,cc,rfl,hc1,hc2,hc3⟩:=hc;obtain ⟨Al,cl,rfl,hl1,hl2,hl3⟩:=ht;refine ay Tryz.func35 rfl Tryz.ntmps35 rfl ?_;refine aI 28 2 ?_;repeat' (first|refine zZB ?_|refine sM fun _=>?_|(refine sC ?_ ?_<;>intro hb<;>try omega)|fail)
 rename_i g2;refine aw [2,8,9] rfl (fun y:Nat × Option Nat × Nat=> [(5,sl y.2.1 y.1 y.2.2),(10,.int .i64 (y.1:Int))]) (fun y=> .own y.2.1 28 2 y.1 y.2.2 ((dD K (l.take y.1)).flatMap aB):: [.box g2 66 [.slice Ac K.length cc,mv,xv]]) (fun y=>y.1≤l.length) (fun y=>l.length - y.1) (0,none,0) (QZ _) sB mS ?_;rintro ⟨i,A3,c3⟩ hi;dsimp only at hi ⊢;by_cases hlt:i<l.length
 ·obtain ⟨gl,ol,rfl,hrl⟩:=hl3 (by omega);have he:=hrl.natN i hlt;have hk:=hl _ (db hlt);have hst:dD K (l.take (i+1))=dD K (l.take i)++ [pq K (atN l i)]:=by rw [Ra hlt,kw,dN hlt]
  obtain ⟨gc,oc,rfl,hrc⟩:=hc3 (by omega);have hel:=hrc.elem eW (atN l i) hk;rw [← od hk] at hel;generalize atN l i=k at he hk hst hel;generalize pq K k=a at hst hel;repeat' (first|(apply ai (d:=12);exact rfl;apply ag (j:=i);exact rfl;exact rfl;exact hlt)|(apply ai (d:=13);exact rfl;apply bp;exact rfl;exact he)|(apply ai (d:=18);exact rfl;apply ag (j:=k);exact rfl;exact rfl;exact hk)|(apply ai (d:=19);exact rfl;apply bO;exact rfl;exact hel;exact rfl)|(apply aD;(iterate 3 exact rfl);exact pK;exact pK;exact rfl;(simp [aB,Value.oneCell']);omega;(simp only [maxLen];omega);intro g8 c8)|refine zZA ?_|refine sM fun _=>?_|(refine sC ?_ ?_<;>intro hb<;>try omega)|fail)
  all_goals first
   |(exfalso;omega)
   | (refine ⟨(i + 1, some g8, c8), hlt, by dsimp only; omega, by exact sB, by exact sB, ?_⟩
      dsimp only;rw [hst,Rp,Tt];exact mS)
 ·have e:i=l.length:=by omega
  subst e;rw [RS];have hnl:=oC K l;repeat' (first|refine zZA ?_|refine sM fun _=>?_|(refine sC ?_ ?_<;>intro hb<;>try omega)|fail)
  all_goals first
   |(exfalso;omega)
   |(exact bJ (H' := [.own A3 28 2 (dD K l).length c3 ((dD K l).flatMap aB)]) eIO rfl rfl (by rw [hnl];exact mS) ⟨A3,c3,by rw [hnl],rfl⟩)
end Go.SL
namespace Go.SL
open Go
def dq (G:Gr) (i:Nat):Bool:=aQ G G.length i i||(List.range G.length).any fun k=>aQ G G.length i k && aQ G G.length k k
def lpC (G:Gr):List Nat:=(List.range G.length).filter fun i=>aQ G G.length i i
def ccC (G:Gr):List Nat:=(List.range G.length).filter (dq G)
def frC (G:Gr):List Nat:=(List.range G.length).filter fun i=> !dq G i
def iM (G:Gr) (l:List Nat):List Nat:=yH (aQ G G.length) G.length l.length (iG l [])
def Pk (G:Gr):List Nat:=iM G (frC G)
def iz (G:Gr):List Rf:=dD (aA G) (lpC G)
def jH (G:Gr):List Rf:=dD (aA G) (ccC G)
def mf (G:Gr):List Rf:=dD (aA G) (Pk G)
theorem Mf {G:Gr} {i:Nat}:dq G i=true↔eX (aM G) i:=Eb
theorem ND (G:Gr):Lz (aM G)=lpC G:=by
 unfold Lz lpC;rw [cH];exact US fun i _=>Od.symm
theorem Hu (G:Gr):w6 (aM G)=frC G:=by
 unfold w6 frC;rw [cH];exact US fun i _=>by rw [show dq G i=rE (aM G) i from zA]
theorem Hw (G:Gr):(frC G).Pairwise (· < ·):=si _ _
theorem uO {G:Gr} {i:Nat}:i∈frC G↔i<G.length∧ ¬ eX (aM G) i:=by
 rw [← Hu,mH,cH]
theorem PJ {G:Gr} {i k:Nat} (hi:i∈frC G) (hk:k∈au (aM G) i):k∈frC G:=by
 rw [uO] at hi ⊢;have:=qU i k hk;rw [cH] at this;exact ⟨this,Dg hi.2 hk⟩
theorem ww (G:Gr):SubN (aQ G G.length) G.length (frC G) (cF (aM G) (frC G)):=by
 have h:=FI (G:=G);rwa [Hu] at h
theorem Ns (G:Gr):(cI (cF (aM G) (frC G))).map (fun p=>((frC G)[p]?).getD 0)=Pk G:=(ww G).topo.1
theorem y8 (l:List Nat) (i:Nat):iG l [] i=decide (i∈l):=by
 rw [Sc,iF,decide_eq_true_eq];constructor
 ·rintro ⟨p,h,rfl,_⟩;exact RL h
 ·intro h;obtain ⟨p,hp,rfl⟩:=SM.1 h;exact ⟨p,hp,rfl,TK⟩
structure SomeOk (G:Gr) (l:List Nat):Prop where
 asc:l.Pairwise (· < ·)
 lt: ∀ i∈l,i<G.length
 free: ∀ i∈l,¬ eX (aM G) i
theorem PK (G:Gr):SomeOk G (frC G):=⟨Hw G,fun _ h=>(uO.1 h).1,fun _ h=>(uO.1 h).2⟩
theorem SomeOk.sub {G:Gr} {l:List Nat} (h:SomeOk G l):SubN (aQ G G.length) G.length l (bX (aQ G G.length) l):=JU (fun _ _=>fG) h.asc h.lt h.free
theorem SomeOk.eq {G:Gr} {l:List Nat} (h:SomeOk G l):(cI (bX (aQ G G.length) l)).map (fun p=>(l[p]?).getD 0)=iM G l:=h.sub.topo.1
theorem SomeOk.topo_len {G:Gr} {l:List Nat} (h:SomeOk G l):(cI (bX (aQ G G.length) l)).length=l.length:=by
 rw [h.sub.topo.2.length_eq,Sg]
theorem SomeOk.sort_len {G:Gr} {l:List Nat} (h:SomeOk G l):(iM G l).length=l.length:=by
 rw [← h.eq,RA,h.topo_len]
theorem SomeOk.nodup {G:Gr} {l:List Nat} (h:SomeOk G l):l.Nodup:=h.asc.imp fun hab e=>by rw [e] at hab;exact SS _ hab
theorem SomeOk.steps {G:Gr} {l:List Nat} (h:SomeOk G l): ∃ lf:Nat→Nat→Bool,lf 0=iG l []∧ ∀ t,t<l.length→tJ (aQ G G.length) G.length (lf t)=some (atN (iM G l) t)∧lf (t+1)=fun j=>if j=atN (iM G l) t then false else lf t j:=by
 refine ⟨fun t=>iG l ((cI (bX (aQ G G.length) l)).take t),by simp,fun t ht=> ?_⟩;have htl:t<(cI (bX (aQ G G.length) l)).length:=by rw [h.topo_len];exact ht
 obtain ⟨hp,hpk⟩:=h.sub.pick_at htl;have ha:atN (iM G l) t=l[(cI (bX (aQ G G.length) l))[t]]:=by
  unfold atN;rw [← h.eq,Rj,QU htl];simp [hp]
 rw [ha];refine ⟨hpk,?_⟩;show iG l ((cI (bX (aQ G G.length) l)).take (t+1))=_;rw [Ra htl];exact (h.sub.left hp).symm
theorem SomeOk.count {G:Gr} {l:List Nat} (h:SomeOk G l):lc G.length (iG l [])=l.length:=by
 rw [show iG l []=jS l from funext fun i=>y8 l i];exact D0 h.nodup h.lt
theorem LP {G:Gr} {i:Nat} (h:i<G.length):iG (frC G) [] i= !dq G i:=by
 rw [y8];unfold frC;rw [Sc,decide_eq_true_eq,ST,RH];exact ⟨fun h=>h.2,fun h2=>⟨h,h2⟩⟩
def s8 (K:List Rf) (circ:Nat→Bool):List Rf→List Nat→List Nat × Int
 | [],S=>(S,0)
 |a::L,S=>if a.valid=false then (S,3) else if a∉K then (S,6) else if circ (iA K a)=true then (S,13) else if iA K a∈S then (S,8) else s8 K circ L (S++ [iA K a])
def mJ (G:Gr) (L:List Rf):Int:=(s8 (aA G) (dq G) L []).2
def uD (G:Gr) (L:List Rf):List Rf:=if mJ G L=0 then dD (aA G) (iM G (gX (s8 (aA G) (dq G) L []).1)) else []
structure AmgI (G:Gr) (S:List Nat):Prop where
 nd:S.Nodup
 lt: ∀ i∈S,i<G.length
 free: ∀ i∈S,¬ eX (aM G) i
theorem AmgI.nil (G:Gr):AmgI G []:=⟨TY,fun _ h=>(by cases h),fun _ h=>(by cases h)⟩
theorem AmgI.snoc {G:Gr} {S:List Nat} (h:AmgI G S) {i:Nat} (hi:i<G.length) (hc:dq G i=false) (hn:i∉S):AmgI G (S++ [i]):=by
 refine ⟨?_,fun j hj=> ?_,fun j hj=> ?_⟩
 ·rw [TS];exact ⟨h.nd,by simp,fun a ha b hb e=>hn (by rw [Rd.1 hb] at e;exact e ▸ ha)⟩
 ·rcases Rz.1 hj with hj|hj
  ·exact h.lt j hj
  ·rw [Rd.1 hj];exact hi
 ·rcases Rz.1 hj with hj|hj
  ·exact h.free j hj
  ·rw [Rd.1 hj,← Mf,hc];simp
theorem AmgI.len {G:Gr} {S:List Nat} (h:AmgI G S):S.length≤G.length:=by
 have h1:=dR S (List.range G.length) h.nd fun x hx=>RH.2 (h.lt x hx);rwa [Sg] at h1
theorem AmgI.ok {G:Gr} {S:List Nat} (h:AmgI G S):SomeOk G (gX S):=by
 have hp:=fU S;refine ⟨?_,fun i hi=>h.lt i (hp.mem_iff.1 hi),fun i hi=>h.free i (hp.mem_iff.1 hi)⟩;exact (UB.2 ⟨oS S,hp.nodup_iff.2 h.nd⟩).imp fun ⟨h4,h5⟩=>UL h4 h5
theorem ri {K:List Rf} (hn:K.Nodup) {a:Rf} (h:a∈K): ∃ hi:iA K a<K.length,K[iA K a]=a:=by
 obtain ⟨i,hi,rfl⟩:=SM.1 h;have e:=Hs hn hi;exact ⟨by rw [e];exact hi,by simp only [e]⟩
theorem dE (G:Gr):(aA G).length=G.length:=by simp [aA]
end Go.SL
