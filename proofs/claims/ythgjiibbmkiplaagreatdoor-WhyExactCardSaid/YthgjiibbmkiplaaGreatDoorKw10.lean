/-
  Lemmas and walks, put together: Mp Pg Ia Pg2 Tb Tf.
-/
import Derived.Test.YthgjiibbmkiplaaGreatDoorKw09
set_option linter.unusedSimpArgs false
set_option linter.unusedVariables false
set_option maxRecDepth 20000
namespace Go.SL
open Go Go.RowKit
section
variable {κ:Type}
theorem Bi (f:κ→Value) (S:List κ):(mapM f S).map (fun e=>e.2.2)=List.range S.length:=by
 apply Yw;intro i;rw [XN,fQ,Zq];by_cases h:i<S.length
 ·rw [Xf h,Xf (by simpa using h)];simp
 ·rw [Yx (by omega),Yx (by simpa using h)];rfl
theorem Kx {f:κ→Value} {S:List κ} (h:S.Nodup):MapOk (mapM f S) S.length:=by
 refine ⟨by rw [Bi];exact List.nodup_range,fun e he=> ?_,by rw [uH];exact h⟩;have:e.2.2∈(mapM f S).map fun e=>e.2.2:=Xu.2 ⟨e,he,rfl⟩;rw [Bi] at this;exact ZN.1 this
variable [DecidableEq κ]
end
theorem vB: ∀ {l:List Int} {h v:Int},(∃ x∈l,x≤v)→v≤h→ ∃ p∈cC l h,p.1≤v∧v≤p.2
 | [],h,v,⟨x,hx,_⟩,_=>by cases hx
 | [a],h,v,⟨x,hx,h1⟩,h2=>by rw [Xl.1 hx] at h1;exact ⟨(a,h),Xl.2 rfl,h1,h2⟩
 |a::b::l,h,v,⟨x,hx,h1⟩,h2=>by
  by_cases hb: ∃ x∈b::l,x≤v
  ·obtain ⟨p,hp,h3⟩:=vB (h:=h) hb h2;exact ⟨p,Xp _ hp,h3⟩
  ·rcases Xt.1 hx with rfl|hx
   ·refine ⟨(x,b - 1),Xb,h1,?_⟩;have: ¬ b≤v:=fun e=>hb ⟨b,Xb,e⟩;simp only;omega
   ·exact absurd ⟨x,hx,h1⟩ hb
theorem lR {lo hi v:Int} {ps:List (Int × Int)} (h1:lo≤v) (h2:v≤hi): ∃ p∈cf lo hi ps,p.1≤v∧v≤p.2:=
 vB ⟨lo,iI.2 ⟨.inl rfl,Zb _,by omega⟩,h1⟩ h2
theorem BR {lo hi:Int} {ps:List (Int × Int)} {p q:Int × Int} (hp:p∈cf lo hi ps) (hq:q∈ps) (h1:q.1≤p.2) (h2:p.1≤q.2):q.1≤p.1∧p.2≤q.2:=by
 obtain ⟨k1,k2,k3,k4⟩:=qf (nL lo hi ps) (fun x hx=>(iI.1 hx).2.2) hp;have k5:=(iI.1 k1).2.1;constructor
 ·refine Int.not_lt.1 fun hlt=>k4 q.1 (iI.2 ⟨.inr ⟨q,hq,.inl rfl⟩,by omega,by omega⟩) ⟨hlt,h1⟩
 ·refine Int.not_lt.1 fun hlt=>k4 (q.2+1) (iI.2 ⟨.inr ⟨q,hq,.inr rfl⟩,by omega,by omega⟩) ⟨by omega,by omega⟩
open Go.Proofs
def dr (x:Cl):List Value:= [.int .i64 x.at_.col,.int .i64 x.at_.row,.int .i64 x.node]
theorem qy (x:Cl):(dr x).length=3:=rfl
theorem Ry (x y:BitVec 64):((x.toNat:Int)=(y.toNat:Int))=(x=y):=propext ⟨fun h=>ZX (by omega),fun h=>h ▸ rfl⟩
theorem Rx (x y:BitVec 64):(x.toNat=y.toNat)=(x=y):=propext ⟨fun h=>ZX h,fun h=>h ▸ rfl⟩
def V3 (a b:Rl):Bool:=eqR a.rect b.rect && (decide (a.read=b.read) && decide (a.write=b.write) && decide (a.own=b.own))
theorem V1 {a b:Rl}:V3 a b=true↔a=b:=by
 obtain ⟨a0,a1,a2,a3⟩:=a;obtain ⟨b0,b1,b2,b3⟩:=b;simp [V3,nK,xa,and_assoc]
def Ji (a b:Cl):Bool:=eqF a.at_ b.at_ && decide (a.node=b.node)
theorem GD {a b:Cl}:Ji a b=true↔a=b:=by
 obtain ⟨a0,a1⟩:=a;obtain ⟨b0,b1⟩:=b;simp [Ji,nK,xa,and_assoc]
instance iN11:DecidableEq Cl:=fun a b=>decidable_of_iff (Ji a b=true) GD
theorem GF (a b:Cl):Ji a b=decide (a=b):=by
 rw [XY,GD,decide_eq_true_iff]
theorem Ou (w:World) (d:Nat) (a b:Cl):(Op.equalIn (d+5) 98 (.agg (dr a).toArray) (.agg (dr b).toArray)).run Tryz.prog w= .ok (Ji a b) w:=by
 rw [run_equalIn_agg w (d+4) 98 _ _ (by rw [Program.fieldsOf,Tryz.underlying98]) Tryz.stoodInHeld98];simp only [Program.fieldsOf,Tryz.underlying98];have hq_F: ∀ w,(Op.equalIn (d+4) 34 (.agg #[.int .i64 a.at_.col,.int .i64 a.at_.row]) (.agg #[.int .i64 b.at_.col,.int .i64 b.at_.row])).run Tryz.prog w= .ok (eqF a.at_ b.at_) w:=fun w=>wV w (d+1) a.at_ b.at_;simp [Op.eqFields,dr,vS,part,go_sem,DE,JA,Ry,Rx,Ji,hq_F];by_cases h1:eqF a.at_ b.at_=true
 rotate_left
 ·simp [h1]
 by_cases h2:a.node=b.node
 rotate_left
 ·simp [h1,h2]
 simp [h1,h2]
section
variable {w0:World} {s:az} {H:List Blk} {ty t' :TypeId} {x y:Operand}
theorem J6 {a b:Cl} (hx:ev s x=some (.agg (dr a).toArray)) (hy:ev s y=some (.agg (dr b).toArray)):VOp Tryz.prog w0 s H (.binOp .neq 98 x y t') ty (.bool (!Ji a b)):=fun ρ w _ _ _ _ hρ _=>by
 have h:=Ou w 9995 a b;simp only [Nat.reduceAdd] at h;simp only [execOp,hρ x _ hx,hρ y _ hy,Sem.run_bind,run_eqGuard_agg w _ _ _ _ _ _ Tryz.eqGuardType98,Result.andThen_ok,run_neq_struct,h,Sem.run_pure]
end
theorem Jl (L:List Rl): ∀ u∈L.flatMap bQ,u.oneCell' =true:=fun u hu=>by
 obtain ⟨a,_,h⟩:=XL.1 hu;simp only [bQ,Xt,YQ,or_false] at h;rcases h with rfl|rfl|rfl|rfl|rfl|rfl|rfl<;>rfl
theorem Jn (L:List Ev): ∀ u∈L.flatMap fF,u.oneCell' =true:=fun u hu=>by
 obtain ⟨a,_,h⟩:=XL.1 hu;simp only [fF,Xt,YQ,or_false] at h;rcases h with rfl|rfl|rfl|rfl|rfl|rfl|rfl|rfl|rfl<;>rfl
theorem Jk (L:List Rv): ∀ u∈L.flatMap fE,u.oneCell' =true:=fun u hu=>by
 obtain ⟨a,_,h⟩:=XL.1 hu;simp only [fE,Xt,YQ,or_false] at h;rcases h with rfl|rfl|rfl|rfl|rfl|rfl|rfl|rfl|rfl|rfl|rfl<;>rfl
theorem aJ {r:Rct} {a:Rf}:aI r a=true↔r.c1≤a.col∧a.col≤r.c2∧r.r1≤a.row∧a.row≤r.r2:=by
 unfold aI;simp only [Xo,decide_eq_true_eq,and_assoc]
theorem mC (a b:Rct):(fP a b).c1=max a.c1 b.c1:=by unfold fP;simp only;split<;>omega
theorem mA (a b:Rct):(fP a b).r1=max a.r1 b.r1:=by unfold fP;simp only;split<;>omega
theorem mB (a b:Rct):(fP a b).c2=min a.c2 b.c2:=by unfold fP;simp only;split<;>omega
theorem mz (a b:Rct):(fP a b).r2=min a.r2 b.r2:=by unfold fP;simp only;split<;>omega
theorem Bh {a b:Rct} (ha:aA a=true) (hb:aA b=true) {x:Rf} (h1:aI a x=true) (h2:aI b x=true):bZ a b=(fP a b,true):=by
 unfold bZ;rw [if_pos];simp only [Zv,aac,ha,hb,X8,XT];rw [aV] at*;rw [aJ] at h1 h2;rw [mC,mA,mB,mz];omega
theorem Rct.ext' {a b:Rct} (h1:a.c1=b.c1) (h2:a.r1=b.r1) (h3:a.c2=b.c2) (h4:a.r2=b.r2):a=b:=by
 cases a;cases b;simp only at*;subst h1 h2 h3 h4;rfl
theorem I7 {c R:Rct} (hc:aA c=true) (hR:aA R=true):j9 c R=true↔R.c1≤c.c1∧c.c2≤R.c2∧R.r1≤c.r1∧c.r2≤R.r2:=by
 have hc' :=aV.1 hc;constructor
 ·intro h;unfold j9 at h;rw [Xo,decide_eq_true_eq] at h;obtain ⟨h1,h2⟩:=h;unfold bZ at h1 h2;split at h1
  ·rename_i hall;rw [if_pos hall] at h2;have e1:=congrArg Rct.c1 h2;have e2:=congrArg Rct.r1 h2;have e3:=congrArg Rct.c2 h2;have e4:=congrArg Rct.r2 h2;simp only [mC,mA,mB,mz] at e1 e2 e3 e4;omega
  ·cases h1
 ·intro h;have h1:aI c ⟨c.c1,c.r1⟩=true:=aJ.2 (by simp only;omega);have h2:aI R ⟨c.c1,c.r1⟩=true:=aJ.2 (by simp only;omega);unfold j9;rw [Bh hc hR h1 h2,Xo,decide_eq_true_eq];exact ⟨rfl,Rct.ext' (by rw [mC];omega) (by rw [mA];omega) (by rw [mB];omega) (by rw [mz];omega)⟩
theorem CellOf.ok {r:Rct} {A B:List Rl} {y x:Int × Int} (h:CellOf r A B y x) (hr:aA r=true):aA (fc y x)=true:=by
 have h1:=dc h.row;have h2:=dc h.col;rw [aV] at*;simp only [fc];omega
theorem CellOf.inside {r:Rct} {A B:List Rl} {y x:Int × Int} (h:CellOf r A B y x) (hr:aA r=true) {a:Rf} (ha:aI (fc y x) a=true) {R:Rl} (hm:R∈A∨R∈B) (hR:aA R.rect=true):j9 (fc y x) R.rect=aI R.rect a:=by
 have h1:=dc h.row;have h2:=dc h.col;have ha' :=aJ.1 ha;simp only [fc] at ha';rw [XY,I7 (h.ok hr) hR,aJ];simp only [fc];constructor
 ·intro h3;omega
 ·intro h3;have har:aI r a=true:=aJ.2 (by omega);have haR:aI R.rect a=true:=aJ.2 h3;have hmt:=Bh hR hr haR har;have hcol:((fP R.rect r).c1,(fP R.rect r).c2)∈aW r A++aW r B:=by
   rw [Xr];rcases hm with hm|hm
   ·exact .inl (XL.2 ⟨R,hm,by rw [hmt];simp⟩)
   ·exact .inr (XL.2 ⟨R,hm,by rw [hmt];simp⟩)
  have hrow:((fP R.rect r).r1,(fP R.rect r).r2)∈bf r A++bf r B:=by
   rw [Xr];rcases hm with hm|hm
   ·exact .inl (XL.2 ⟨R,hm,by rw [hmt];simp⟩)
   ·exact .inr (XL.2 ⟨R,hm,by rw [hmt];simp⟩)
  have k1:=BR h.col hcol (by simp only [mC];omega) (by simp only [mB];omega);have k2:=BR h.row hrow (by simp only [mA];omega) (by simp only [mz];omega);simp only [mC,mB,mA,mz] at k1 k2;omega
theorem xD {c:Rct} {a:Rf} {L:List Rl} (h: ∀ R∈L,j9 c R.rect=aI R.rect a): ∀ n,n≤L.length→oz c L n=vK a L n
 |0,_=>rfl
 |n+1,hn=>by
  have hlt:n<L.length:=by omega
  rw [oz,vK,Xf hlt,xD h n (by omega)];simp only [Ys,Ze];have e:=h _ (XO hlt);simp only [e]
theorem CellOf.which {r:Rct} {A B:List Rl} {y x:Int × Int} (h:CellOf r A B y x) (hr:aA r=true) (hA: ∀ R∈A,aA R.rect=true) {a:Rf} (ha:aI (fc y x) a=true):(jo A B y x).a=iK A a:=
 xD (fun R hR=>h.inside hr ha (.inl hR) (hA R hR)) _ (Xy _)
theorem Qf {l:List (BitVec 64)} {i:Nat} (hi:i<64):(rX l).getLsbD i=true↔ ∀ x∈l,x.getLsbD i=true:=by
 have h: ∀ (l:List (BitVec 64)) (s:BitVec 64),(l.foldl (· &&& ·) s).getLsbD i=true↔s.getLsbD i=true∧ ∀ x∈l,x.getLsbD i=true:=by
  intro l
  induction l with
  |nil=>intro s;simp
  |cons a l ih=>
   intro s;rw [YV,ih,aad,Xo];simp only [Xt,forall_eq_or_imp,and_assoc]
 unfold rX;rw [h,BitVec.getLsbD_allOnes];simp [hi]
theorem OM {f:Rl→BitVec 64} {r:Rct} {L:List Rl} (hr:aA r=true) (hL: ∀ R∈L,aA R.rect=true) {i:Nat} (hi:i<64):
 (yq f r L).getLsbD i=true↔ ∀ a,aI r a=true→((L[iK L a]?.map f).getD 0#64).getLsbD i=true:=by
 unfold yq;rw [Qf hi];have hm:(∀ x∈(bW r L []).map (fun p=>(L[p.a]?.map f).getD 0#64),x.getLsbD i=true)↔ ∀ k∈(bW r L []).map (·.a),((L[k]?.map f).getD 0#64).getLsbD i=true:=by
  simp only [Xu,forall_exists_index,and_imp,forall_apply_eq_imp_iff₂]
 rw [hm];constructor
 ·intro h a ha;have ha' :=aJ.1 ha;obtain ⟨y,hy,hy1,hy2⟩:=lR (lo:=r.r1) (hi:=r.r2) (ps:=bf r L++bf r []) (v:=a.row) (by omega) (by omega);obtain ⟨x,hx,hx1,hx2⟩:=lR (lo:=r.c1) (hi:=r.c2) (ps:=aW r L++aW r []) (v:=a.col) (by omega) (by omega);have hc:CellOf r L [] y x:=⟨hy,hx⟩;have hag:aI (fc y x) a=true:=aJ.2 (by simp only [fc];omega);have:=h _ (wX.2 ⟨y,x,hc,rfl⟩);rwa [hc.which hr hL hag] at this
 ·intro h k hk;obtain ⟨y,x,hc,rfl⟩:=wX.1 hk;have hok:=aV.1 (hc.ok hr);have h1:=dc hc.row;have h2:=dc hc.col;simp only [fc] at hok;have hag:aI (fc y x) ⟨x.1,y.1⟩=true:=aJ.2 (by simp only [fc];omega);rw [hc.which hr hL hag];exact h ⟨x.1,y.1⟩ (aJ.2 (by simp only;omega))
theorem kB: ∀ (l:List Int) (h:Int),(cC l h).length=l.length
 | [],_=>rfl
 | [_],_=>rfl
 |a::b::l,h=>by
  show ((a,b - 1)::cC (b::l) h).length=_;rw [Xs,kB (b::l) h];rfl
theorem Bb: ∀ (l:List Int) (h:Int) (i:Nat) (hi:i<l.length) (hj:i<(cC l h).length),(cC l h)[i].1=l[i]
 | [],_,i,hi,_=>absurd hi (YY _)
 | [a],_,i,hi,_=>by
  have e:i=0:=by simpa using hi
  subst e;rfl
 |a::b::l,h,0,_,_=>rfl
 |a::b::l,h,i+1,hi,hj=>by
  have h1:i<(b::l).length:=by simpa using hi
  exact Bb (b::l) h i h1 (by rw [kB];exact h1)
theorem rG: ∀ (l:List Int) (h:Int) (i:Nat) (hi:i+1<(cC l h).length),(cC l h)[i].2+1=(cC l h)[i+1].1
 | [],_,i,hi=>absurd hi (YY _)
 | [a],_,i,hi=>absurd hi (by rw [kB];simp)
 |a::b::l,h,0,hi=>by
  have h0:0<(b::l).length:=Nat.zero_lt_succ _;have h1:=Bb (b::l) h 0 h0 (by rw [kB];exact h0);have h2:(cC (a::b::l) h)[0+1]=(cC (b::l) h)[0]'(by rw [kB];exact h0):=rfl;rw [h2,h1];show (b - 1)+1=b;omega
 |a::b::l,h,i+1,hi=>rG (b::l) h i (by rw [kB] at hi ⊢;simpa using hi)
structure RowI (A B:List Rl) (y:Int × Int) (xs:List (Int × Int)) (Z:List Pz):Prop where
 row: ∀ p∈Z,p.rect.r1=y.1∧p.rect.r2=y.2
 ord: ∀ p∈Z,p.rect.c1≤p.rect.c2
 cov: ∀ x∈xs,∀ c,x.1≤c→c≤x.2→ ∃ p∈Z,p.rect.c1≤c∧c≤p.rect.c2∧p.a=(jo A B y x).a
 of_: ∀ p∈Z,∀ c,p.rect.c1≤c→c≤p.rect.c2→ ∃ x∈xs,x.1≤c∧c≤x.2∧p.a=(jo A B y x).a
 last: ∀ x,xs.getLast? =some x→ ∃ q,Z.getLast? =some q∧q.rect.c2=x.2
 nil:xs= []→Z= []
theorem RowI.snoc {A B:List Rl} {y:Int × Int} {xs:List (Int × Int)} {Z:List Pz} (h:RowI A B y xs Z) {x:Int × Int} (hx:x.1≤x.2) (hc: ∀ z,xs.getLast? =some z→z.2+1=x.1):RowI A B y (xs++ [x]) (jf Z (jo A B y x)):=by
 have hnil:xs++ [x]= []→jf Z (jo A B y x)= []:=fun e=>by simp at e
 have hlast: ∀ z,(xs++ [x]).getLast? =some z→z=x:=fun z hz=>by
  rw [Zp] at hz;simpa using hz.symm
 unfold jf
 cases hz:Z.getLast? with
 |none=>
  have hZ:=Zw.1 hz;subst hZ;have hxs:xs= []:=by
   rcases List.eq_nil_or_concat xs with e|⟨l,a,e⟩
   ·exact e
   ·obtain ⟨q,h1,_⟩:=h.last a (by rw [e];simp);cases h1
  subst hxs;refine ⟨fun p hp=> ?_,fun p hp=> ?_,fun z hz c h1 h2=> ?_,fun p hp c h1 h2=> ?_,fun z hz=> ?_,hnil⟩
  ·rw [Xl.1 hp];exact ⟨rfl,rfl⟩
  ·rw [Xl.1 hp];exact hx
  ·have e:z=x:=by simpa using hz
   subst e;exact ⟨_,Xl.2 rfl,h1,h2,rfl⟩
  ·have e:=Xl.1 hp;subst e;exact ⟨x,by simp,h1,h2,rfl⟩
  ·rw [hlast z hz];exact ⟨_,rfl,rfl⟩
 |some q=>
  have hne:Z≠ []:=fun e=>by rw [e] at hz;cases hz
  have hq:Z.getLast hne=q:=by rw [YH hne] at hz;exact Option.some.inj hz
  have he:=YJ hne;rw [hq] at he;have hxne:xs≠ []:=fun e=>hne (h.nil e);obtain ⟨q',h1,h2⟩:=h.last (xs.getLast hxne) (YH hxne);rw [hz] at h1;cases h1;have h3:=hc _ (YH hxne);have hqm:q∈Z:=by rw [← he];simp
  have hqo:=h.ord q hqm;dsimp only;split
  ·rename_i hs;have hsub: ∀ p∈Z,p∈Z.dropLast∨p=q:=fun p hp=>by
    rw [← he] at hp;rcases Xr.1 hp with hp|hp
    ·exact .inl hp
    ·exact .inr (Xl.1 hp)
   have hdl: ∀ p∈Z.dropLast,p∈Z:=fun p hp=>by rw [← he];exact Xw _ hp
   have hpa:(jo A B y x).rect.c2=x.2:=rfl;refine ⟨fun p hp=> ?_,fun p hp=> ?_,fun z hz c h4 h5=> ?_,fun p hp c h4 h5=> ?_,fun z hz=> ?_,fun e=>by simp at e⟩
   ·rcases Xr.1 hp with hp|hp
    ·exact h.row p (hdl p hp)
    ·rw [Xl.1 hp];exact h.row q hqm
   ·rcases Xr.1 hp with hp|hp
    ·exact h.ord p (hdl p hp)
    ·rw [Xl.1 hp];simp only [hpa];omega
   ·rcases Xr.1 hz with hz|hz
    ·obtain ⟨p,hp,h6,h7,h8⟩:=h.cov z hz c h4 h5;rcases hsub p hp with hp|rfl
     ·exact ⟨p,Xw _ hp,h6,h7,h8⟩
     ·exact ⟨_,XB _ (Xl.2 rfl),h6,by simp only [hpa];omega,h8⟩
    ·have e:=Xl.1 hz;subst e;exact ⟨_,XB _ (Xl.2 rfl),by simp only;omega,by simp only [hpa];omega,hs.1⟩
   ·rcases Xr.1 hp with hp|hp
    ·obtain ⟨z,hz,h6⟩:=h.of_ p (hdl p hp) c h4 h5;exact ⟨z,Xw _ hz,h6⟩
    ·have e:=Xl.1 hp;subst e;simp only [hpa] at h4 h5;by_cases hcq:c≤q.rect.c2
     ·obtain ⟨z,hz,h6⟩:=h.of_ q hqm c h4 hcq;exact ⟨z,Xw _ hz,h6⟩
     ·exact ⟨x,XB _ (Xl.2 rfl),by omega,h5,hs.1⟩
   ·rw [hlast z hz];exact ⟨_,by rw [Zp];rfl,rfl⟩
  ·refine ⟨fun p hp=> ?_,fun p hp=> ?_,fun z hz c h4 h5=> ?_,fun p hp c h4 h5=> ?_,fun z hz=> ?_,fun e=>by simp at e⟩
   ·rcases Xr.1 hp with hp|hp
    ·exact h.row p hp
    ·rw [Xl.1 hp];exact ⟨rfl,rfl⟩
   ·rcases Xr.1 hp with hp|hp
    ·exact h.ord p hp
    ·rw [Xl.1 hp];exact hx
   ·rcases Xr.1 hz with hz|hz
    ·obtain ⟨p,hp,h6⟩:=h.cov z hz c h4 h5;exact ⟨p,Xw _ hp,h6⟩
    ·have e:=Xl.1 hz;subst e;exact ⟨_,XB _ (Xl.2 rfl),h4,h5,rfl⟩
   ·rcases Xr.1 hp with hp|hp
    ·obtain ⟨z,hz,h6⟩:=h.of_ p hp c h4 h5;exact ⟨z,Xw _ hz,h6⟩
    ·have e:=Xl.1 hp;subst e;exact ⟨x,XB _ (Xl.2 rfl),h4,h5,rfl⟩
   ·rw [hlast z hz];exact ⟨_,by rw [Zp];rfl,rfl⟩
theorem Oz {A B:List Rl} {y:Int × Int} (xs:List (Int × Int)):(∀ x∈xs,x.1≤x.2)→(∀ i (hi:i+1<xs.length),xs[i].2+1=xs[i+1].1)→RowI A B y xs (jZ A B y xs):=by
 induction xs using dh with
 |h0=>exact fun _ _=>⟨fun _ h=>(by cases h),fun _ h=>(by cases h),fun _ h=>(by cases h),fun _ h=>(by cases h),fun _ h=>(by cases h),fun _=>rfl⟩
 |h1 xs x ih=>
  intro h1 h2;rw [kz];have hi:=ih (fun z hz=>h1 z (Xw _ hz)) fun i hi=>by
   have h3:=h2 i (by rw [Xa];omega);rwa [ZQ (by omega),ZQ (by omega)] at h3
  refine hi.snoc (h1 x (XB _ (Xl.2 rfl))) fun z hz=> ?_;have hne:xs≠ []:=fun e=>by rw [e] at hz;cases hz
  have hl:0<xs.length:=Yr.2 hne;have h3:=h2 (xs.length - 1) (by rw [Xa,Xe];omega);rw [ZQ (by omega),List.getElem_append_right (by omega)] at h3;rw [YH hne,List.getLast_eq_getElem] at hz;have e:=Option.some.inj hz;rw [e] at h3;simpa using h3
theorem s6 {r:Rct} {L:List Rl} (hr:aA r=true) (hL: ∀ R∈L,aA R.rect=true) {p:Pz} (hp:p∈bW r L []):aA p.rect=true∧ ∀ a,aI p.rect a=true→aI r a=true∧p.a=iK L a:=by
 unfold bW at hp;obtain ⟨y,hy,hp⟩:=XL.1 hp;have hx:=Oz (A:=L) (B:= []) (y:=y) (cf r.c1 r.c2 (aW r L++aW r [])) (fun x hx=>(dc hx).2.1) fun i hi=>rG _ _ i hi;have hrow:=hx.row p hp;have hy' :=dc hy;have hro:=aV.1 hr;have hall: ∀ a,aI p.rect a=true→aI r a=true∧p.a=iK L a:=fun a ha=>by
  have ha' :=aJ.1 ha;obtain ⟨x,hxm,h1,h2,h3⟩:=hx.of_ p hp a.col ha'.1 ha'.2.1;have hxb:=dc hxm;have hc:CellOf r L [] y x:=⟨hy,hxm⟩;have hag:aI (fc y x) a=true:=aJ.2 (by simp only [fc];omega);exact ⟨aJ.2 (by omega),h3.trans (hc.which hr hL hag)⟩
 refine ⟨?_,hall⟩;have ho:=hx.ord p hp;have k1:=aJ.1 (hall ⟨p.rect.c1,p.rect.r1⟩ (aJ.2 (by simp only;omega))).1;have k2:=aJ.1 (hall ⟨p.rect.c2,p.rect.r2⟩ (aJ.2 (by simp only;omega))).1;simp only at k1 k2;exact aV.2 (by omega)
theorem LW {r:Rct} {L:List Rl} (hr:aA r=true) (hL: ∀ R∈L,aA R.rect=true) {a:Rf} (ha:aI r a=true): ∃ p∈bW r L [],aI p.rect a=true:=by
 have ha' :=aJ.1 ha;obtain ⟨y,hy,hy1,hy2⟩:=lR (lo:=r.r1) (hi:=r.r2) (ps:=bf r L++bf r []) (v:=a.row) (by omega) (by omega);obtain ⟨x,hx,hx1,hx2⟩:=lR (lo:=r.c1) (hi:=r.c2) (ps:=aW r L++aW r []) (v:=a.col) (by omega) (by omega);have hx' :=Oz (A:=L) (B:= []) (y:=y) (cf r.c1 r.c2 (aW r L++aW r [])) (fun x hx=>(dc hx).2.1) fun i hi=>rG _ _ i hi;obtain ⟨p,hp,h1,h2,_⟩:=hx'.cov x hx a.col hx1 hx2;have hrow:=hx'.row p hp;exact ⟨p,XL.2 ⟨y,hy,hp⟩,aJ.2 (by omega)⟩
abbrev Rn:=Int × Int
structure RunOk (S:Int→Prop) (R:List Rn):Prop where
 ord: ∀ x∈R,x.1≤x.2
 gap:R.Pairwise fun x y=>x.2+1<y.1
 mem: ∀ c,(∃ x∈R,x.1≤c∧c≤x.2)↔S c
theorem RunOk.congr {S T:Int→Prop} {R:List Rn} (h:RunOk S R) (e: ∀ c,S c↔T c):RunOk T R:=⟨h.ord,h.gap,fun c=>(h.mem c).trans (e c)⟩
theorem RunOk.tail {S:Int→Prop} {x:Rn} {R:List Rn} (h:RunOk S (x::R)):RunOk (fun c=>S c∧x.2<c) R:=by
 have hg:=XG.1 h.gap;refine ⟨fun y hy=>h.ord y (Xp _ hy),hg.2,fun c=> ?_⟩;constructor
 ·rintro ⟨y,hy,h1,h2⟩;refine ⟨(h.mem c).1 ⟨y,Xp _ hy,h1,h2⟩,?_⟩;have:=hg.1 y hy;omega
 ·rintro ⟨h1,h2⟩;obtain ⟨y,hy,h3,h4⟩:=(h.mem c).2 h1;rcases Xt.1 hy with rfl|hy
  ·omega
  ·exact ⟨y,hy,h3,h4⟩
theorem RunOk.head {S:Int→Prop} {x:Rn} {R:List Rn} (h:RunOk S (x::R)):S x.1∧(∀ c,S c→x.1≤c)∧ ¬ S (x.2+1)∧ ∀ c,x.1≤c→c≤x.2→S c:=by
 have hg:=XG.1 h.gap;have ho:=h.ord x Xb;have hall: ∀ c,x.1≤c→c≤x.2→S c:=fun c h1 h2=>(h.mem c).1 ⟨x,Xb,h1,h2⟩;refine ⟨hall _ (Zb _) ho,fun c hc=> ?_,fun hc=> ?_,hall⟩
 ·obtain ⟨y,hy,h3,h4⟩:=(h.mem c).2 hc;rcases Xt.1 hy with rfl|hy
  ·exact h3
  ·have:=hg.1 y hy;omega
 ·obtain ⟨y,hy,h3,h4⟩:=(h.mem _).2 hc;rcases Xt.1 hy with rfl|hy
  ·omega
  ·have:=hg.1 y hy;omega
theorem RunOk.unique: ∀ {R Q:List Rn} {S:Int→Prop},RunOk S R→RunOk S Q→R=Q
 | [],[],_,_,_=>rfl
 | [],y::Q,S,h,k=>by
  obtain ⟨z,hz,_⟩:=(h.mem _).2 k.head.1;cases hz
 |x::R,[],S,h,k=>by
  obtain ⟨z,hz,_⟩:=(k.mem _).2 h.head.1;cases hz
 |x::R,y::Q,S,h,k=>by
  obtain ⟨h1,h2,h3,h4⟩:=h.head;obtain ⟨k1,k2,k3,k4⟩:=k.head;have e1:x.1=y.1:=by have:=h2 _ k1;have:=k2 _ h1;omega
  have e2:x.2=y.2:=by
   have ho:=h.ord x Xb;have ko:=k.ord y Xb;rcases Int.lt_trichotomy x.2 y.2 with e|e|e
   ·exact absurd (k4 (x.2+1) (by omega) (by omega)) h3
   ·exact e
   ·exact absurd (h4 (y.2+1) (by omega) (by omega)) k3
  have e:x=y:=Prod.ext e1 e2;subst e;rw [RunOk.unique h.tail k.tail]
def IW (out:List Rn) (x:Rn):List Rn:=match out.getLast? with
 |none=> [x]
 |some q=>if x.1≤q.2+1 then out.dropLast++ [(q.1,max q.2 x.2)] else out++ [x]
def gS (xs:List Rn):List Rn:=xs.foldl IW []
theorem nB (xs:List Rn) (x:Rn):gS (xs++ [x])=IW (gS xs) x:=by unfold gS;rw [YG];rfl
theorem kW {α:Type} {l:List α} {q:α} (h:l.getLast? =some q):l.dropLast++ [q]=l:=by
 have hne:l≠ []:=fun e=>by rw [e] at h;cases h
 have e:=YJ hne;rwa [show l.getLast hne=q from by rw [YH hne] at h;exact Option.some.inj h] at e
theorem Om (xs:List Rn):(∀ x∈xs,x.1≤x.2)→xs.Pairwise (fun x y=>x.1≤y.1)→RunOk (fun c=> ∃ x∈xs,x.1≤c∧c≤x.2) (gS xs)∧ ∀ q,(gS xs).getLast? =some q→ ∃ x∈xs,q.1≤x.1:=by
 induction xs using dh with
 |h0=>exact fun _ _=>⟨⟨fun _ h=>(by cases h),List.Pairwise.nil,fun c=>⟨fun h=>(by obtain ⟨_,h,_⟩:=h;cases h),fun h=>(by obtain ⟨_,h,_⟩:=h;cases h)⟩⟩,fun _ h=>(by cases h)⟩
 |h1 xs x ih=>
  intro ho hp;rw [Yh] at hp;obtain ⟨ih1,ih2⟩:=ih (fun z hz=>ho z (Xw _ hz)) hp.1;have hx:=ho x (XB _ Xb);have hle: ∀ z∈xs,z.1≤x.1:=fun z hz=>hp.2.2 z hz x Xb;rw [nB];unfold IW
  cases hq:(gS xs).getLast? with
  |none=>
   have hn:=Zw.1 hq;have hno: ∀ c,¬ ∃ z∈xs,z.1≤c∧c≤z.2:=fun c hc=>by
    obtain ⟨z,hz,_⟩:=(ih1.mem c).2 hc;rw [hn] at hz;cases hz
   refine ⟨⟨fun z hz=> ?_,Yv _ _,fun c=> ?_⟩,fun q h=> ?_⟩
   ·rw [Xl.1 hz];exact hx
   ·constructor
    ·rintro ⟨z,hz,h1⟩;rw [Xl.1 hz] at h1;exact ⟨x,XB _ Xb,h1⟩
    ·rintro ⟨z,hz,h1⟩;rcases Xr.1 hz with hz|hz
     ·exact absurd ⟨z,hz,h1⟩ (hno c)
     ·rw [Xl.1 hz] at h1;exact ⟨x,Xb,h1⟩
   ·cases h;exact ⟨x,XB _ Xb,Zb _⟩
  |some q=>
   have hs:=kW hq;obtain ⟨z0,hz0,hq0⟩:=ih2 q hq;have hq1:q.1≤x.1:=Int.le_trans hq0 (hle z0 hz0);generalize (gS xs).dropLast=D at hs;rw [← hs] at ih1;have hg:=Yh.1 ih1.gap;have hqo:=ih1.ord q (XB _ Xb);dsimp only;split
   ·rename_i hlt;refine ⟨⟨fun z hz=> ?_,?_,fun c=> ?_⟩,fun q' h=> ?_⟩
    ·rcases Xr.1 hz with hz|hz
     ·exact ih1.ord z (Xw _ hz)
     ·rw [Xl.1 hz];simp only;omega
    ·rw [Yh];refine ⟨hg.1,Yv _ _,fun a ha b hb=> ?_⟩;rw [Xl.1 hb];exact hg.2.2 a ha q Xb
    ·constructor
     ·rintro ⟨z,hz,h1,h2⟩;rcases Xr.1 hz with hz|hz
      ·obtain ⟨y,hy,h3⟩:=(ih1.mem c).1 ⟨z,Xw _ hz,h1,h2⟩;exact ⟨y,Xw _ hy,h3⟩
      ·rw [Xl.1 hz] at h1 h2;simp only at h1 h2;by_cases hc:c≤q.2
       ·obtain ⟨y,hy,h3⟩:=(ih1.mem c).1 ⟨q,XB _ Xb,h1,hc⟩;exact ⟨y,Xw _ hy,h3⟩
       ·exact ⟨x,XB _ Xb,by omega,by omega⟩
     ·rintro ⟨y,hy,h1,h2⟩;rcases Xr.1 hy with hy|hy
      ·obtain ⟨z,hz,h3,h4⟩:=(ih1.mem c).2 ⟨y,hy,h1,h2⟩;rcases Xr.1 hz with hz|hz
       ·exact ⟨z,Xw _ hz,h3,h4⟩
       ·rw [Xl.1 hz] at h3 h4;exact ⟨_,XB _ Xb,h3,by simp only;omega⟩
      ·rw [Xl.1 hy] at h1 h2;exact ⟨_,XB _ Xb,by simp only;omega,by simp only;omega⟩
    ·rw [Zp] at h;have e:(q.1,max q.2 x.2)=q' :=by simpa using h
     rw [← e];exact ⟨x,XB _ Xb,hq1⟩
   ·rename_i hlt;rw [← hs];refine ⟨⟨fun z hz=> ?_,?_,fun c=> ?_⟩,fun q' h=> ?_⟩
    ·rcases Xr.1 hz with hz|hz
     ·exact ih1.ord z hz
     ·rw [Xl.1 hz];exact hx
    ·rw [Yh];refine ⟨ih1.gap,Yv _ _,fun a ha b hb=> ?_⟩;rw [Xl.1 hb];rcases Xr.1 ha with ha|ha
     ·have:=hg.2.2 a ha q Xb;omega
     ·rw [Xl.1 ha];omega
    ·constructor
     ·rintro ⟨z,hz,h1⟩;rcases Xr.1 hz with hz|hz
      ·obtain ⟨y,hy,h3⟩:=(ih1.mem c).1 ⟨z,hz,h1⟩;exact ⟨y,Xw _ hy,h3⟩
      ·rw [Xl.1 hz] at h1;exact ⟨x,XB _ Xb,h1⟩
     ·rintro ⟨y,hy,h1⟩;rcases Xr.1 hy with hy|hy
      ·obtain ⟨z,hz,h3⟩:=(ih1.mem c).2 ⟨y,hy,h1⟩;exact ⟨z,Xw _ hz,h3⟩
      ·rw [Xl.1 hy] at h1;exact ⟨x,XB _ Xb,h1⟩
    ·rw [Zp] at h;have e:x=q' :=by simpa using h
     rw [← e];exact ⟨x,XB _ Xb,Zb _⟩
def iM (l:List Rct) (row:Int):List Rn:=(l.filter fun r=>decide (r.r1≤row) && decide (row≤r.r2)).map fun r=>(r.c1,r.c2)
def Bm (x:Rn):List Rn→List Rn
 | []=> [x]
 |y::l=>if x.1≤y.1 then x::y::l else y::Bm x l
def Iy (l:List Rn):List Rn:=l.foldr Bm []
theorem rN (x:Rn): ∀ l:List Rn,(Bm x l).Perm (x::l)
 | []=> .refl _
 |y::l=>by
  rw [Bm];split
  ·exact .refl _
  ·exact ((rN x l).cons y).trans (.swap x y l)
theorem tF (x:Rn): ∀ {l:List Rn},l.Pairwise (fun a b=>a.1≤b.1)→(Bm x l).Pairwise fun a b=>a.1≤b.1
 | [],_=>Yv _ _
 |y::l,h=>by
  have hy:=XG.1 h;rw [Bm];split
  ·rename_i hle;refine XG.2 ⟨fun z hz=> ?_,h⟩;rcases Xt.1 hz with rfl|hz
   ·exact hle
   ·exact Int.le_trans hle (hy.1 z hz)
  ·rename_i hle;refine XG.2 ⟨fun z hz=> ?_,tF x hy.2⟩;rcases Xt.1 ((rN x l).mem_iff.1 hz) with rfl|hz
   ·omega
   ·exact hy.1 z hz
theorem vh: ∀ l:List Rn,(Iy l).Perm l
 | []=> .refl _
 |x::l=>(rN x _).trans ((vh l).cons x)
theorem qH: ∀ l:List Rn,(Iy l).Pairwise fun a b=>a.1≤b.1
 | []=>List.Pairwise.nil
 |x::l=>tF x (qH l)
def lC (l:List Rct) (row:Int):List Rn:=gS (Iy (iM l row))
def yJ (l:List Rct) (row c:Int):Prop:= ∃ p∈l,aI p ⟨c,row⟩=true
theorem P1 {l:List Rct} {row c:Int}:(∃ x∈iM l row,x.1≤c∧c≤x.2)↔yJ l row c:=by
 unfold iM yJ;constructor
 ·rintro ⟨x,hx,h1⟩;obtain ⟨p,hp,rfl⟩:=Xu.1 hx;obtain ⟨hp,h2⟩:=XM.1 hp;rw [Xo,decide_eq_true_eq,decide_eq_true_eq] at h2;exact ⟨p,hp,aJ.2 ⟨h1.1,h1.2,h2.1,h2.2⟩⟩
 ·rintro ⟨p,hp,h1⟩;obtain ⟨h2,h3,h4,h5⟩:=aJ.1 h1;simp only at h2 h3 h4 h5;exact ⟨_,Xu.2 ⟨p,XM.2 ⟨hp,by rw [Xo,decide_eq_true_eq,decide_eq_true_eq];exact ⟨h4,h5⟩⟩,rfl⟩,h2,h3⟩
theorem Fg {l:List Rct} (hl: ∀ p∈l,p.c1≤p.c2) {row:Int} {xs:List Rn} (hp:xs.Perm (iM l row)) (hs:xs.Pairwise fun x y=>x.1≤y.1):RunOk (yJ l row) (gS xs):=by
 refine (Om xs (fun x hx=> ?_) hs).1.congr fun c=> ?_
 ·obtain ⟨p,hq,rfl⟩:=Xu.1 (hp.mem_iff.1 hx);exact hl p (XM.1 hq).1
 ·rw [← P1];constructor
  ·rintro ⟨x,hx,h⟩;exact ⟨x,hp.mem_iff.1 hx,h⟩
  ·rintro ⟨x,hx,h⟩;exact ⟨x,hp.mem_iff.2 hx,h⟩
theorem xc {l:List Rct} (hl: ∀ p∈l,p.c1≤p.c2) (row:Int):RunOk (yJ l row) (lC l row):=Fg hl (vh _) (qH _)
theorem Sz {l:List Rct} (hl: ∀ p∈l,p.c1≤p.c2) {row:Int} {xs:List Rn} (hp:xs.Perm (iM l row)) (hs:xs.Pairwise fun x y=>x.1≤y.1):gS xs=lC l row:=(Fg hl hp hs).unique (xc hl row)
theorem LK (xs:List Rn):(gS xs).length≤xs.length:=by
 induction xs using dh with
 |h0=>exact Xy _
 |h1 xs x ih=>
  rw [nB];unfold IW
  cases hq:(gS xs).getLast? with
  |none=>simp
  |some q=>
   have hs:=kW hq;have hs2:=congrArg List.length hs;rw [Xa,Xe] at hs2;dsimp only;split
   ·simp only [Xa,Xe];omega
   ·simp only [Xa,Xe];omega
def Ki (y:Int) (r:Rct):Rct:=⟨r.c1,r.r1,r.c2,y⟩
def dK (s t:Int) (x:Rn):Rct:=⟨x.1,s,x.2,t⟩
structure Swp where
 out:List Rct
 first:Nat
 band:List Rn
def fq (st:Swp) (y:Int):List Rct:=st.out.take st.first++(st.out.drop st.first).map (Ki (y - 1))
def l8 (l:List Rct) (st:Swp) (row:Int):Swp:=if lC l row=st.band then st else ⟨fq st row++(lC l row).map (dK row row),st.out.length,lC l row⟩
def dJ (l:List Rct):List Int:=fS (iD (l.flatMap fun p=> [p.r1,p.r2+1]))
def nn (l:List Rct):List Rct:=((dJ l).foldl (l8 l) ⟨[],0,[]⟩).out
theorem nN (st:Swp) (y:Int):(fq st y).length=st.out.length:=by
 unfold fq;rw [Xa,Xq,XA,Ya];omega
theorem Bf {l:List Rct} {y:Int}:y∈dJ l↔ ∃ p∈l,y=p.r1∨y=p.r2+1:=by
 unfold dJ;rw [mq,(fN _).mem_iff,XL];simp only [Xt,YQ,or_false]
theorem sL (l:List Rct):(dJ l).Pairwise (· < ·):=pH (nu _)
end Go.SL
