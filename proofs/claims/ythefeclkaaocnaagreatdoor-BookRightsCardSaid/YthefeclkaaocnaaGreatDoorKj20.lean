/-
  Lemmas and walks, put together: R7 R8 R9.
-/
import Derived.Test.YthefeclkaaocnaaGreatDoorKj19
set_option linter.unusedSimpArgs false
set_option linter.unusedVariables false
set_option maxRecDepth 20000
namespace Go.SL
open Go Go.Proofs
attribute [local irreducible] W WL WQ WG WA WX WLI WR WT WC VOp RW thn blk bG scp bg bi bT aQ FnIn FnP ceP
def TokR (i:Nat) (o:Option (Tk × Nat)) (v:Value):Prop:=match o with
 |some (t,n)=>v= .tuple #[.agg (aY { t with at_:=(i:Int) }).toArray,.int .i64 ((i+n:Nat):Int),.bool true]
 |none=> ∃ (t:Tk) (e:Int),v= .tuple #[.agg (aY t).toArray,.int .i64 e,.bool false]
theorem gQ {p:Int→Bool} {a:ByteArray} {i:Nat} (h:i<a.size):aB p ((ap a).drop i)=if p (bat a i) then aB p ((ap a).drop (i+1))+1 else 0:=by
 rw [aZ h,aB]
theorem zt {p:Int→Bool} {l:List Int} {n:Nat} (h:n=aB p l) {c:Int} (hc:c∈l.take n):p c=true:=by
 obtain ⟨k,hk,rfl⟩:=PG hc
 rw [NZ] at hk
 rw [Qt]
 exact jP l k _ (by omega) (NE (by omega))
set_option maxHeartbeats 4000000 in
theorem xP (a:ByteArray) (ha:a.size≤256) (i:Nat) (hi:i<a.size) (hdi:aC (bat a i)=true) (w:World):
    aQ Tryz.prog 318 [.string a,.int .i64 (i:Int)] w fun v H=>H= []∧TokR i ((kq ((ap a).drop i)).map fun x=>(⟨1,x.1,au,aM,0⟩,x.2)) v:=by
  refine aq Tryz.func318 rfl Tryz.ntmps318 rfl ?_
  have hl:=av a
  have hm:cF=9223372036854775807:=rfl
  obtain ⟨W1,hW1⟩: ∃ W1,aB aC ((ap a).drop i)=W1:=⟨_,rfl⟩
  have hw0:W1≠0:=by rw [← hW1,gQ hi,if_pos hdi];omega
  have hwl:i+W1≤a.size:=by
    have:=bR aC ((ap a).drop i)
    rw [NP] at this
    omega
  obtain ⟨p,hp⟩: ∃ p,bS ((ap a).drop (i+W1))=p:=⟨_,rfl⟩
  have hnum:kq ((ap a).drop i)=if 4<p then none else if cF<bk (((ap a).drop i).take W1++((ap a).drop (i+W1+1)).take p++List.replicate (4 - p) 48) 0 then none else some (bk (((ap a).drop i).take W1++((ap a).drop (i+W1+1)).take p++List.replicate (4 - p) 48) 0,if p=0 then W1 else W1+1+p):=by
    unfold kq
    simp only [hW1,O0,hp]
    by_cases h4:4<p
    · rw [if_pos (.inr h4),if_pos h4]
    · rw [if_neg (by omega),if_neg h4]
      rfl
  rw [hnum]
  clear hnum
  have hD:=fun j w=>mX a (by omega) j w
  repeat' (first|refine sT ?_|refine sS ?_|refine sT2 ?_|refine sM fun _=> ?_|(refine sC ?_ ?_<;>intro hb<;>try omega)|exact cT|fail)
  rename_i g4 g7
  refine ay [0,1,4,7] rfl (fun j:Nat=> [(8,.int .i64 ((i+j:Nat):Int))]) (fun _=> [.box g7 295 (aY ⟨1,0,au,aM,i⟩),.box g4 295 (aY cY)]) (fun j=>j≤W1∧W1=j+aB aC ((ap a).drop (i+j))) (fun j=>W1 - j) 0 ⟨by omega,by rw [PB,hW1];omega⟩ sB mS ?_
  rintro j ⟨hj,hx⟩
  by_cases hjw:j<W1
  · have hji:i+j<a.size:=by omega
    have hdj:aC (bat a (i+j))=true:=by
      rw [gQ hji] at hx
      split at hx
      · assumption
      · omega
    have hx2:W1=(j+1)+aB aC ((ap a).drop (i+(j+1))):=by
      rw [gQ hji,if_pos hdj] at hx
      rw [← Pr i j 1];omega
    have hDj:=fun w=>hD (i+j) w
    rw [hdj] at hDj
    repeat' (first|(apply aa (f:=317);exact rfl;exact rfl;(intro w' hm;exact hDj w'))|refine sT ?_|refine sS ?_|refine sT2 ?_|refine sN ?_|refine sM fun _=> ?_|(refine sC ?_ ?_<;>intro hb<;>try omega)|exact cT|fail)
    exact ⟨j+1,⟨hjw,hx2⟩,by omega,sB,sB,.refl _⟩
  have ejw:j=W1:=by omega
  subst ejw
  have hdj:aC (bat a (i+j))=false:=by
    by_cases hji:i+j<a.size
    · rw [gQ hji] at hx
      split at hx
      · omega
      · rename_i h;simpa using h
    · rw [iU (by omega)];rfl
  have hDj:=fun w=>hD (i+j) w
  rw [hdj] at hDj
  have hDk:=fun w=>hD (i+j+1) w
  have hp1:i+j<a.size→bat a (i+j)=46→p=aB aC ((ap a).drop (i+j+1)):=fun h1 h2=>by
    rw [← hp,aZ h1,h2];rfl
  have hp2:(i+j<a.size→bat a (i+j)≠46)→p=0:=fun h=>by
    rw [← hp]
    by_cases h1:i+j<a.size
    · rw [aZ h1];exact lZ (h h1)
    · rw [N0 (by omega)];rfl
  have hp0:aC (bat a (i+j+1))=false→aB aC ((ap a).drop (i+j+1))=0:=fun h=>by
    by_cases h1:i+j+1<a.size
    · rw [gQ h1,if_neg (by rw [h];simp)]
    · exact pS (by omega)
  have hpl:p≠0→i+j+1+p≤a.size:=fun h=>by
    by_cases h1:i+j<a.size∧bat a (i+j)=46
    · have:=hp1 h1.1 h1.2
      have h2:=bR aC ((ap a).drop (i+j+1))
      rw [NP] at h2
      omega
    · exact absurd (hp2 fun h3 h4=>h1 ⟨h3,h4⟩) h
  obtain ⟨E,hE⟩: ∃ E,(if p=0 then j else j+1+p)=E:=⟨_,rfl⟩
  repeat' (first|(apply aa (d:=20);exact rfl;exact rfl;(intro w' hm;exact hDj w'))|(apply ak (d:=26);exact rfl;apply fD (lo:=i) (hi:=i+j);(iterate 3 exact rfl);exact ⟨by omega,by omega⟩)|(refine xz (id:=6) (ι:=ByteArray) (fun pl=> [(0,.string a),(1,.int .i64 (i:Int)),(4,.pointer (some ⟨g4,0,none⟩)),(7,.pointer (some ⟨g7,0,none⟩)),(8,.int .i64 ((i+E:Nat):Int)),(9,.string (sub a i (i+j))),(10,.string pl)]) (fun _=> [.box g7 295 (aY ⟨1,0,au,aM,i⟩),.box g4 295 (aY cY)]) (fun pl=>ap pl=((ap a).drop (i+j+1)).take p) ?_ ?_)|(apply ak (d:=34);exact rfl;apply aV (j:=i+j);exact rfl;exact rfl;omega)|(apply aa (d:=41);exact rfl;exact rfl;(intro w' hm;exact hDk w'))|refine sT ?_|refine sS ?_|refine sT2 ?_|refine sN ?_|refine sM fun _=> ?_|(refine sC ?_ ?_<;>intro hb<;>try omega)|exact cT|fail)
  · -- the places
    have hdd:aC (bat a (i+j+1))=true:=by assumption
    have e46:bat a (i+j)=46:=by assumption
    have hpp:=hp1 (by omega) e46
    have hp0' :p≠0:=by
      rw [hpp]
      by_cases h1:i+j+1<a.size
      · rw [gQ h1,if_pos hdd];omega
      · rw [iU (by omega)] at hdd;simp [aC] at hdd
    rw [if_neg hp0'] at hE
    subst hE
    refine ay [0,1,4,7,9,10,11] rfl (fun k:Nat=> [(8,.int .i64 ((i+j+1+k:Nat):Int))]) (fun _=> [.box g7 295 (aY ⟨1,0,au,aM,i⟩),.box g4 295 (aY cY)]) (fun k=>k≤p∧p=k+aB aC ((ap a).drop (i+j+1+k))) (fun k=>p - k) 0 ⟨by omega,by rw [PB,N7];exact hpp⟩ sB mS ?_
    rintro k ⟨hk,hkx⟩
    have hpl' :=hpl hp0'
    by_cases hkp:k<p
    · have hki:i+j+1+k<a.size:=by omega
      have hdk:aC (bat a (i+j+1+k))=true:=by
        rw [gQ hki] at hkx
        split at hkx
        · assumption
        · omega
      have hkx2:p=(k+1)+aB aC ((ap a).drop (i+j+1+(k+1))):=by
        rw [gQ hki,if_pos hdk] at hkx
        rw [← Pr _ k 1];omega
      have hDl:=fun w=>hD (i+j+1+k) w
      rw [hdk] at hDl
      repeat' (first|(apply aa (d:=48);exact rfl;exact rfl;(intro w' hm;exact hDl w'))|refine sT ?_|refine sS ?_|refine sT2 ?_|refine sN ?_|refine sM fun _=> ?_|(refine sC ?_ ?_<;>intro hb<;>try omega)|exact cT|fail)
      exact ⟨k+1,⟨hkp,hkx2⟩,by omega,sB,sB,.refl _⟩
    have ekp:k=p:=by omega
    subst ekp
    have hdk:aC (bat a (i+j+1+k))=false:=by
      by_cases hki:i+j+1+k<a.size
      · rw [gQ hki] at hkx
        split at hkx
        · omega
        · rename_i h;simpa using h
      · rw [iU (by omega)];rfl
    have hDl:=fun w=>hD (i+j+1+k) w
    rw [hdk] at hDl
    have es:ap (sub a (i+j+1) (i+j+1+k))=((ap a).drop (i+j+1)).take k:=by
      rw [dW];congr 1;omega
    rw [show i+(j+1+k)=i+j+1+k by omega]
    repeat' (first|(apply aa (d:=48);exact rfl;exact rfl;(intro w' hm;exact hDl w'))|(apply ak (d:=54);exact rfl;apply fD (lo:=i+j+1) (hi:=i+j+1+k);(iterate 3 exact rfl);exact ⟨by omega,by omega⟩)|refine sT ?_|refine sS ?_|refine sT2 ?_|refine sN ?_|refine sM fun _=> ?_|(refine sC ?_ ?_<;>intro hb<;>try omega)|exact cT|fail)
    refine bf (sub a (i+j+1) (i+j+1+k)) es sB mS
  · -- a dot without a digit
    have hdd:aC (bat a (i+j+1))=false:=by assumption
    have hpp:=(hp1 (by omega) (by assumption)).trans (hp0 hdd)
    rw [if_pos hpp] at hE
    subst hE hpp
    refine bf au rfl sB mS
  · have hpp:=hp2 (fun _=>by assumption)
    rw [if_pos hpp] at hE
    subst hE hpp
    refine bf au rfl sB mS
  · have hpp:=hp2 (fun h=>by omega)
    rw [if_pos hpp] at hE
    subst hE hpp
    refine bf au rfl sB mS
  rintro pl hpl2
  have hps:pl.size=p:=by
    rw [← av,hpl2,NZ,NP,hl]
    by_cases h:p=0
    · omega
    · have:=hpl h;omega
  clear hp1 hp2 hp0 hD hDj hDk
  by_cases h4:4<p
  · rw [if_pos h4]
    repeat' (first|refine sT ?_|refine sS ?_|refine sT2 ?_|refine sN ?_|refine sM fun _=> ?_|(refine sC ?_ ?_<;>intro hb<;>try omega)|exact cT|fail)
    all_goals first
      |(exfalso;omega)
      |(refine fH (.inl rfl) rfl rfl pK rfl rfl rfl (MSub.nil _) ?_;exact ⟨rfl,⟨1,0,au,aM,i⟩,_,rfl⟩)
  rw [if_neg h4]
  repeat' (first|refine sT ?_|refine sS ?_|refine sT2 ?_|refine sN ?_|refine sM fun _=> ?_|(refine sC ?_ ?_<;>intro hb<;>try omega)|exact cT|fail)
  all_goals try (exfalso;omega)
  refine ay [0,1,4,7,8,9] rfl (fun q:ByteArray × Nat=> [(10,.string q.1)]) (fun _=> [.box g7 295 (aY ⟨1,0,au,aM,i⟩),.box g4 295 (aY cY)]) (fun q=>ap q.1=((ap a).drop (i+j+1)).take p++List.replicate q.2 48∧p+q.2≤4∧q.1.size=p+q.2) (fun q=>4 - q.2) (pl,0) ⟨by rw [hpl2];simp,by dsimp only;omega,hps⟩ sB mS ?_
  rintro ⟨q,z⟩ ⟨hq1,hq2,hq3⟩
  dsimp only at hq1 hq2 hq3 ⊢
  by_cases hz:p+z<4
  · obtain ⟨B,hB⟩: ∃ B,B=q++({ data:= #[48] }:ByteArray):=⟨_,rfl⟩
    have hB1:ap B=((ap a).drop (i+j+1)).take p++List.replicate (z+1) 48:=by
      rw [hB,gJ,hq1,List.replicate_succ',OA];rfl
    have hB2:B.size=p+(z+1):=by
      rw [hB,PK,hq3];rfl
    repeat' (first|(apply ak (d:=63);exact rfl;apply jB (c:=B);exact rfl;exact rfl;exact hB.symm;(simp only [hq3];have:({ data:= #[48] }:ByteArray).size=1:=rfl;omega))|refine sT ?_|refine sS ?_|refine sT2 ?_|refine sN ?_|refine sM fun _=> ?_|(refine sC ?_ ?_<;>intro hb<;>try omega)|exact cT|fail)
    all_goals first
      |(exfalso;omega)
      |exact ⟨(B,z+1),⟨hB1,by dsimp only;omega,hB2⟩,by dsimp only;omega,sB,sB,.refl _⟩
  have ez:z=4 - p:=by omega
  subst ez
  obtain ⟨X,hX⟩: ∃ X,X=sub a i (i+j)++q:=⟨_,rfl⟩
  obtain ⟨D,hD⟩: ∃ D,D=((ap a).drop i).take j++((ap a).drop (i+j+1)).take p++List.replicate (4 - p) 48:=⟨_,rfl⟩
  have hXD:ap X=D:=by
    rw [hX,gJ,dW,hq1,hD,← OA]
    congr 3;omega
  rw [← hD]
  have hsz1:(sub a i (i+j)).size=j:=by rw [bW a (by omega)];omega
  have hXs:X.size=j+4:=by rw [hX,PK,hsz1,hq3];omega
  have hDl:D.length=j+4:=by rw [← hXD,av,hXs]
  have hdig: ∀ (k:Nat) c,D[k]? =some c→48≤c∧c≤57:=fun k c hk=>by
    have hc:=P2 hk
    rw [hD,Ol,Ol] at hc
    refine (eD c).1 ?_
    rcases hc with (hc|hc)|hc
    · exact zt hW1.symm hc
    · by_cases h0:p=0
      · rw [h0] at hc;simp at hc
      · obtain ⟨r,hr,hr2⟩:=m9 (l:=(ap a).drop (i+j)) (by rw [hp];exact h0)
        rw [hp] at hr2
        have:(ap a).drop (i+j+1)=r:=by rw [← O0,hr];rfl
        rw [this] at hc
        exact zt hr2 hc
    · rw [List.eq_of_mem_replicate hc];rfl
  repeat' (first|(apply ak (d:=66);exact rfl;apply jB (c:=X);exact rfl;exact rfl;exact hX.symm;omega)|refine sT ?_|refine sS ?_|refine sT2 ?_|refine sN ?_|refine sM fun _=> ?_|(refine sC ?_ ?_<;>intro hb<;>try omega)|exact cT|fail)
  all_goals try (exfalso;omega)
  have hge:=oO hdig
  refine ay [0,1,4,7,8,12] rfl (fun k:Nat=> [(13,.int .i64 (k:Int))]) (fun k=> [.box g7 295 (aY ⟨1,bk (D.take k) 0,au,aM,i⟩),.box g4 295 (aY cY)]) (fun k=>k≤j+4∧bk (D.take k) 0≤cF) (fun k=>j+4 - k) 0 ⟨by omega,by rw [Pj];decide⟩ sB mS ?_
  rintro k ⟨hk1,hk2⟩
  have hgk:=hge k
  by_cases hkl:k<j+4
  · obtain ⟨c,hc⟩: ∃ c,D[k]? =some c:=⟨_,NE (by omega)⟩
    have hcd:=hdig k c hc
    have hbc:bat X k=c:=by
      have:=gj (a:=X) (i:=k) (by omega)
      rw [hXD,hc] at this
      exact (Option.some.inj this).symm
    have hnx:=ux hc
    have hgk1:=hge (k+1)
    obtain ⟨V,hV⟩: ∃ V,bk (D.take k) 0=V:=⟨_,rfl⟩
    rw [hV] at hk2 hgk hnx ⊢
    have hq10:IntKind.i64.wrap ((9223372036854775807 - (c - 48)).tdiv 10)=(9223372036854775807 - (c - 48)) / 10:=by
      rw [Qo (by omega)]
      exact I64.wrap ⟨by omega,by omega⟩
    rw [show aY ⟨1,V,au,aM,i⟩= [.int .u8 1,.int .i64 V,.string au,.int .i64 0,.int .i64 0,.int .i64 0,.int .i64 0,.int .i64 (i:Int)] from rfl]
    repeat' (first|(apply ak (d:=75);exact rfl;apply aV (j:=k);exact rfl;exact rfl;omega)|(rw [hbc])|(apply ak (d:=76);exact rfl;apply dG (c:=c - 48);exact rfl;exact rfl;(exact eM (by omega) (by omega)))|(apply ak (d:=77);exact rfl;apply bI (c:=c - 48);exact rfl;exact I64.wrap ⟨by omega,by omega⟩)|(apply ak (d:=81);exact rfl;apply G6;exact rfl;exact rfl;exact ⟨by omega,by omega⟩)|(apply ak (d:=82);exact rfl;apply mI;exact rfl;exact rfl;exact (by decide);exact hq10)|(apply ak (d:=87);exact rfl;apply tE;exact rfl;exact rfl;exact ⟨by omega,by omega⟩)|(apply ak (d:=89);exact rfl;apply dw;exact rfl;exact rfl;exact ⟨by omega,by omega⟩)|refine sT ?_|refine sS ?_|refine sT2 ?_|refine sN ?_|refine sM fun _=> ?_|(refine sC ?_ ?_<;>intro hb<;>try omega)|exact cT|fail)
    all_goals first
      |(rw [if_pos (show cF<bk D 0 by omega)];refine fH (.inl rfl) rfl rfl pK rfl rfl rfl (MSub.nil _) ?_;exact ⟨rfl,⟨1,V,au,aM,i⟩,_,rfl⟩)
      | (have hle : 10 * V + (c - 48) ≤ cF := (by omega)
         rw [← hnx] at hle
         refine ⟨k+1,⟨by omega,hle⟩,by omega,sB,sB,?_⟩
         rw [hnx]
         exact mS)
  · have ek:k=j+4:=by omega
    subst ek
    rw [N9 (by omega)] at hk2 hgk ⊢
    repeat' (first|refine sT ?_|refine sS ?_|refine sT2 ?_|refine sN ?_|refine sM fun _=> ?_|(refine sC ?_ ?_<;>intro hb<;>try omega)|exact cT|fail)
    all_goals first
      |(exfalso;omega)
      |(rw [if_neg (by omega),hE];refine fH (.inl rfl) rfl rfl pK rfl rfl rfl (MSub.nil _) ?_;exact ⟨rfl,rfl⟩)
theorem qp {a:ByteArray} {i:Nat} (h:a.size≤i):(ap a).drop i= []:=N0 (by rw [av];exact h)
set_option maxHeartbeats 2000000 in
theorem Cw (a:ByteArray) (ha:a.size≤256) (i:Nat) (hi:i<a.size) (w:World):
  aQ Tryz.prog 319 [.string a,.int .i64 (i:Int)] w fun v H=>H= []∧TokR i ((j5 ((ap a).drop (i+1))).map fun x=>(⟨2,0,mkB x.1,aM,0⟩,x.2+1)) v:=by
 refine aq Tryz.func319 rfl Tryz.ntmps319 rfl ?_
 have hl:=av a
 obtain ⟨X,hX⟩: ∃ X,j5 ((ap a).drop (i+1))=X:=⟨_,rfl⟩
 rw [hX]
 repeat' (first|refine sT ?_|refine sS ?_|refine sT2 ?_|refine sN ?_|refine sM fun _=> ?_|(refine sC ?_ ?_<;>intro hb<;>try omega)|fail)
 rename_i g4 g7
 refine ay [0,1,4,7] rfl (fun x:Nat × ByteArray=> [(8,.int .i64 (x.1:Int))]) (fun x=> [.box g7 295 (aY ⟨2,0,x.2,aM,i⟩),.box g4 295 (aY cY)]) (fun x=>i+1≤x.1∧x.1≤a.size∧x.2.size≤x.1∧X=(j5 ((ap a).drop x.1)).map fun y=>(ap x.2++y.1,y.2+(x.1 - (i+1)))) (fun x=>a.size - x.1) (i+1,au) ⟨NJ _,hi,NY _,by rw [hX];cases X<;>simp [uI]⟩ sB mS ?_
 rintro ⟨k,T⟩ ⟨hk1,hk2,hT,hXk⟩
 dsimp only at hk1 hk2 hT hXk ⊢
 rw [show aY ⟨2,0,T,aM,i⟩= [.int .u8 2,.int .i64 0,.string T,.int .i64 0,.int .i64 0,.int .i64 0,.int .i64 0,.int .i64 (i:Int)] from rfl]
 by_cases hend:k=a.size
 ·
  subst hend
  rw [qp (NJ _)] at hXk
  simp only [j5,QA] at hXk
  subst hXk
  repeat' (first|refine sT ?_|refine sS ?_|refine sT2 ?_|refine sN ?_|refine sM fun _=> ?_|(refine sC ?_ ?_<;>intro hb<;>try omega)|fail)
  all_goals first
   |(exfalso;omega)
   |((refine cG ?_);exact ⟨rfl,⟨2,0,T,aM,i⟩,_,rfl⟩)
 have hlt:k<a.size:=by omega
 rw [aZ hlt,j5.eq_def] at hXk
 dsimp only at hXk
 obtain ⟨T1,hT1⟩: ∃ T1,T1=T++sub a k (k+1):=⟨_,rfl⟩
 obtain ⟨T2,hT2⟩: ∃ T2,T2=T++({ data:= #[34] }:ByteArray):=⟨_,rfl⟩
 have hs1:(sub a k (k+1)).size=1:=by rw [bW a (by omega)];omega
 have hs2:({ data:= #[34] }:ByteArray).size=1:=rfl
 have hT1s:T1.size=T.size+1:=by rw [hT1,PK,hs1]
 have hT2s:T2.size=T.size+1:=by rw [hT2,PK,hs2]
 have hT1i:ap T1=ap T++ [bat a k]:=by rw [hT1,gJ,dW,aZ hlt,show k+1 - k=1 by omega];rfl
 have hT2i:ap T2=ap T++ [34]:=by rw [hT2,gJ];rfl
 repeat' (first|(refine dX (id:=6) [9] [1] [Blk.box g4 295 (aY cY)] (by kernel_rfl) (by kernel_rfl) (by kernel_rfl) mS ?_)|(apply ak;exact rfl;apply aV (j:=k);exact rfl;exact rfl;omega)|(apply ak;exact rfl;apply aV (j:=k+1);exact rfl;exact rfl;omega)|(apply cC (d:=29);(iterate 3 exact rfl);apply fD (lo:=k) (hi:=k+1);(iterate 3 exact rfl);exact ⟨by omega,by omega⟩)|(apply cC (d:=30);(iterate 3 exact rfl);apply jB (c:=T1);exact rfl;exact rfl;exact hT1.symm;omega)|(apply ak (d:=46);exact rfl;apply jB (c:=T2);exact rfl;exact rfl;exact hT2.symm;omega)|refine sT ?_|refine sS ?_|refine sW ?_|refine sT2 ?_|refine sW2 ?_|refine sN ?_|refine sWN ?_|refine sM fun _=> ?_|(refine sC ?_ ?_<;>intro hb<;>try omega)|(refine sCW ?_ ?_<;>intro hb<;>try omega)|fail)
 ·
  rw [if_pos (by assumption),Qf] at hXk
  refine ⟨(k+1,T1),⟨by dsimp only;omega,hlt,by dsimp only;omega,?_⟩,by dsimp only;omega,sB,sB,by exact mS⟩
  rw [hXk]
  congr 1
  funext y
  simp only [Function.comp,hT1i,OA,List.singleton_append]
  congr 1
  omega
 ·
  have h34:bat a (k+1)=34:=by assumption
  rw [if_neg (by assumption),aZ (by omega),h34] at hXk
  simp only [if_true,Qf] at hXk
  refine ⟨(k+1+1,T2),⟨by dsimp only;omega,by dsimp only;omega,by dsimp only;omega,?_⟩,by dsimp only;omega,sB,sB,by exact mS⟩
  rw [hXk]
  congr 1
  funext y
  simp only [Function.comp,hT2i,OA,List.singleton_append]
  congr 1
  omega
 ·
  have h34: ¬ bat a (k+1)=34:=by assumption
  rw [if_neg (by assumption),aZ (by omega)] at hXk
  simp only [if_neg h34,OM,NM] at hXk
  subst hXk
  (refine cG ?_)
  refine ⟨rfl,?_⟩
  simp only [OM,TokR,lA]
  rw [show i+(1+(k - (i+1))+1)=k+1 by omega]
  rfl
 ·
  rw [if_neg (by assumption),qp (by omega)] at hXk
  simp only [OM,NM] at hXk
  subst hXk
  (refine cG ?_)
  refine ⟨rfl,?_⟩
  simp only [OM,TokR,lA]
  rw [show i+(1+(k - (i+1))+1)=k+1 by omega]
  rfl
theorem nC {a:ByteArray} {i:Nat}:((ap a).drop i).headD 0=bat a i:=by
 by_cases h:i<a.size
 ·
  rw [aZ h];rfl
 ·
  rw [qp (by omega),iU (by omega)];rfl
theorem oK (a:ByteArray) (ha:a.size≤256) (i:Nat) (hi:i≤a.size) (w:World):ax Tryz.prog 336 [.string a,.int .i64 (i:Int)] w (.int .i64 ((i+aB cL ((ap a).drop i):Nat):Int)):=by
 refine aq Tryz.func336 rfl Tryz.ntmps336 rfl ?_
 have hl:=av a
 obtain ⟨X,hX⟩: ∃ X,i+aB cL ((ap a).drop i)=X:=⟨_,rfl⟩
 rw [hX]
 repeat' (first|refine sT ?_|refine sS ?_|refine sM fun _=> ?_|(refine sC ?_ ?_<;>intro hb<;>try omega)|fail)
 refine ay [0] rfl (fun j:Nat=> [(1,.int .i64 (j:Int))]) (fun _=> []) (fun j=>j≤a.size∧X=j+aB cL ((ap a).drop j)) (fun j=>a.size - j) i ⟨hi,hX.symm⟩ sB (.refl _) ?_
 rintro j ⟨hj,hx⟩
 have hL:=fun w=>lX a (by omega) j w
 have hD:=fun w=>mX a (by omega) j w
 by_cases hw:cL (bat a j)=true
 ·
  have hlt:j<a.size:=by
   rcases Po j a.size with h|h
   ·
    exact h
   ·
    rw [iU h] at hw;cases hw
  rw [gQ hlt,if_pos hw] at hx
  obtain ⟨b1,hb1⟩: ∃ b,bN (bat a j)=b:=⟨_,rfl⟩
  obtain ⟨b2,hb2⟩: ∃ b,aC (bat a j)=b:=⟨_,rfl⟩
  rw [hb1] at hL;rw [hb2] at hD
  have h12:(b1||b2)=true:=by rw [← hb1,← hb2];exact hw
  cases b1<;>cases b2<;>first|(exact absurd h12 (by decide))|skip
  all_goals
   repeat' (first|(apply aa (f:=320);exact rfl;exact rfl;(intro w' hm;exact hL w'))|(apply aa (f:=317);exact rfl;exact rfl;(intro w' hm;exact hD w'))|refine sT ?_|refine sS ?_|refine sN ?_|refine sM fun _=> ?_|(refine sC ?_ ?_<;>intro hb<;>try omega)|fail)
   exact ⟨j+1,⟨hlt,by omega⟩,by omega,sB,sB,.nil _⟩
 ·
  have hr:aB cL ((ap a).drop j)=0:=by
   by_cases hlt:j<a.size
   ·
    rw [gQ hlt,if_neg hw]
   ·
    rw [qp (by omega)];rfl
  rw [hr,PB] at hx
  subst hx
  have h1:bN (bat a X)=false:=by unfold cL at hw;revert hw;cases bN (bat a X)<;>simp
  have h2:aC (bat a X)=false:=by unfold cL at hw;revert hw;cases aC (bat a X)<;>simp
  rw [h1] at hL;rw [h2] at hD
  repeat' (first|(apply aa (f:=320);exact rfl;exact rfl;(intro w' hm;exact hL w'))|(apply aa (f:=317);exact rfl;exact rfl;(intro w' hm;exact hD w'))|(refine rT1 ?_)|refine sT ?_|refine sS ?_|refine sN ?_|refine sM fun _=> ?_|(refine sC ?_ ?_<;>intro hb<;>try omega)|fail)
  rfl
theorem pP (a:ByteArray) (i W:Nat):ap (sub a i (i+W))=((ap a).drop i).take W:=by
 rw [dW];congr 1;omega
def ME (a:ByteArray) (i:Nat):Value:=
 if bN (bat a i)=false then .tuple #[.agg (cu ⟨0,0⟩).toArray,.int .i64 0,.bool false]
 else .tuple #[.agg (cu ⟨(bX (upW ((ap a).drop i))).1,(bX (upW ((ap a).drop i))).2.1⟩).toArray,.int .i64 ((i+aB cL ((ap a).drop i):Nat):Int),.bool (decide ((bX (upW ((ap a).drop i))).2.2=0∧bat a (i+aB cL ((ap a).drop i))≠40))]
set_option maxHeartbeats 1000000 in
theorem oM (a:ByteArray) (ha:a.size≤256) (i:Nat) (hi:i≤a.size) (w:World):ax Tryz.prog 337 [.string a,.int .i64 (i:Int)] w (ME a i):=by
 refine aq Tryz.func337 rfl Tryz.ntmps337 rfl ?_
 have hl:=av a
 have hL:=fun w=>lX a (by omega) i w
 have hW:=fun w=>oK a ha i hi w
 obtain ⟨W,hWe⟩: ∃ W,aB cL ((ap a).drop i)=W:=⟨_,rfl⟩
 have hWl:i+W≤a.size:=by
  have:=bR cL ((ap a).drop i)
  rw [NP] at this
  omega
 have hP:=fun w=>CH (sub a i (i+W)) (by rw [bW a (by omega)];omega) w
 rw [pP] at hP
 unfold ME
 rw [Ns]
 rw [hWe] at hW ⊢
 obtain ⟨c,r,e,hA⟩: ∃ c r e,bX (((ap a).drop i).take W)=(c,r,e):=⟨_,_,_,rfl⟩
 rw [hA] at hP ⊢
 dsimp only at hP ⊢
 obtain ⟨b,hb⟩: ∃ b,bN (bat a i)=b:=⟨_,rfl⟩
 rw [hb] at hL ⊢
 have hout:a.size≤i+W→bat a (i+W)≠40:=fun h=>by rw [iU h];decide
 cases b with
 |false=>
  repeat' (first|(apply aa (f:=320);exact rfl;exact rfl;(intro w' hm;exact hL w'))|refine sT ?_|refine sS ?_|refine sT2 ?_|refine sN ?_|refine sM fun _=> ?_|(refine sC ?_ ?_<;>intro hb<;>try omega)|fail)
  all_goals ((refine cG ?_);rfl)
 |true=>
  rw [if_neg (by simp)]
  repeat' (first|(apply aa (f:=320);exact rfl;exact rfl;(intro w' hm;exact hL w'))|(apply aa (f:=336);exact rfl;exact rfl;(intro w' hm;exact hW w'))|(apply aa (f:=352);exact rfl;exact rfl;(intro w' hm;exact hP w'))|(apply ak (d:=22);exact rfl;apply fD (lo:=i) (hi:=i+W);(iterate 3 exact rfl);exact ⟨by omega,by omega⟩)|(rename_i g4 g8;refine dX (id:=5) [16] [] [Blk.box g8 51 (cu ⟨c,r⟩)] (by kernel_rfl) (by kernel_rfl) (by kernel_rfl) mS ?_)|(apply cC (d:=38);(iterate 3 exact rfl);apply aV (j:=i+W);exact rfl;exact rfl;omega)|refine sT ?_|refine sS ?_|refine sW ?_|refine sT2 ?_|refine sW2 ?_|refine sN ?_|refine sWN ?_|refine sM fun _=> ?_|(refine sC ?_ ?_<;>intro hb<;>try omega)|(refine sCW ?_ ?_<;>intro hb<;>try omega)|fail)
  ·
   (refine cG ?_)
   rw [decide_eq_true (show e=0∧bat a (i+W)≠40 from ⟨by assumption,hout (by omega)⟩)]
   rfl
  ·
   (refine cG ?_)
   have he:e=0:=by assumption
   subst he
   simp only [true_and]
   rfl
  ·
   (refine cG ?_)
   rw [decide_eq_false (show ¬ (e=0∧bat a (i+W)≠40) from fun h=>absurd h.1 (by assumption))]
   rfl
set_option maxHeartbeats 1000000 in
theorem Cv (a:ByteArray) (ha:a.size≤256) (i:Nat) (hi:i<a.size) (hli:bN (bat a i)=true) (w:World):aQ Tryz.prog 321 [.string a,.int .i64 (i:Int)] w fun v H=>H= []∧TokR i (gK ((ap a).drop i)) v:=by
  refine aq Tryz.func321 rfl Tryz.ntmps321 rfl ?_
  have hl:=av a
  have hW:=fun w=>oK a ha i (by omega) w
  obtain ⟨W,hWe⟩: ∃ W,aB cL ((ap a).drop i)=W:=⟨_,rfl⟩
  have hWl:i+W≤a.size:=by
    have:=bR cL ((ap a).drop i)
    rw [NP] at this
    omega
  have hA1:=fun w=>oM a ha i (by omega) w
  have hA2:=fun (h:i+W<a.size) w=>oM a ha (i+W+1) h w
  have hU:=fun w=>j8 (sub a i (i+W)) (by rw [bW a (by omega)];omega) w
  obtain ⟨U,hUe⟩: ∃ U,upB (sub a i (i+W))=U:=⟨_,rfl⟩
  have hUm:mkB (upW ((ap a).drop i))=U:=by
    rw [← hUe,HC,hWe,← lA (upB _),p9,pP]
  have hl0:((ap a).drop i).headD 0=bat a i:=nC
  have hl1:(((ap a).drop i).drop W).headD 0=bat a (i+W):=by rw [O0,nC]
  have hd2:((ap a).drop i).drop (W+1)=(ap a).drop (i+W+1):=by rw [O0,Pr]
  have hl2:((ap a).drop (i+W+1)).headD 0=bat a (i+W+1):=nC
  obtain ⟨W2,hW2⟩: ∃ W2,aB cL ((ap a).drop (i+W+1))=W2:=⟨_,rfl⟩
  have hl3:(((ap a).drop i).drop (W+1+W2)).headD 0=bat a (i+W+1+W2):=by rw [O0,nC];congr 1;omega
  have hW2l:i+W<a.size→i+W+1+W2≤a.size:=fun h=>by
    have:=bR cL ((ap a).drop (i+W+1))
    rw [NP] at this
    omega
  unfold gK
  unfold ME at hA1 hA2
  rw [hl0,hli,if_neg (by simp)]
  rw [hWe] at hW hA1 ⊢
  rw [hd2,hl1,hl2,hW2,hl3]
  rw [hli,if_neg (by simp)] at hA1
  rw [hW2] at hA2
  rw [hUm]
  rw [hUe] at hU
  obtain ⟨c1,r1,e1,hx1⟩: ∃ c r e,bX (upW ((ap a).drop i))=(c,r,e):=⟨_,_,_,rfl⟩
  obtain ⟨c2,r2,e2,hx2⟩: ∃ c r e,bX (upW ((ap a).drop (i+W+1)))=(c,r,e):=⟨_,_,_,rfl⟩
  rw [hx1] at hA1 ⊢
  rw [hx2] at hA2 ⊢
  dsimp only at hA1 hA2 ⊢
  have hout:a.size≤i+W→bat a (i+W)≠40∧bat a (i+W)≠58:=fun h=>by rw [iU h];decide
  by_cases h40:bat a (i+W)=40
  · rw [if_pos h40]
    have hlt:i+W<a.size:=by
      rcases Po (i+W) a.size with h|h
      · exact h
      · exact absurd h40 (hout h).1
    repeat' (first|(apply aa (f:=336);exact rfl;exact rfl;(intro w' hm;exact hW w'))|(apply aa (f:=249);exact rfl;exact rfl;(intro w' hm;exact hU w'))|(apply ak (d:=22);exact rfl;apply fD (lo:=i) (hi:=i+W);(iterate 3 exact rfl);exact ⟨by omega,by omega⟩)|(apply ak (d:=31);exact rfl;apply aV (j:=i+W);exact rfl;exact rfl;omega)|refine sT ?_|refine sS ?_|refine sT2 ?_|refine sN ?_|refine sM fun _=> ?_|(refine sC ?_ ?_<;>intro hb<;>try omega)|fail)
    all_goals
      first
      |(exfalso;omega)
      |((refine cG ?_);exact ⟨rfl,rfl⟩)
  rw [if_neg h40]
  clear hli hUm hUe hl0 hl1 hd2 hl2 hl3
  by_cases hT:U=mO
  · rw [if_pos hT]
    subst hT
    repeat' (first|(apply aa (f:=336);exact rfl;exact rfl;(intro w' hm;exact hW w'))|(apply aa (f:=249);exact rfl;exact rfl;(intro w' hm;exact hU w'))|(apply ak (d:=22);exact rfl;apply fD (lo:=i) (hi:=i+W);(iterate 3 exact rfl);exact ⟨by omega,by omega⟩)|(apply ak (d:=31);exact rfl;apply aV (j:=i+W);exact rfl;exact rfl;omega)|(apply ak (d:=70);exact rfl;apply aV (j:=i+W);exact rfl;exact rfl;omega)|(apply aa (d:=51);exact rfl;exact rfl;(intro w' hm;exact hA1 w'))|(apply aa (d:=76);exact rfl;exact rfl;(intro w' hm;exact hA2 w'))|(apply aa (f:=338);exact rfl;exact rfl;(intro w' hm;exact iw ⟨c1,r1⟩ w'))|(apply ak (d:=85);exact rfl;exact fI _ _ ▸ iW rfl rfl)|(apply ak (d:=90);exact rfl;exact fI _ _ ▸ iW rfl rfl)|(apply ak (d:=95);exact rfl;exact fJ _ _ ▸ gW rfl rfl)|(apply ak (d:=100);exact rfl;exact fJ _ _ ▸ gW rfl rfl)|(apply ak (d:=105);exact rfl;exact ig (a:=⟨c1,r1⟩) (b:=⟨c2,r2⟩) rfl rfl rfl)|refine sT ?_|refine sS ?_|refine sT2 ?_|refine sN ?_|refine sM fun _=> ?_|(refine sC ?_ ?_<;>intro hb<;>try omega)|fail)
    all_goals
      first
      |(exfalso;omega)
      |(exact absurd rfl (by assumption))
      |((refine cG ?_);exact ⟨rfl,rfl⟩)
  rw [if_neg hT]
  by_cases hF:U=kS
  · rw [if_pos hF]
    subst hF
    repeat' (first|(apply aa (f:=336);exact rfl;exact rfl;(intro w' hm;exact hW w'))|(apply aa (f:=249);exact rfl;exact rfl;(intro w' hm;exact hU w'))|(apply ak (d:=22);exact rfl;apply fD (lo:=i) (hi:=i+W);(iterate 3 exact rfl);exact ⟨by omega,by omega⟩)|(apply ak (d:=31);exact rfl;apply aV (j:=i+W);exact rfl;exact rfl;omega)|(apply ak (d:=70);exact rfl;apply aV (j:=i+W);exact rfl;exact rfl;omega)|(apply aa (d:=51);exact rfl;exact rfl;(intro w' hm;exact hA1 w'))|(apply aa (d:=76);exact rfl;exact rfl;(intro w' hm;exact hA2 w'))|(apply aa (f:=338);exact rfl;exact rfl;(intro w' hm;exact iw ⟨c1,r1⟩ w'))|(apply ak (d:=85);exact rfl;exact fI _ _ ▸ iW rfl rfl)|(apply ak (d:=90);exact rfl;exact fI _ _ ▸ iW rfl rfl)|(apply ak (d:=95);exact rfl;exact fJ _ _ ▸ gW rfl rfl)|(apply ak (d:=100);exact rfl;exact fJ _ _ ▸ gW rfl rfl)|(apply ak (d:=105);exact rfl;exact ig (a:=⟨c1,r1⟩) (b:=⟨c2,r2⟩) rfl rfl rfl)|refine sT ?_|refine sS ?_|refine sT2 ?_|refine sN ?_|refine sM fun _=> ?_|(refine sC ?_ ?_<;>intro hb<;>try omega)|fail)
    all_goals
      first
      |(exfalso;omega)
      |(exact absurd (by assumption) hT)
      |(exact absurd rfl (by assumption))
      |((refine cG ?_);exact ⟨rfl,rfl⟩)
  rw [if_neg hF]
  have hT' : ¬ U=({ data:= #[84,82,85,69] }:ByteArray):=hT
  have hF' : ¬ U=({ data:= #[70,65,76,83,69] }:ByteArray):=hF
  simp only [ne_eq,h40,not_false_eq_true,and_true] at hA1
  by_cases he1:e1=0
  · rw [if_neg (fun h=>h he1)]
    rw [decide_eq_true he1] at hA1
    by_cases h58:bat a (i+W)=58
    · have hlt:i+W<a.size:=by
        rcases Po (i+W) a.size with h|h
        · exact h
        · exact absurd h58 (hout h).2
      replace hA2:=hA2 hlt
      by_cases hl2:bN (bat a (i+W+1))=true
      · rw [hl2,if_neg (by simp)] at hA2
        by_cases hok:e2=0∧bat a (i+W+1+W2)≠40
        · rw [if_pos ⟨h58,hl2,hok⟩]
          rw [decide_eq_true hok] at hA2
          repeat' (first|(apply aa (f:=336);exact rfl;exact rfl;(intro w' hm;exact hW w'))|(apply aa (f:=249);exact rfl;exact rfl;(intro w' hm;exact hU w'))|(apply ak (d:=22);exact rfl;apply fD (lo:=i) (hi:=i+W);(iterate 3 exact rfl);exact ⟨by omega,by omega⟩)|(apply ak (d:=31);exact rfl;apply aV (j:=i+W);exact rfl;exact rfl;omega)|(apply ak (d:=70);exact rfl;apply aV (j:=i+W);exact rfl;exact rfl;omega)|(apply aa (d:=51);exact rfl;exact rfl;(intro w' hm;exact hA1 w'))|(apply aa (d:=76);exact rfl;exact rfl;(intro w' hm;exact hA2 w'))|(apply aa (f:=338);exact rfl;exact rfl;(intro w' hm;exact iw ⟨c1,r1⟩ w'))|(apply ak (d:=85);exact rfl;exact fI _ _ ▸ iW rfl rfl)|(apply ak (d:=90);exact rfl;exact fI _ _ ▸ iW rfl rfl)|(apply ak (d:=95);exact rfl;exact fJ _ _ ▸ gW rfl rfl)|(apply ak (d:=100);exact rfl;exact fJ _ _ ▸ gW rfl rfl)|(apply ak (d:=105);exact rfl;exact ig (a:=⟨c1,r1⟩) (b:=⟨c2,r2⟩) rfl rfl rfl)|refine sT ?_|refine sS ?_|refine sT2 ?_|refine sN ?_|refine sM fun _=> ?_|(refine sC ?_ ?_<;>intro hb<;>try omega)|fail)
          all_goals
            first
            |(exfalso;omega)
            |(exact absurd (by assumption) hT')
            |(exact absurd (by assumption) hF')
            |((refine cG ?_);exact ⟨rfl,cY,_,rfl⟩)
            |((refine cG ?_);exact ⟨rfl,rfl⟩)
            | ((refine cG ?_)
               refine ⟨rfl,?_⟩
               have hne: ¬ (c1=c2∧r1=r2):=fun h=>(by assumption:(⟨c1,r1⟩:Rf)≠⟨c2,r2⟩) (by rw [h.1,h.2])
               simp only [TokR,if_neg hne]
               rw [show i+(W+1+W2)=i+W+1+W2 by omega]
               rfl)
            | ((refine cG ?_)
               refine ⟨rfl,?_⟩
               have heq:c1=c2∧r1=r2:=by
                 have:(⟨c1,r1⟩:Rf)=⟨c2,r2⟩:=Classical.not_not.1 (by assumption)
                 cases this
                 exact ⟨rfl,rfl⟩
               simp only [TokR,if_pos heq]
               rw [show i+(W+1+W2)=i+W+1+W2 by omega]
               rfl)
        · rw [if_neg fun h=>hok h.2.2]
          rw [decide_eq_false hok] at hA2
          repeat' (first|(apply aa (f:=336);exact rfl;exact rfl;(intro w' hm;exact hW w'))|(apply aa (f:=249);exact rfl;exact rfl;(intro w' hm;exact hU w'))|(apply ak (d:=22);exact rfl;apply fD (lo:=i) (hi:=i+W);(iterate 3 exact rfl);exact ⟨by omega,by omega⟩)|(apply ak (d:=31);exact rfl;apply aV (j:=i+W);exact rfl;exact rfl;omega)|(apply ak (d:=70);exact rfl;apply aV (j:=i+W);exact rfl;exact rfl;omega)|(apply aa (d:=51);exact rfl;exact rfl;(intro w' hm;exact hA1 w'))|(apply aa (d:=76);exact rfl;exact rfl;(intro w' hm;exact hA2 w'))|(apply aa (f:=338);exact rfl;exact rfl;(intro w' hm;exact iw ⟨c1,r1⟩ w'))|(apply ak (d:=85);exact rfl;exact fI _ _ ▸ iW rfl rfl)|(apply ak (d:=90);exact rfl;exact fI _ _ ▸ iW rfl rfl)|(apply ak (d:=95);exact rfl;exact fJ _ _ ▸ gW rfl rfl)|(apply ak (d:=100);exact rfl;exact fJ _ _ ▸ gW rfl rfl)|(apply ak (d:=105);exact rfl;exact ig (a:=⟨c1,r1⟩) (b:=⟨c2,r2⟩) rfl rfl rfl)|refine sT ?_|refine sS ?_|refine sT2 ?_|refine sN ?_|refine sM fun _=> ?_|(refine sC ?_ ?_<;>intro hb<;>try omega)|fail)
          all_goals
            first
            |(exfalso;omega)
            |(exact absurd (by assumption) hT')
            |(exact absurd (by assumption) hF')
            |((refine cG ?_);exact ⟨rfl,cY,_,rfl⟩)
            |((refine cG ?_);exact ⟨rfl,rfl⟩)
            | ((refine cG ?_)
               refine ⟨rfl,?_⟩
               have hne: ¬ (c1=c2∧r1=r2):=fun h=>(by assumption:(⟨c1,r1⟩:Rf)≠⟨c2,r2⟩) (by rw [h.1,h.2])
               simp only [TokR,if_neg hne]
               rw [show i+(W+1+W2)=i+W+1+W2 by omega]
               rfl)
            | ((refine cG ?_)
               refine ⟨rfl,?_⟩
               have heq:c1=c2∧r1=r2:=by
                 have:(⟨c1,r1⟩:Rf)=⟨c2,r2⟩:=Classical.not_not.1 (by assumption)
                 cases this
                 exact ⟨rfl,rfl⟩
               simp only [TokR,if_pos heq]
               rw [show i+(W+1+W2)=i+W+1+W2 by omega]
               rfl)
      · rw [if_neg fun h=>hl2 h.2.1]
        rw [if_pos (by simpa using hl2)] at hA2
        repeat' (first|(apply aa (f:=336);exact rfl;exact rfl;(intro w' hm;exact hW w'))|(apply aa (f:=249);exact rfl;exact rfl;(intro w' hm;exact hU w'))|(apply ak (d:=22);exact rfl;apply fD (lo:=i) (hi:=i+W);(iterate 3 exact rfl);exact ⟨by omega,by omega⟩)|(apply ak (d:=31);exact rfl;apply aV (j:=i+W);exact rfl;exact rfl;omega)|(apply ak (d:=70);exact rfl;apply aV (j:=i+W);exact rfl;exact rfl;omega)|(apply aa (d:=51);exact rfl;exact rfl;(intro w' hm;exact hA1 w'))|(apply aa (d:=76);exact rfl;exact rfl;(intro w' hm;exact hA2 w'))|(apply aa (f:=338);exact rfl;exact rfl;(intro w' hm;exact iw ⟨c1,r1⟩ w'))|(apply ak (d:=85);exact rfl;exact fI _ _ ▸ iW rfl rfl)|(apply ak (d:=90);exact rfl;exact fI _ _ ▸ iW rfl rfl)|(apply ak (d:=95);exact rfl;exact fJ _ _ ▸ gW rfl rfl)|(apply ak (d:=100);exact rfl;exact fJ _ _ ▸ gW rfl rfl)|(apply ak (d:=105);exact rfl;exact ig (a:=⟨c1,r1⟩) (b:=⟨c2,r2⟩) rfl rfl rfl)|refine sT ?_|refine sS ?_|refine sT2 ?_|refine sN ?_|refine sM fun _=> ?_|(refine sC ?_ ?_<;>intro hb<;>try omega)|fail)
        all_goals
          first
          |(exfalso;omega)
          |(exact absurd (by assumption) hT')
          |(exact absurd (by assumption) hF')
          |((refine cG ?_);exact ⟨rfl,cY,_,rfl⟩)
          |((refine cG ?_);exact ⟨rfl,rfl⟩)
          | ((refine cG ?_)
             refine ⟨rfl,?_⟩
             have hne: ¬ (c1=c2∧r1=r2):=fun h=>(by assumption:(⟨c1,r1⟩:Rf)≠⟨c2,r2⟩) (by rw [h.1,h.2])
             simp only [TokR,if_neg hne]
             rw [show i+(W+1+W2)=i+W+1+W2 by omega]
             rfl)
          | ((refine cG ?_)
             refine ⟨rfl,?_⟩
             have heq:c1=c2∧r1=r2:=by
               have:(⟨c1,r1⟩:Rf)=⟨c2,r2⟩:=Classical.not_not.1 (by assumption)
               cases this
               exact ⟨rfl,rfl⟩
             simp only [TokR,if_pos heq]
             rw [show i+(W+1+W2)=i+W+1+W2 by omega]
             rfl)
    · rw [if_neg fun h=>h58 h.1]
      repeat' (first|(apply aa (f:=336);exact rfl;exact rfl;(intro w' hm;exact hW w'))|(apply aa (f:=249);exact rfl;exact rfl;(intro w' hm;exact hU w'))|(apply ak (d:=22);exact rfl;apply fD (lo:=i) (hi:=i+W);(iterate 3 exact rfl);exact ⟨by omega,by omega⟩)|(apply ak (d:=31);exact rfl;apply aV (j:=i+W);exact rfl;exact rfl;omega)|(apply ak (d:=70);exact rfl;apply aV (j:=i+W);exact rfl;exact rfl;omega)|(apply aa (d:=51);exact rfl;exact rfl;(intro w' hm;exact hA1 w'))|(apply aa (d:=76);exact rfl;exact rfl;(intro w' hm;exact hA2 w'))|(apply aa (f:=338);exact rfl;exact rfl;(intro w' hm;exact iw ⟨c1,r1⟩ w'))|(apply ak (d:=85);exact rfl;exact fI _ _ ▸ iW rfl rfl)|(apply ak (d:=90);exact rfl;exact fI _ _ ▸ iW rfl rfl)|(apply ak (d:=95);exact rfl;exact fJ _ _ ▸ gW rfl rfl)|(apply ak (d:=100);exact rfl;exact fJ _ _ ▸ gW rfl rfl)|(apply ak (d:=105);exact rfl;exact ig (a:=⟨c1,r1⟩) (b:=⟨c2,r2⟩) rfl rfl rfl)|refine sT ?_|refine sS ?_|refine sT2 ?_|refine sN ?_|refine sM fun _=> ?_|(refine sC ?_ ?_<;>intro hb<;>try omega)|fail)
      all_goals
        first
        |(exfalso;omega)
        |(exact absurd (by assumption) hT')
        |(exact absurd (by assumption) hF')
        |((refine cG ?_);exact ⟨rfl,cY,_,rfl⟩)
        |((refine cG ?_);exact ⟨rfl,rfl⟩)
        | ((refine cG ?_)
           refine ⟨rfl,?_⟩
           have hne: ¬ (c1=c2∧r1=r2):=fun h=>(by assumption:(⟨c1,r1⟩:Rf)≠⟨c2,r2⟩) (by rw [h.1,h.2])
           simp only [TokR,if_neg hne]
           rw [show i+(W+1+W2)=i+W+1+W2 by omega]
           rfl)
        | ((refine cG ?_)
           refine ⟨rfl,?_⟩
           have heq:c1=c2∧r1=r2:=by
             have:(⟨c1,r1⟩:Rf)=⟨c2,r2⟩:=Classical.not_not.1 (by assumption)
             cases this
             exact ⟨rfl,rfl⟩
           simp only [TokR,if_pos heq]
           rw [show i+(W+1+W2)=i+W+1+W2 by omega]
           rfl)
  · rw [if_pos he1]
    rw [decide_eq_false he1] at hA1
    repeat' (first|(apply aa (f:=336);exact rfl;exact rfl;(intro w' hm;exact hW w'))|(apply aa (f:=249);exact rfl;exact rfl;(intro w' hm;exact hU w'))|(apply ak (d:=22);exact rfl;apply fD (lo:=i) (hi:=i+W);(iterate 3 exact rfl);exact ⟨by omega,by omega⟩)|(apply ak (d:=31);exact rfl;apply aV (j:=i+W);exact rfl;exact rfl;omega)|(apply ak (d:=70);exact rfl;apply aV (j:=i+W);exact rfl;exact rfl;omega)|(apply aa (d:=51);exact rfl;exact rfl;(intro w' hm;exact hA1 w'))|(apply aa (d:=76);exact rfl;exact rfl;(intro w' hm;exact hA2 w'))|(apply aa (f:=338);exact rfl;exact rfl;(intro w' hm;exact iw ⟨c1,r1⟩ w'))|(apply ak (d:=85);exact rfl;exact fI _ _ ▸ iW rfl rfl)|(apply ak (d:=90);exact rfl;exact fI _ _ ▸ iW rfl rfl)|(apply ak (d:=95);exact rfl;exact fJ _ _ ▸ gW rfl rfl)|(apply ak (d:=100);exact rfl;exact fJ _ _ ▸ gW rfl rfl)|(apply ak (d:=105);exact rfl;exact ig (a:=⟨c1,r1⟩) (b:=⟨c2,r2⟩) rfl rfl rfl)|refine sT ?_|refine sS ?_|refine sT2 ?_|refine sN ?_|refine sM fun _=> ?_|(refine sC ?_ ?_<;>intro hb<;>try omega)|fail)
    all_goals
      first
      |(exfalso;omega)
      |(exact absurd (by assumption) hT')
      |(exact absurd (by assumption) hF')
      |((refine cG ?_);exact ⟨rfl,cY,_,rfl⟩)
      |((refine cG ?_);exact ⟨rfl,rfl⟩)
      | ((refine cG ?_)
         refine ⟨rfl,?_⟩
         have hne: ¬ (c1=c2∧r1=r2):=fun h=>(by assumption:(⟨c1,r1⟩:Rf)≠⟨c2,r2⟩) (by rw [h.1,h.2])
         simp only [TokR,if_neg hne]
         rw [show i+(W+1+W2)=i+W+1+W2 by omega]
         rfl)
      | ((refine cG ?_)
         refine ⟨rfl,?_⟩
         have heq:c1=c2∧r1=r2:=by
           have:(⟨c1,r1⟩:Rf)=⟨c2,r2⟩:=Classical.not_not.1 (by assumption)
           cases this
           exact ⟨rfl,rfl⟩
         simp only [TokR,if_pos heq]
         rw [show i+(W+1+W2)=i+W+1+W2 by omega]
         rfl)
end Go.SL
