/-
  Lemmas and walks, put together: R7 R8 R9 R10.
-/
import Derived.Test.YtlnecnbfmnfigaaGreatDoorKu24
set_option linter.unusedSimpArgs false
set_option linter.unusedVariables false
set_option maxRecDepth 20000
namespace Go.SL
open Go Go.Proofs
attribute [local irreducible] W WL WQ WG WA WX WLI WR WT WC VOp RW thn blk bZ scp bA bV ck FnAt FnIn FnP ceP
def TokR (i:Nat) (o:Option (Tk × Nat)) (v:Value):Prop:=match o with
 |some (t,n)=>v= .tuple #[.agg (bk { t with at_:=(i:Int) }).toArray,.int .i64 ((i+n:Nat):Int),.bool true]
 |none=> ∃ (t:Tk) (e:Int),v= .tuple #[.agg (bk t).toArray,.int .i64 e,.bool false]
theorem iq {p:Int→Bool} {a:ByteArray} {i:Nat} (h:i<a.size):aI p ((ap a).drop i)=if p (bat a i) then aI p ((ap a).drop (i+1))+1 else 0:=by
 rw [bn h,aI]
theorem BF {p:Int→Bool} {l:List Int} {n:Nat} (h:n=aI p l) {c:Int} (hc:c∈l.take n):p c=true:=by
 obtain ⟨k,hk,rfl⟩:=P1 hc
 rw [Pr] at hk
 rw [List.getElem_take]
 exact kw l k _ (by omega) (O5 (by omega))
set_option maxHeartbeats 4000000 in
theorem zz (a:ByteArray) (ha:a.size≤256) (i:Nat) (hi:i<a.size) (hdi:aJ (bat a i)=true) (w:World):
    FnAt Tryz.prog 297 [.string a,.int .i64 (i:Int)] w fun v H=>H= []∧TokR i ((lj ((ap a).drop i)).map fun x=>(⟨1,x.1,ay,aW,0⟩,x.2)) v:=by
  refine aA Tryz.func297 rfl Tryz.ntmps297 rfl ?_
  have hl:=au a
  have hm:cQ=9223372036854775807:=rfl
  obtain ⟨W1,hW1⟩: ∃ W1,aI aJ ((ap a).drop i)=W1:=⟨_,rfl⟩
  have hw0:W1≠0:=by rw [← hW1,iq hi,if_pos hdi];omega
  have hwl:i+W1≤a.size:=by
    have:=co aJ ((ap a).drop i)
    rw [Pp] at this
    omega
  obtain ⟨p,hp⟩: ∃ p,cv ((ap a).drop (i+W1))=p:=⟨_,rfl⟩
  have hnum:lj ((ap a).drop i)=if 4<p then none else if cQ<bJ (((ap a).drop i).take W1++((ap a).drop (i+W1+1)).take p++List.replicate (4 - p) 48) 0 then none else some (bJ (((ap a).drop i).take W1++((ap a).drop (i+W1+1)).take p++List.replicate (4 - p) 48) 0,if p=0 then W1 else W1+1+p):=by
    unfold lj
    simp only [hW1,Qy,hp]
    by_cases h4:4<p
    · rw [if_pos (.inr h4),if_pos h4]
    · rw [if_neg (by omega),if_neg h4]
      rfl
  rw [hnum]
  clear hnum
  have hD:=fun j w=>nM a (by omega) j w
  repeat' (first|refine sT ?_|refine sS ?_|refine sT2 ?_|refine sM fun _=> ?_|(refine sC ?_ ?_<;>intro hb<;>try omega)|exact cT|fail)
  rename_i g4 g7
  refine ax [0,1,4,7] rfl (fun j:Nat=> [(8,.int .i64 ((i+j:Nat):Int))]) (fun _=> [.box g7 291 (bk ⟨1,0,ay,aW,i⟩),.box g4 291 (bk dq)]) (fun j=>j≤W1∧W1=j+aI aJ ((ap a).drop (i+j))) (fun j=>W1 - j) 0 ⟨by omega,by rw [QW,hW1];omega⟩ sB mS ?_
  rintro j ⟨hj,hx⟩
  by_cases hjw:j<W1
  · have hji:i+j<a.size:=by omega
    have hdj:aJ (bat a (i+j))=true:=by
      rw [iq hji] at hx
      split at hx
      · assumption
      · omega
    have hx2:W1=(j+1)+aI aJ ((ap a).drop (i+(j+1))):=by
      rw [iq hji,if_pos hdj] at hx
      rw [← Qf i j 1];omega
    have hDj:=fun w=>hD (i+j) w
    rw [hdj] at hDj
    repeat' (first|(apply aa (f:=296);exact rfl;exact rfl;(intro w' hm;exact hDj w'))|refine sT ?_|refine sS ?_|refine sT2 ?_|refine sN ?_|refine sM fun _=> ?_|(refine sC ?_ ?_<;>intro hb<;>try omega)|exact cT|fail)
    exact ⟨j+1,⟨hjw,hx2⟩,by omega,sB,sB,.refl _⟩
  have ejw:j=W1:=by omega
  subst ejw
  have hdj:aJ (bat a (i+j))=false:=by
    by_cases hji:i+j<a.size
    · rw [iq hji] at hx
      split at hx
      · omega
      · rename_i h;simpa using h
    · rw [jq (by omega)];rfl
  have hDj:=fun w=>hD (i+j) w
  rw [hdj] at hDj
  have hDk:=fun w=>hD (i+j+1) w
  have hp1:i+j<a.size→bat a (i+j)=46→p=aI aJ ((ap a).drop (i+j+1)):=fun h1 h2=>by
    rw [← hp,bn h1,h2];rfl
  have hp2:(i+j<a.size→bat a (i+j)≠46)→p=0:=fun h=>by
    rw [← hp]
    by_cases h1:i+j<a.size
    · rw [bn h1];exact mK (h h1)
    · rw [PA (by omega)];rfl
  have hp0:aJ (bat a (i+j+1))=false→aI aJ ((ap a).drop (i+j+1))=0:=fun h=>by
    by_cases h1:i+j+1<a.size
    · rw [iq h1,if_neg (by rw [h];simp)]
    · exact qw (by omega)
  have hpl:p≠0→i+j+1+p≤a.size:=fun h=>by
    by_cases h1:i+j<a.size∧bat a (i+j)=46
    · have:=hp1 h1.1 h1.2
      have h2:=co aJ ((ap a).drop (i+j+1))
      rw [Pp] at h2
      omega
    · exact absurd (hp2 fun h3 h4=>h1 ⟨h3,h4⟩) h
  obtain ⟨E,hE⟩: ∃ E,(if p=0 then j else j+1+p)=E:=⟨_,rfl⟩
  repeat' (first|(apply aa (d:=20);exact rfl;exact rfl;(intro w' hm;exact hDj w'))|(apply aj (d:=26);exact rfl;apply fW (lo:=i) (hi:=i+j);(iterate 3 exact rfl);exact ⟨by omega,by omega⟩)|(refine zk (id:=6) (ι:=ByteArray) (fun pl=> [(0,.string a),(1,.int .i64 (i:Int)),(4,.pointer (some ⟨g4,0,none⟩)),(7,.pointer (some ⟨g7,0,none⟩)),(8,.int .i64 ((i+E:Nat):Int)),(9,.string (sub a i (i+j))),(10,.string pl)]) (fun _=> [.box g7 291 (bk ⟨1,0,ay,aW,i⟩),.box g4 291 (bk dq)]) (fun pl=>ap pl=((ap a).drop (i+j+1)).take p) ?_ ?_)|(apply aj (d:=34);exact rfl;apply ba (j:=i+j);exact rfl;exact rfl;omega)|(apply aa (d:=41);exact rfl;exact rfl;(intro w' hm;exact hDk w'))|refine sT ?_|refine sS ?_|refine sT2 ?_|refine sN ?_|refine sM fun _=> ?_|(refine sC ?_ ?_<;>intro hb<;>try omega)|exact cT|fail)
  · -- the places
    have hdd:aJ (bat a (i+j+1))=true:=by assumption
    have e46:bat a (i+j)=46:=by assumption
    have hpp:=hp1 (by omega) e46
    have hp0' :p≠0:=by
      rw [hpp]
      by_cases h1:i+j+1<a.size
      · rw [iq h1,if_pos hdd];omega
      · rw [jq (by omega)] at hdd;simp [aJ] at hdd
    rw [if_neg hp0'] at hE
    subst hE
    refine ax [0,1,4,7,9,10,11] rfl (fun k:Nat=> [(8,.int .i64 ((i+j+1+k:Nat):Int))]) (fun _=> [.box g7 291 (bk ⟨1,0,ay,aW,i⟩),.box g4 291 (bk dq)]) (fun k=>k≤p∧p=k+aI aJ ((ap a).drop (i+j+1+k))) (fun k=>p - k) 0 ⟨by omega,by rw [QW,Pn];exact hpp⟩ sB mS ?_
    rintro k ⟨hk,hkx⟩
    have hpl' :=hpl hp0'
    by_cases hkp:k<p
    · have hki:i+j+1+k<a.size:=by omega
      have hdk:aJ (bat a (i+j+1+k))=true:=by
        rw [iq hki] at hkx
        split at hkx
        · assumption
        · omega
      have hkx2:p=(k+1)+aI aJ ((ap a).drop (i+j+1+(k+1))):=by
        rw [iq hki,if_pos hdk] at hkx
        rw [← Qf _ k 1];omega
      have hDl:=fun w=>hD (i+j+1+k) w
      rw [hdk] at hDl
      repeat' (first|(apply aa (d:=48);exact rfl;exact rfl;(intro w' hm;exact hDl w'))|refine sT ?_|refine sS ?_|refine sT2 ?_|refine sN ?_|refine sM fun _=> ?_|(refine sC ?_ ?_<;>intro hb<;>try omega)|exact cT|fail)
      exact ⟨k+1,⟨hkp,hkx2⟩,by omega,sB,sB,.refl _⟩
    have ekp:k=p:=by omega
    subst ekp
    have hdk:aJ (bat a (i+j+1+k))=false:=by
      by_cases hki:i+j+1+k<a.size
      · rw [iq hki] at hkx
        split at hkx
        · omega
        · rename_i h;simpa using h
      · rw [jq (by omega)];rfl
    have hDl:=fun w=>hD (i+j+1+k) w
    rw [hdk] at hDl
    have es:ap (sub a (i+j+1) (i+j+1+k))=((ap a).drop (i+j+1)).take k:=by
      rw [eF];congr 1;omega
    rw [show i+(j+1+k)=i+j+1+k by omega]
    repeat' (first|(apply aa (d:=48);exact rfl;exact rfl;(intro w' hm;exact hDl w'))|(apply aj (d:=54);exact rfl;apply fW (lo:=i+j+1) (hi:=i+j+1+k);(iterate 3 exact rfl);exact ⟨by omega,by omega⟩)|refine sT ?_|refine sS ?_|refine sT2 ?_|refine sN ?_|refine sM fun _=> ?_|(refine sC ?_ ?_<;>intro hb<;>try omega)|exact cT|fail)
    refine cL (sub a (i+j+1) (i+j+1+k)) es sB mS
  · -- a dot without a digit
    have hdd:aJ (bat a (i+j+1))=false:=by assumption
    have hpp:=(hp1 (by omega) (by assumption)).trans (hp0 hdd)
    rw [if_pos hpp] at hE
    subst hE hpp
    refine cL ay rfl sB mS
  · have hpp:=hp2 (fun _=>by assumption)
    rw [if_pos hpp] at hE
    subst hE hpp
    refine cL ay rfl sB mS
  · have hpp:=hp2 (fun h=>by omega)
    rw [if_pos hpp] at hE
    subst hE hpp
    refine cL ay rfl sB mS
  rintro pl hpl2
  have hps:pl.size=p:=by
    rw [← au,hpl2,Pr,Pp,hl]
    by_cases h:p=0
    · omega
    · have:=hpl h;omega
  clear hp1 hp2 hp0 hD hDj hDk
  by_cases h4:4<p
  · rw [if_pos h4]
    repeat' (first|refine sT ?_|refine sS ?_|refine sT2 ?_|refine sN ?_|refine sM fun _=> ?_|(refine sC ?_ ?_<;>intro hb<;>try omega)|exact cT|fail)
    all_goals first
      |(exfalso;omega)
      |(refine fZ (.inl rfl) rfl rfl pK rfl rfl rfl (MSub.nil _) ?_;exact ⟨rfl,⟨1,0,ay,aW,i⟩,_,rfl⟩)
  rw [if_neg h4]
  repeat' (first|refine sT ?_|refine sS ?_|refine sT2 ?_|refine sN ?_|refine sM fun _=> ?_|(refine sC ?_ ?_<;>intro hb<;>try omega)|exact cT|fail)
  all_goals try (exfalso;omega)
  refine ax [0,1,4,7,8,9] rfl (fun q:ByteArray × Nat=> [(10,.string q.1)]) (fun _=> [.box g7 291 (bk ⟨1,0,ay,aW,i⟩),.box g4 291 (bk dq)]) (fun q=>ap q.1=((ap a).drop (i+j+1)).take p++List.replicate q.2 48∧p+q.2≤4∧q.1.size=p+q.2) (fun q=>4 - q.2) (pl,0) ⟨by rw [hpl2];simp,by dsimp only;omega,hps⟩ sB mS ?_
  rintro ⟨q,z⟩ ⟨hq1,hq2,hq3⟩
  dsimp only at hq1 hq2 hq3 ⊢
  by_cases hz:p+z<4
  · obtain ⟨B,hB⟩: ∃ B,B=q++({ data:= #[48] }:ByteArray):=⟨_,rfl⟩
    have hB1:ap B=((ap a).drop (i+j+1)).take p++List.replicate (z+1) 48:=by
      rw [hB,gW,hq1,List.replicate_succ',Pg];rfl
    have hB2:B.size=p+(z+1):=by
      rw [hB,RB,hq3];rfl
    repeat' (first|(apply aj (d:=63);exact rfl;apply jW (c:=B);exact rfl;exact rfl;exact hB.symm;(simp only [hq3];have:({ data:= #[48] }:ByteArray).size=1:=rfl;omega))|refine sT ?_|refine sS ?_|refine sT2 ?_|refine sN ?_|refine sM fun _=> ?_|(refine sC ?_ ?_<;>intro hb<;>try omega)|exact cT|fail)
    all_goals first
      |(exfalso;omega)
      |exact ⟨(B,z+1),⟨hB1,by dsimp only;omega,hB2⟩,by dsimp only;omega,sB,sB,.refl _⟩
  have ez:z=4 - p:=by omega
  subst ez
  obtain ⟨X,hX⟩: ∃ X,X=sub a i (i+j)++q:=⟨_,rfl⟩
  obtain ⟨D,hD⟩: ∃ D,D=((ap a).drop i).take j++((ap a).drop (i+j+1)).take p++List.replicate (4 - p) 48:=⟨_,rfl⟩
  have hXD:ap X=D:=by
    rw [hX,gW,eF,hq1,hD,← Pg]
    congr 3;omega
  rw [← hD]
  have hsz1:(sub a i (i+j)).size=j:=by rw [cD a (by omega)];omega
  have hXs:X.size=j+4:=by rw [hX,RB,hsz1,hq3];omega
  have hDl:D.length=j+4:=by rw [← hXD,au,hXs]
  have hdig: ∀ (k:Nat) c,D[k]? =some c→48≤c∧c≤57:=fun k c hk=>by
    have hc:=Qs hk
    rw [hD,Pz,Pz] at hc
    refine (eU c).1 ?_
    rcases hc with (hc|hc)|hc
    · exact BF hW1.symm hc
    · by_cases h0:p=0
      · rw [h0] at hc;simp at hc
      · obtain ⟨r,hr,hr2⟩:=nR (l:=(ap a).drop (i+j)) (by rw [hp];exact h0)
        rw [hp] at hr2
        have:(ap a).drop (i+j+1)=r:=by rw [← Qy,hr];rfl
        rw [this] at hc
        exact BF hr2 hc
    · rw [List.eq_of_mem_replicate hc];rfl
  repeat' (first|(apply aj (d:=66);exact rfl;apply jW (c:=X);exact rfl;exact rfl;exact hX.symm;omega)|refine sT ?_|refine sS ?_|refine sT2 ?_|refine sN ?_|refine sM fun _=> ?_|(refine sC ?_ ?_<;>intro hb<;>try omega)|exact cT|fail)
  all_goals try (exfalso;omega)
  have hge:=o8 hdig
  refine ax [0,1,4,7,8,12] rfl (fun k:Nat=> [(13,.int .i64 (k:Int))]) (fun k=> [.box g7 291 (bk ⟨1,bJ (D.take k) 0,ay,aW,i⟩),.box g4 291 (bk dq)]) (fun k=>k≤j+4∧bJ (D.take k) 0≤cQ) (fun k=>j+4 - k) 0 ⟨by omega,by rw [Qj];decide⟩ sB mS ?_
  rintro k ⟨hk1,hk2⟩
  have hgk:=hge k
  by_cases hkl:k<j+4
  · obtain ⟨c,hc⟩: ∃ c,D[k]? =some c:=⟨_,O5 (by omega)⟩
    have hcd:=hdig k c hc
    have hbc:bat X k=c:=by
      have:=gK (a:=X) (i:=k) (by omega)
      rw [hXD,hc] at this
      exact (Option.some.inj this).symm
    have hnx:=vS hc
    have hgk1:=hge (k+1)
    obtain ⟨V,hV⟩: ∃ V,bJ (D.take k) 0=V:=⟨_,rfl⟩
    rw [hV] at hk2 hgk hnx ⊢
    have hq10:IntKind.i64.wrap ((9223372036854775807 - (c - 48)).tdiv 10)=(9223372036854775807 - (c - 48)) / 10:=by
      rw [SF (by omega)]
      exact I64.wrap ⟨by omega,by omega⟩
    rw [show bk ⟨1,V,ay,aW,i⟩= [.int .u8 1,.int .i64 V,.string ay,.int .i64 0,.int .i64 0,.int .i64 0,.int .i64 0,.int .i64 (i:Int)] from rfl]
    repeat' (first|(apply aj (d:=75);exact rfl;apply ba (j:=k);exact rfl;exact rfl;omega)|(rw [hbc])|(apply aj (d:=76);exact rfl;apply dU (c:=c - 48);exact rfl;exact rfl;(exact fa (by omega) (by omega)))|(apply aj (d:=77);exact rfl;apply cU (c:=c - 48);exact rfl;exact I64.wrap ⟨by omega,by omega⟩)|(apply aj (d:=81);exact rfl;apply I5;exact rfl;exact rfl;exact ⟨by omega,by omega⟩)|(apply aj (d:=82);exact rfl;apply nk;exact rfl;exact rfl;exact (by decide);exact hq10)|(apply aj (d:=87);exact rfl;apply Be;exact rfl;exact rfl;exact ⟨by omega,by omega⟩)|(apply aj (d:=89);exact rfl;apply kZ;exact rfl;exact rfl;exact ⟨by omega,by omega⟩)|refine sT ?_|refine sS ?_|refine sT2 ?_|refine sN ?_|refine sM fun _=> ?_|(refine sC ?_ ?_<;>intro hb<;>try omega)|exact cT|fail)
    all_goals first
      |(rw [if_pos (show cQ<bJ D 0 by omega)];refine fZ (.inl rfl) rfl rfl pK rfl rfl rfl (MSub.nil _) ?_;exact ⟨rfl,⟨1,V,ay,aW,i⟩,_,rfl⟩)
      | (have hle : 10 * V + (c - 48) ≤ cQ := (by omega)
         rw [← hnx] at hle
         refine ⟨k+1,⟨by omega,hle⟩,by omega,sB,sB,?_⟩
         rw [hnx]
         exact mS)
  · have ek:k=j+4:=by omega
    subst ek
    rw [PM (by omega)] at hk2 hgk ⊢
    repeat' (first|refine sT ?_|refine sS ?_|refine sT2 ?_|refine sN ?_|refine sM fun _=> ?_|(refine sC ?_ ?_<;>intro hb<;>try omega)|exact cT|fail)
    all_goals first
      |(exfalso;omega)
      |(rw [if_neg (by omega),hE];refine fZ (.inl rfl) rfl rfl pK rfl rfl rfl (MSub.nil _) ?_;exact ⟨rfl,rfl⟩)
theorem q9 {a:ByteArray} {i:Nat} (h:a.size≤i):(ap a).drop i= []:=PA (by rw [au];exact h)
set_option maxHeartbeats 2000000 in
theorem Eo (a:ByteArray) (ha:a.size≤256) (i:Nat) (hi:i<a.size) (w:World):
  FnAt Tryz.prog 298 [.string a,.int .i64 (i:Int)] w fun v H=>H= []∧TokR i ((lc ((ap a).drop (i+1))).map fun x=>(⟨2,0,mkB x.1,aW,0⟩,x.2+1)) v:=by
 refine aA Tryz.func298 rfl Tryz.ntmps298 rfl ?_
 have hl:=au a
 obtain ⟨X,hX⟩: ∃ X,lc ((ap a).drop (i+1))=X:=⟨_,rfl⟩
 rw [hX]
 repeat' (first|refine sT ?_|refine sS ?_|refine sT2 ?_|refine sN ?_|refine sM fun _=> ?_|(refine sC ?_ ?_<;>intro hb<;>try omega)|fail)
 rename_i g4 g7
 refine ax [0,1,4,7] rfl (fun x:Nat × ByteArray=> [(8,.int .i64 (x.1:Int))]) (fun x=> [.box g7 291 (bk ⟨2,0,x.2,aW,i⟩),.box g4 291 (bk dq)]) (fun x=>i+1≤x.1∧x.1≤a.size∧x.2.size≤x.1∧X=(lc ((ap a).drop x.1)).map fun y=>(ap x.2++y.1,y.2+(x.1 - (i+1)))) (fun x=>a.size - x.1) (i+1,ay) ⟨Ph _,hi,Pb _,by rw [hX];cases X<;>simp [wh]⟩ sB mS ?_
 rintro ⟨k,T⟩ ⟨hk1,hk2,hT,hXk⟩
 dsimp only at hk1 hk2 hT hXk ⊢
 rw [show bk ⟨2,0,T,aW,i⟩= [.int .u8 2,.int .i64 0,.string T,.int .i64 0,.int .i64 0,.int .i64 0,.int .i64 0,.int .i64 (i:Int)] from rfl]
 by_cases hend:k=a.size
 ·
  subst hend
  rw [q9 (Ph _)] at hXk
  simp only [lc,SI] at hXk
  subst hXk
  repeat' (first|refine sT ?_|refine sS ?_|refine sT2 ?_|refine sN ?_|refine sM fun _=> ?_|(refine sC ?_ ?_<;>intro hb<;>try omega)|fail)
  all_goals first
   |(exfalso;omega)
   |((refine cR ?_);exact ⟨rfl,⟨2,0,T,aW,i⟩,_,rfl⟩)
 have hlt:k<a.size:=by omega
 rw [bn hlt,lc.eq_def] at hXk
 dsimp only at hXk
 obtain ⟨T1,hT1⟩: ∃ T1,T1=T++sub a k (k+1):=⟨_,rfl⟩
 obtain ⟨T2,hT2⟩: ∃ T2,T2=T++({ data:= #[34] }:ByteArray):=⟨_,rfl⟩
 have hs1:(sub a k (k+1)).size=1:=by rw [cD a (by omega)];omega
 have hs2:({ data:= #[34] }:ByteArray).size=1:=rfl
 have hT1s:T1.size=T.size+1:=by rw [hT1,RB,hs1]
 have hT2s:T2.size=T.size+1:=by rw [hT2,RB,hs2]
 have hT1i:ap T1=ap T++ [bat a k]:=by rw [hT1,gW,eF,bn hlt,show k+1 - k=1 by omega];rfl
 have hT2i:ap T2=ap T++ [34]:=by rw [hT2,gW];rfl
 repeat' (first|(refine fj (id:=6) [9] [1] [Blk.box g4 291 (bk dq)] (by kernel_rfl) (by kernel_rfl) (by kernel_rfl) mS ?_)|(apply aj;exact rfl;apply ba (j:=k);exact rfl;exact rfl;omega)|(apply aj;exact rfl;apply ba (j:=k+1);exact rfl;exact rfl;omega)|(apply ep (d:=29);(iterate 3 exact rfl);apply fW (lo:=k) (hi:=k+1);(iterate 3 exact rfl);exact ⟨by omega,by omega⟩)|(apply ep (d:=30);(iterate 3 exact rfl);apply jW (c:=T1);exact rfl;exact rfl;exact hT1.symm;omega)|(apply aj (d:=46);exact rfl;apply jW (c:=T2);exact rfl;exact rfl;exact hT2.symm;omega)|refine sT ?_|refine sS ?_|refine sW ?_|refine sT2 ?_|refine sW2 ?_|refine sN ?_|refine sWN ?_|refine sM fun _=> ?_|(refine sC ?_ ?_<;>intro hb<;>try omega)|(refine sCW ?_ ?_<;>intro hb<;>try omega)|fail)
 ·
  rw [if_pos (by assumption),RS] at hXk
  refine ⟨(k+1,T1),⟨by dsimp only;omega,hlt,by dsimp only;omega,?_⟩,by dsimp only;omega,sB,sB,by exact mS⟩
  rw [hXk]
  congr 1
  funext y
  simp only [Function.comp,hT1i,Pg,SN]
  congr 1
  omega
 ·
  have h34:bat a (k+1)=34:=by assumption
  rw [if_neg (by assumption),bn (by omega),h34] at hXk
  simp only [if_true,RS] at hXk
  refine ⟨(k+1+1,T2),⟨by dsimp only;omega,by dsimp only;omega,by dsimp only;omega,?_⟩,by dsimp only;omega,sB,sB,by exact mS⟩
  rw [hXk]
  congr 1
  funext y
  simp only [Function.comp,hT2i,Pg,SN]
  congr 1
  omega
 ·
  have h34: ¬ bat a (k+1)=34:=by assumption
  rw [if_neg (by assumption),bn (by omega)] at hXk
  simp only [if_neg h34,Qb,Pa] at hXk
  subst hXk
  (refine cR ?_)
  refine ⟨rfl,?_⟩
  simp only [Qb,TokR,lY]
  rw [show i+(1+(k - (i+1))+1)=k+1 by omega]
  rfl
 ·
  rw [if_neg (by assumption),q9 (by omega)] at hXk
  simp only [Qb,Pa] at hXk
  subst hXk
  (refine cR ?_)
  refine ⟨rfl,?_⟩
  simp only [Qb,TokR,lY]
  rw [show i+(1+(k - (i+1))+1)=k+1 by omega]
  rfl
theorem nY {a:ByteArray} {i:Nat}:((ap a).drop i).headD 0=bat a i:=by
 by_cases h:i<a.size
 ·
  rw [bn h];rfl
 ·
  rw [q9 (by omega),jq (by omega)];rfl
theorem o4 (a:ByteArray) (ha:a.size≤256) (i:Nat) (hi:i≤a.size) (w:World):aF Tryz.prog 319 [.string a,.int .i64 (i:Int)] w (.int .i64 ((i+aI da ((ap a).drop i):Nat):Int)):=by
 refine aA Tryz.func319 rfl Tryz.ntmps319 rfl ?_
 have hl:=au a
 obtain ⟨X,hX⟩: ∃ X,i+aI da ((ap a).drop i)=X:=⟨_,rfl⟩
 rw [hX]
 repeat' (first|refine sT ?_|refine sS ?_|refine sT2 ?_|refine sM fun _=> ?_|(refine sC ?_ ?_<;>intro hb<;>try omega)|fail)
 refine ax [0] rfl (fun j:Nat=> [(1,.int .i64 (j:Int))]) (fun _=> []) (fun j=>j≤a.size∧X=j+aI da ((ap a).drop j)) (fun j=>a.size - j) i ⟨hi,hX.symm⟩ sB (.refl _) ?_
 rintro j ⟨hj,hx⟩
 have hL:=fun w=>mJ a (by omega) j w
 have hD:=fun w=>nM a (by omega) j w
 by_cases hw:da (bat a j)=true
 ·
  have hlt:j<a.size:=by
   rcases Qm j a.size with h|h
   ·
    exact h
   ·
    rw [jq h] at hw;cases hw
  rw [iq hlt,if_pos hw] at hx
  obtain ⟨b1,hb1⟩: ∃ b,cf (bat a j)=b:=⟨_,rfl⟩
  obtain ⟨b2,hb2⟩: ∃ b,aJ (bat a j)=b:=⟨_,rfl⟩
  rw [hb1] at hL;rw [hb2] at hD
  have h12:(b1||b2)=true:=by rw [← hb1,← hb2];exact hw
  cases b1<;>cases b2<;>first|(exact absurd h12 (by decide))|skip
  all_goals
   repeat' (first|(apply aa (f:=299);exact rfl;exact rfl;(intro w' hm;exact hL w'))|(apply aa (f:=296);exact rfl;exact rfl;(intro w' hm;exact hD w'))|refine sT ?_|refine sS ?_|refine sT2 ?_|refine sN ?_|refine sM fun _=> ?_|(refine sC ?_ ?_<;>intro hb<;>try omega)|fail)
   exact ⟨j+1,⟨hlt,by omega⟩,by omega,sB,sB,.nil _⟩
 ·
  have hr:aI da ((ap a).drop j)=0:=by
   by_cases hlt:j<a.size
   ·
    rw [iq hlt,if_neg hw]
   ·
    rw [q9 (by omega)];rfl
  rw [hr,QW] at hx
  subst hx
  have h1:cf (bat a X)=false:=by unfold da at hw;revert hw;cases cf (bat a X)<;>simp
  have h2:aJ (bat a X)=false:=by unfold da at hw;revert hw;cases aJ (bat a X)<;>simp
  rw [h1] at hL;rw [h2] at hD
  repeat' (first|(apply aa (f:=299);exact rfl;exact rfl;(intro w' hm;exact hL w'))|(apply aa (f:=296);exact rfl;exact rfl;(intro w' hm;exact hD w'))|(refine rT1 ?_)|refine sT ?_|refine sS ?_|refine sT2 ?_|refine sN ?_|refine sM fun _=> ?_|(refine sC ?_ ?_<;>intro hb<;>try omega)|fail)
  rfl
theorem qo (a:ByteArray) (i W:Nat):ap (sub a i (i+W))=((ap a).drop i).take W:=by
 rw [eF];congr 1;omega
def NM (a:ByteArray) (i:Nat):Value:=
 if cf (bat a i)=false then .tuple #[.agg (aw ⟨0,0⟩).toArray,.int .i64 0,.bool false]
 else .tuple #[.agg (aw ⟨(cF (upW ((ap a).drop i))).1,(cF (upW ((ap a).drop i))).2.1⟩).toArray,.int .i64 ((i+aI da ((ap a).drop i):Nat):Int),.bool (decide ((cF (upW ((ap a).drop i))).2.2=0∧bat a (i+aI da ((ap a).drop i))≠40))]
set_option maxHeartbeats 1000000 in
theorem o6 (a:ByteArray) (ha:a.size≤256) (i:Nat) (hi:i≤a.size) (w:World):aF Tryz.prog 320 [.string a,.int .i64 (i:Int)] w (NM a i):=by
 refine aA Tryz.func320 rfl Tryz.ntmps320 rfl ?_
 have hl:=au a
 have hL:=fun w=>mJ a (by omega) i w
 have hW:=fun w=>o4 a ha i hi w
 obtain ⟨W,hWe⟩: ∃ W,aI da ((ap a).drop i)=W:=⟨_,rfl⟩
 have hWl:i+W≤a.size:=by
  have:=co da ((ap a).drop i)
  rw [Pp] at this
  omega
 have hP:=fun w=>EA (sub a i (i+W)) (by rw [cD a (by omega)];omega) w
 rw [qo] at hP
 unfold NM
 rw [OM]
 rw [hWe] at hW ⊢
 obtain ⟨c,r,e,hA⟩: ∃ c r e,cF (((ap a).drop i).take W)=(c,r,e):=⟨_,_,_,rfl⟩
 rw [hA] at hP ⊢
 dsimp only at hP ⊢
 obtain ⟨b,hb⟩: ∃ b,cf (bat a i)=b:=⟨_,rfl⟩
 rw [hb] at hL ⊢
 have hout:a.size≤i+W→bat a (i+W)≠40:=fun h=>by rw [jq h];decide
 cases b with
 |false=>
  repeat' (first|(apply aa (f:=299);exact rfl;exact rfl;(intro w' hm;exact hL w'))|refine sT ?_|refine sS ?_|refine sT2 ?_|refine sN ?_|refine sM fun _=> ?_|(refine sC ?_ ?_<;>intro hb<;>try omega)|fail)
  all_goals ((refine cR ?_);rfl)
 |true=>
  rw [if_neg (by simp)]
  repeat' (first|(apply aa (f:=299);exact rfl;exact rfl;(intro w' hm;exact hL w'))|(apply aa (f:=319);exact rfl;exact rfl;(intro w' hm;exact hW w'))|(apply aa (f:=337);exact rfl;exact rfl;(intro w' hm;exact hP w'))|(apply aj (d:=22);exact rfl;apply fW (lo:=i) (hi:=i+W);(iterate 3 exact rfl);exact ⟨by omega,by omega⟩)|(rename_i g4 g8;refine fj (id:=5) [16] [] [Blk.box g8 24 (aw ⟨c,r⟩)] (by kernel_rfl) (by kernel_rfl) (by kernel_rfl) mS ?_)|(apply ep (d:=38);(iterate 3 exact rfl);apply ba (j:=i+W);exact rfl;exact rfl;omega)|refine sT ?_|refine sS ?_|refine sW ?_|refine sT2 ?_|refine sW2 ?_|refine sN ?_|refine sWN ?_|refine sM fun _=> ?_|(refine sC ?_ ?_<;>intro hb<;>try omega)|(refine sCW ?_ ?_<;>intro hb<;>try omega)|fail)
  ·
   (refine cR ?_)
   rw [decide_eq_true (show e=0∧bat a (i+W)≠40 from ⟨by assumption,hout (by omega)⟩)]
   rfl
  ·
   (refine cR ?_)
   have he:e=0:=by assumption
   subst he
   simp only [true_and]
   rfl
  ·
   (refine cR ?_)
   rw [decide_eq_false (show ¬ (e=0∧bat a (i+W)≠40) from fun h=>absurd h.1 (by assumption))]
   rfl
set_option maxHeartbeats 1000000 in
theorem El (a:ByteArray) (ha:a.size≤256) (i:Nat) (hi:i<a.size) (hli:cf (bat a i)=true) (w:World):FnAt Tryz.prog 300 [.string a,.int .i64 (i:Int)] w fun v H=>H= []∧TokR i (ib ((ap a).drop i)) v:=by
  refine aA Tryz.func300 rfl Tryz.ntmps300 rfl ?_
  have hl:=au a
  have hW:=fun w=>o4 a ha i (by omega) w
  obtain ⟨W,hWe⟩: ∃ W,aI da ((ap a).drop i)=W:=⟨_,rfl⟩
  have hWl:i+W≤a.size:=by
    have:=co da ((ap a).drop i)
    rw [Pp] at this
    omega
  have hA1:=fun w=>o6 a ha i (by omega) w
  have hA2:=fun (h:i+W<a.size) w=>o6 a ha (i+W+1) h w
  have hU:=fun w=>lf (sub a i (i+W)) (by rw [cD a (by omega)];omega) w
  obtain ⟨U,hUe⟩: ∃ U,upB (sub a i (i+W))=U:=⟨_,rfl⟩
  have hUm:mkB (upW ((ap a).drop i))=U:=by
    rw [← hUe,Jh,hWe,← lY (upB _),qK,qo]
  have hl0:((ap a).drop i).headD 0=bat a i:=nY
  have hl1:(((ap a).drop i).drop W).headD 0=bat a (i+W):=by rw [Qy,nY]
  have hd2:((ap a).drop i).drop (W+1)=(ap a).drop (i+W+1):=by rw [Qy,Qf]
  have hl2:((ap a).drop (i+W+1)).headD 0=bat a (i+W+1):=nY
  obtain ⟨W2,hW2⟩: ∃ W2,aI da ((ap a).drop (i+W+1))=W2:=⟨_,rfl⟩
  have hl3:(((ap a).drop i).drop (W+1+W2)).headD 0=bat a (i+W+1+W2):=by rw [Qy,nY];congr 1;omega
  have hW2l:i+W<a.size→i+W+1+W2≤a.size:=fun h=>by
    have:=co da ((ap a).drop (i+W+1))
    rw [Pp] at this
    omega
  unfold ib
  unfold NM at hA1 hA2
  rw [hl0,hli,if_neg (by simp)]
  rw [hWe] at hW hA1 ⊢
  rw [hd2,hl1,hl2,hW2,hl3]
  rw [hli,if_neg (by simp)] at hA1
  rw [hW2] at hA2
  rw [hUm]
  rw [hUe] at hU
  obtain ⟨c1,r1,e1,hx1⟩: ∃ c r e,cF (upW ((ap a).drop i))=(c,r,e):=⟨_,_,_,rfl⟩
  obtain ⟨c2,r2,e2,hx2⟩: ∃ c r e,cF (upW ((ap a).drop (i+W+1)))=(c,r,e):=⟨_,_,_,rfl⟩
  rw [hx1] at hA1 ⊢
  rw [hx2] at hA2 ⊢
  dsimp only at hA1 hA2 ⊢
  have hout:a.size≤i+W→bat a (i+W)≠40∧bat a (i+W)≠58:=fun h=>by rw [jq h];decide
  by_cases h40:bat a (i+W)=40
  · rw [if_pos h40]
    have hlt:i+W<a.size:=by
      rcases Qm (i+W) a.size with h|h
      · exact h
      · exact absurd h40 (hout h).1
    repeat' (first|(apply aa (f:=319);exact rfl;exact rfl;(intro w' hm;exact hW w'))|(apply aa (f:=208);exact rfl;exact rfl;(intro w' hm;exact hU w'))|(apply aj (d:=22);exact rfl;apply fW (lo:=i) (hi:=i+W);(iterate 3 exact rfl);exact ⟨by omega,by omega⟩)|(apply aj (d:=31);exact rfl;apply ba (j:=i+W);exact rfl;exact rfl;omega)|refine sT ?_|refine sS ?_|refine sT2 ?_|refine sN ?_|refine sM fun _=> ?_|(refine sC ?_ ?_<;>intro hb<;>try omega)|fail)
    all_goals
      first
      |(exfalso;omega)
      |((refine cR ?_);exact ⟨rfl,rfl⟩)
  rw [if_neg h40]
  clear hli hUm hUe hl0 hl1 hd2 hl2 hl3
  by_cases hT:U=nB
  · rw [if_pos hT]
    subst hT
    repeat' (first|(apply aa (f:=319);exact rfl;exact rfl;(intro w' hm;exact hW w'))|(apply aa (f:=208);exact rfl;exact rfl;(intro w' hm;exact hU w'))|(apply aj (d:=22);exact rfl;apply fW (lo:=i) (hi:=i+W);(iterate 3 exact rfl);exact ⟨by omega,by omega⟩)|(apply aj (d:=31);exact rfl;apply ba (j:=i+W);exact rfl;exact rfl;omega)|(apply aj (d:=70);exact rfl;apply ba (j:=i+W);exact rfl;exact rfl;omega)|(apply aa (d:=51);exact rfl;exact rfl;(intro w' hm;exact hA1 w'))|(apply aa (d:=76);exact rfl;exact rfl;(intro w' hm;exact hA2 w'))|(apply aa (f:=71);exact rfl;exact rfl;(intro w' hm;exact dE ⟨c1,r1⟩ w'))|(apply aj (d:=85);exact rfl;exact f4 _ _ ▸ iF rfl rfl)|(apply aj (d:=90);exact rfl;exact f4 _ _ ▸ iF rfl rfl)|(apply aj (d:=95);exact rfl;exact f5 _ _ ▸ iG rfl rfl)|(apply aj (d:=100);exact rfl;exact f5 _ _ ▸ iG rfl rfl)|(apply aj (d:=105);exact rfl;exact dC (a:=⟨c1,r1⟩) (b:=⟨c2,r2⟩) rfl rfl rfl)|refine sT ?_|refine sS ?_|refine sT2 ?_|refine sN ?_|refine sM fun _=> ?_|(refine sC ?_ ?_<;>intro hb<;>try omega)|fail)
    all_goals
      first
      |(exfalso;omega)
      |(exact absurd rfl (by assumption))
      |((refine cR ?_);exact ⟨rfl,rfl⟩)
  rw [if_neg hT]
  by_cases hF:U=lH
  · rw [if_pos hF]
    subst hF
    repeat' (first|(apply aa (f:=319);exact rfl;exact rfl;(intro w' hm;exact hW w'))|(apply aa (f:=208);exact rfl;exact rfl;(intro w' hm;exact hU w'))|(apply aj (d:=22);exact rfl;apply fW (lo:=i) (hi:=i+W);(iterate 3 exact rfl);exact ⟨by omega,by omega⟩)|(apply aj (d:=31);exact rfl;apply ba (j:=i+W);exact rfl;exact rfl;omega)|(apply aj (d:=70);exact rfl;apply ba (j:=i+W);exact rfl;exact rfl;omega)|(apply aa (d:=51);exact rfl;exact rfl;(intro w' hm;exact hA1 w'))|(apply aa (d:=76);exact rfl;exact rfl;(intro w' hm;exact hA2 w'))|(apply aa (f:=71);exact rfl;exact rfl;(intro w' hm;exact dE ⟨c1,r1⟩ w'))|(apply aj (d:=85);exact rfl;exact f4 _ _ ▸ iF rfl rfl)|(apply aj (d:=90);exact rfl;exact f4 _ _ ▸ iF rfl rfl)|(apply aj (d:=95);exact rfl;exact f5 _ _ ▸ iG rfl rfl)|(apply aj (d:=100);exact rfl;exact f5 _ _ ▸ iG rfl rfl)|(apply aj (d:=105);exact rfl;exact dC (a:=⟨c1,r1⟩) (b:=⟨c2,r2⟩) rfl rfl rfl)|refine sT ?_|refine sS ?_|refine sT2 ?_|refine sN ?_|refine sM fun _=> ?_|(refine sC ?_ ?_<;>intro hb<;>try omega)|fail)
    all_goals
      first
      |(exfalso;omega)
      |(exact absurd (by assumption) hT)
      |(exact absurd rfl (by assumption))
      |((refine cR ?_);exact ⟨rfl,rfl⟩)
  rw [if_neg hF]
  have hT' : ¬ U=({ data:= #[84,82,85,69] }:ByteArray):=hT
  have hF' : ¬ U=({ data:= #[70,65,76,83,69] }:ByteArray):=hF
  simp only [ne_eq,h40,not_false_eq_true,and_true] at hA1
  by_cases he1:e1=0
  · rw [if_neg (fun h=>h he1)]
    rw [decide_eq_true he1] at hA1
    by_cases h58:bat a (i+W)=58
    · have hlt:i+W<a.size:=by
        rcases Qm (i+W) a.size with h|h
        · exact h
        · exact absurd h58 (hout h).2
      replace hA2:=hA2 hlt
      by_cases hl2:cf (bat a (i+W+1))=true
      · rw [hl2,if_neg (by simp)] at hA2
        by_cases hok:e2=0∧bat a (i+W+1+W2)≠40
        · rw [if_pos ⟨h58,hl2,hok⟩]
          rw [decide_eq_true hok] at hA2
          repeat' (first|(apply aa (f:=319);exact rfl;exact rfl;(intro w' hm;exact hW w'))|(apply aa (f:=208);exact rfl;exact rfl;(intro w' hm;exact hU w'))|(apply aj (d:=22);exact rfl;apply fW (lo:=i) (hi:=i+W);(iterate 3 exact rfl);exact ⟨by omega,by omega⟩)|(apply aj (d:=31);exact rfl;apply ba (j:=i+W);exact rfl;exact rfl;omega)|(apply aj (d:=70);exact rfl;apply ba (j:=i+W);exact rfl;exact rfl;omega)|(apply aa (d:=51);exact rfl;exact rfl;(intro w' hm;exact hA1 w'))|(apply aa (d:=76);exact rfl;exact rfl;(intro w' hm;exact hA2 w'))|(apply aa (f:=71);exact rfl;exact rfl;(intro w' hm;exact dE ⟨c1,r1⟩ w'))|(apply aj (d:=85);exact rfl;exact f4 _ _ ▸ iF rfl rfl)|(apply aj (d:=90);exact rfl;exact f4 _ _ ▸ iF rfl rfl)|(apply aj (d:=95);exact rfl;exact f5 _ _ ▸ iG rfl rfl)|(apply aj (d:=100);exact rfl;exact f5 _ _ ▸ iG rfl rfl)|(apply aj (d:=105);exact rfl;exact dC (a:=⟨c1,r1⟩) (b:=⟨c2,r2⟩) rfl rfl rfl)|refine sT ?_|refine sS ?_|refine sT2 ?_|refine sN ?_|refine sM fun _=> ?_|(refine sC ?_ ?_<;>intro hb<;>try omega)|fail)
          all_goals
            first
            |(exfalso;omega)
            |(exact absurd (by assumption) hT')
            |(exact absurd (by assumption) hF')
            |((refine cR ?_);exact ⟨rfl,dq,_,rfl⟩)
            |((refine cR ?_);exact ⟨rfl,rfl⟩)
            | ((refine cR ?_)
               refine ⟨rfl,?_⟩
               have hne: ¬ (c1=c2∧r1=r2):=fun h=>(by assumption:(⟨c1,r1⟩:Rf)≠⟨c2,r2⟩) (by rw [h.1,h.2])
               simp only [TokR,if_neg hne]
               rw [show i+(W+1+W2)=i+W+1+W2 by omega]
               rfl)
            | ((refine cR ?_)
               refine ⟨rfl,?_⟩
               have heq:c1=c2∧r1=r2:=by
                 have:(⟨c1,r1⟩:Rf)=⟨c2,r2⟩:=Classical.not_not.1 (by assumption)
                 cases this
                 exact ⟨rfl,rfl⟩
               simp only [TokR,if_pos heq]
               rw [show i+(W+1+W2)=i+W+1+W2 by omega]
               rfl)
        · rw [if_neg fun h=>hok h.2.2]
          rw [decide_eq_false hok] at hA2
          repeat' (first|(apply aa (f:=319);exact rfl;exact rfl;(intro w' hm;exact hW w'))|(apply aa (f:=208);exact rfl;exact rfl;(intro w' hm;exact hU w'))|(apply aj (d:=22);exact rfl;apply fW (lo:=i) (hi:=i+W);(iterate 3 exact rfl);exact ⟨by omega,by omega⟩)|(apply aj (d:=31);exact rfl;apply ba (j:=i+W);exact rfl;exact rfl;omega)|(apply aj (d:=70);exact rfl;apply ba (j:=i+W);exact rfl;exact rfl;omega)|(apply aa (d:=51);exact rfl;exact rfl;(intro w' hm;exact hA1 w'))|(apply aa (d:=76);exact rfl;exact rfl;(intro w' hm;exact hA2 w'))|(apply aa (f:=71);exact rfl;exact rfl;(intro w' hm;exact dE ⟨c1,r1⟩ w'))|(apply aj (d:=85);exact rfl;exact f4 _ _ ▸ iF rfl rfl)|(apply aj (d:=90);exact rfl;exact f4 _ _ ▸ iF rfl rfl)|(apply aj (d:=95);exact rfl;exact f5 _ _ ▸ iG rfl rfl)|(apply aj (d:=100);exact rfl;exact f5 _ _ ▸ iG rfl rfl)|(apply aj (d:=105);exact rfl;exact dC (a:=⟨c1,r1⟩) (b:=⟨c2,r2⟩) rfl rfl rfl)|refine sT ?_|refine sS ?_|refine sT2 ?_|refine sN ?_|refine sM fun _=> ?_|(refine sC ?_ ?_<;>intro hb<;>try omega)|fail)
          all_goals
            first
            |(exfalso;omega)
            |(exact absurd (by assumption) hT')
            |(exact absurd (by assumption) hF')
            |((refine cR ?_);exact ⟨rfl,dq,_,rfl⟩)
            |((refine cR ?_);exact ⟨rfl,rfl⟩)
            | ((refine cR ?_)
               refine ⟨rfl,?_⟩
               have hne: ¬ (c1=c2∧r1=r2):=fun h=>(by assumption:(⟨c1,r1⟩:Rf)≠⟨c2,r2⟩) (by rw [h.1,h.2])
               simp only [TokR,if_neg hne]
               rw [show i+(W+1+W2)=i+W+1+W2 by omega]
               rfl)
            | ((refine cR ?_)
               refine ⟨rfl,?_⟩
               have heq:c1=c2∧r1=r2:=by
                 have:(⟨c1,r1⟩:Rf)=⟨c2,r2⟩:=Classical.not_not.1 (by assumption)
                 cases this
                 exact ⟨rfl,rfl⟩
               simp only [TokR,if_pos heq]
               rw [show i+(W+1+W2)=i+W+1+W2 by omega]
               rfl)
      · rw [if_neg fun h=>hl2 h.2.1]
        rw [if_pos (by simpa using hl2)] at hA2
        repeat' (first|(apply aa (f:=319);exact rfl;exact rfl;(intro w' hm;exact hW w'))|(apply aa (f:=208);exact rfl;exact rfl;(intro w' hm;exact hU w'))|(apply aj (d:=22);exact rfl;apply fW (lo:=i) (hi:=i+W);(iterate 3 exact rfl);exact ⟨by omega,by omega⟩)|(apply aj (d:=31);exact rfl;apply ba (j:=i+W);exact rfl;exact rfl;omega)|(apply aj (d:=70);exact rfl;apply ba (j:=i+W);exact rfl;exact rfl;omega)|(apply aa (d:=51);exact rfl;exact rfl;(intro w' hm;exact hA1 w'))|(apply aa (d:=76);exact rfl;exact rfl;(intro w' hm;exact hA2 w'))|(apply aa (f:=71);exact rfl;exact rfl;(intro w' hm;exact dE ⟨c1,r1⟩ w'))|(apply aj (d:=85);exact rfl;exact f4 _ _ ▸ iF rfl rfl)|(apply aj (d:=90);exact rfl;exact f4 _ _ ▸ iF rfl rfl)|(apply aj (d:=95);exact rfl;exact f5 _ _ ▸ iG rfl rfl)|(apply aj (d:=100);exact rfl;exact f5 _ _ ▸ iG rfl rfl)|(apply aj (d:=105);exact rfl;exact dC (a:=⟨c1,r1⟩) (b:=⟨c2,r2⟩) rfl rfl rfl)|refine sT ?_|refine sS ?_|refine sT2 ?_|refine sN ?_|refine sM fun _=> ?_|(refine sC ?_ ?_<;>intro hb<;>try omega)|fail)
        all_goals
          first
          |(exfalso;omega)
          |(exact absurd (by assumption) hT')
          |(exact absurd (by assumption) hF')
          |((refine cR ?_);exact ⟨rfl,dq,_,rfl⟩)
          |((refine cR ?_);exact ⟨rfl,rfl⟩)
          | ((refine cR ?_)
             refine ⟨rfl,?_⟩
             have hne: ¬ (c1=c2∧r1=r2):=fun h=>(by assumption:(⟨c1,r1⟩:Rf)≠⟨c2,r2⟩) (by rw [h.1,h.2])
             simp only [TokR,if_neg hne]
             rw [show i+(W+1+W2)=i+W+1+W2 by omega]
             rfl)
          | ((refine cR ?_)
             refine ⟨rfl,?_⟩
             have heq:c1=c2∧r1=r2:=by
               have:(⟨c1,r1⟩:Rf)=⟨c2,r2⟩:=Classical.not_not.1 (by assumption)
               cases this
               exact ⟨rfl,rfl⟩
             simp only [TokR,if_pos heq]
             rw [show i+(W+1+W2)=i+W+1+W2 by omega]
             rfl)
    · rw [if_neg fun h=>h58 h.1]
      repeat' (first|(apply aa (f:=319);exact rfl;exact rfl;(intro w' hm;exact hW w'))|(apply aa (f:=208);exact rfl;exact rfl;(intro w' hm;exact hU w'))|(apply aj (d:=22);exact rfl;apply fW (lo:=i) (hi:=i+W);(iterate 3 exact rfl);exact ⟨by omega,by omega⟩)|(apply aj (d:=31);exact rfl;apply ba (j:=i+W);exact rfl;exact rfl;omega)|(apply aj (d:=70);exact rfl;apply ba (j:=i+W);exact rfl;exact rfl;omega)|(apply aa (d:=51);exact rfl;exact rfl;(intro w' hm;exact hA1 w'))|(apply aa (d:=76);exact rfl;exact rfl;(intro w' hm;exact hA2 w'))|(apply aa (f:=71);exact rfl;exact rfl;(intro w' hm;exact dE ⟨c1,r1⟩ w'))|(apply aj (d:=85);exact rfl;exact f4 _ _ ▸ iF rfl rfl)|(apply aj (d:=90);exact rfl;exact f4 _ _ ▸ iF rfl rfl)|(apply aj (d:=95);exact rfl;exact f5 _ _ ▸ iG rfl rfl)|(apply aj (d:=100);exact rfl;exact f5 _ _ ▸ iG rfl rfl)|(apply aj (d:=105);exact rfl;exact dC (a:=⟨c1,r1⟩) (b:=⟨c2,r2⟩) rfl rfl rfl)|refine sT ?_|refine sS ?_|refine sT2 ?_|refine sN ?_|refine sM fun _=> ?_|(refine sC ?_ ?_<;>intro hb<;>try omega)|fail)
      all_goals
        first
        |(exfalso;omega)
        |(exact absurd (by assumption) hT')
        |(exact absurd (by assumption) hF')
        |((refine cR ?_);exact ⟨rfl,dq,_,rfl⟩)
        |((refine cR ?_);exact ⟨rfl,rfl⟩)
        | ((refine cR ?_)
           refine ⟨rfl,?_⟩
           have hne: ¬ (c1=c2∧r1=r2):=fun h=>(by assumption:(⟨c1,r1⟩:Rf)≠⟨c2,r2⟩) (by rw [h.1,h.2])
           simp only [TokR,if_neg hne]
           rw [show i+(W+1+W2)=i+W+1+W2 by omega]
           rfl)
        | ((refine cR ?_)
           refine ⟨rfl,?_⟩
           have heq:c1=c2∧r1=r2:=by
             have:(⟨c1,r1⟩:Rf)=⟨c2,r2⟩:=Classical.not_not.1 (by assumption)
             cases this
             exact ⟨rfl,rfl⟩
           simp only [TokR,if_pos heq]
           rw [show i+(W+1+W2)=i+W+1+W2 by omega]
           rfl)
  · rw [if_pos he1]
    rw [decide_eq_false he1] at hA1
    repeat' (first|(apply aa (f:=319);exact rfl;exact rfl;(intro w' hm;exact hW w'))|(apply aa (f:=208);exact rfl;exact rfl;(intro w' hm;exact hU w'))|(apply aj (d:=22);exact rfl;apply fW (lo:=i) (hi:=i+W);(iterate 3 exact rfl);exact ⟨by omega,by omega⟩)|(apply aj (d:=31);exact rfl;apply ba (j:=i+W);exact rfl;exact rfl;omega)|(apply aj (d:=70);exact rfl;apply ba (j:=i+W);exact rfl;exact rfl;omega)|(apply aa (d:=51);exact rfl;exact rfl;(intro w' hm;exact hA1 w'))|(apply aa (d:=76);exact rfl;exact rfl;(intro w' hm;exact hA2 w'))|(apply aa (f:=71);exact rfl;exact rfl;(intro w' hm;exact dE ⟨c1,r1⟩ w'))|(apply aj (d:=85);exact rfl;exact f4 _ _ ▸ iF rfl rfl)|(apply aj (d:=90);exact rfl;exact f4 _ _ ▸ iF rfl rfl)|(apply aj (d:=95);exact rfl;exact f5 _ _ ▸ iG rfl rfl)|(apply aj (d:=100);exact rfl;exact f5 _ _ ▸ iG rfl rfl)|(apply aj (d:=105);exact rfl;exact dC (a:=⟨c1,r1⟩) (b:=⟨c2,r2⟩) rfl rfl rfl)|refine sT ?_|refine sS ?_|refine sT2 ?_|refine sN ?_|refine sM fun _=> ?_|(refine sC ?_ ?_<;>intro hb<;>try omega)|fail)
    all_goals
      first
      |(exfalso;omega)
      |(exact absurd (by assumption) hT')
      |(exact absurd (by assumption) hF')
      |((refine cR ?_);exact ⟨rfl,dq,_,rfl⟩)
      |((refine cR ?_);exact ⟨rfl,rfl⟩)
      | ((refine cR ?_)
         refine ⟨rfl,?_⟩
         have hne: ¬ (c1=c2∧r1=r2):=fun h=>(by assumption:(⟨c1,r1⟩:Rf)≠⟨c2,r2⟩) (by rw [h.1,h.2])
         simp only [TokR,if_neg hne]
         rw [show i+(W+1+W2)=i+W+1+W2 by omega]
         rfl)
      | ((refine cR ?_)
         refine ⟨rfl,?_⟩
         have heq:c1=c2∧r1=r2:=by
           have:(⟨c1,r1⟩:Rf)=⟨c2,r2⟩:=Classical.not_not.1 (by assumption)
           cases this
           exact ⟨rfl,rfl⟩
         simp only [TokR,if_pos heq]
         rw [show i+(W+1+W2)=i+W+1+W2 by omega]
         rfl)
def opB (k:Int):ByteArray:=
 if k=1 then ⟨#[43]⟩ else if k=2 then ⟨#[45]⟩ else if k=3 then ⟨#[42]⟩ else if k=4 then ⟨#[47]⟩ else if k=5 then ⟨#[94]⟩ else if k=6 then ⟨#[38]⟩ else if k=7 then ⟨#[61]⟩
 else if k=8 then ⟨#[60,62]⟩ else if k=9 then ⟨#[60]⟩ else if k=10 then ⟨#[60,61]⟩ else if k=11 then ⟨#[62]⟩ else if k=12 then ⟨#[62,61]⟩ else if k=13 then ⟨#[37]⟩ else ⟨#[]⟩
theorem vg (k:Int) (w:World):aF Tryz.prog 323 [.int .i64 k] w (.string (opB k)):=by
 refine aA Tryz.func323 rfl Tryz.ntmps323 rfl ?_
 repeat' (first|(refine rT1 ?_)|refine sT ?_|refine sS ?_|refine sT2 ?_|refine sM fun _=> ?_|(refine sC ?_ ?_<;>intro hb<;>try omega)|fail)
 all_goals
  unfold opB
  repeat (first|rw [if_pos (by assumption)]|rw [if_neg (by assumption)])
theorem zB (a:ByteArray) (ha:a.size≤256) (i:Nat) (hi:i≤a.size) (s:ByteArray) (hs:s.size≤1000) (w:World):aF Tryz.prog 322 [.string a,.int .i64 (i:Int),.string s] w (.bool (decide ((((ap a).drop i).take s.size).map upC=ap s))):=by
 refine aA Tryz.func322 rfl Tryz.ntmps322 rfl ?_
 have hl:=au a
 have hU:=fun h:i+s.size≤a.size=>fun w=>lf (sub a i (i+s.size)) (by rw [cD a h];omega) w
 repeat' (first|(apply aa (f:=208);exact rfl;exact rfl;(intro w' hm;exact hU (by omega) w'))|(apply aj (d:=21);exact rfl;apply fW (lo:=i) (hi:=i+s.size);(iterate 3 exact rfl);exact ⟨by omega,by omega⟩)|(refine rT1 ?_)|refine sT ?_|refine sS ?_|refine sT2 ?_|refine sN ?_|refine sM fun _=> ?_|(refine sC ?_ ?_<;>intro hb<;>try omega)|fail)
 ·
  have:(upB (sub a i (i+s.size))=s)=((((ap a).drop i).take s.size).map upC=ap s):=by
   rw [eq_iff_iff]
   constructor
   ·
    intro h
    rw [← h,qK,qo,h]
   ·
    intro h
    apply wg
    rw [qK,qo,h]
  simp only [this]
 ·
  rw [decide_eq_false]
  intro h
  have:=congrArg List.length h
  rw [Ps,Pr,Pp,hl,au] at this
  omega
end Go.SL
