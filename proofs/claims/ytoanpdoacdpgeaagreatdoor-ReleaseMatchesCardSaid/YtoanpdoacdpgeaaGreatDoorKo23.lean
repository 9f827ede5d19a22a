/-
  Lemmas and walks, put together: R7 If R8 Fo R9 R10.
-/
import Derived.Test.YtoanpdoacdpgeaaGreatDoorKo20
set_option linter.unusedSimpArgs false
set_option linter.unusedVariables false
set_option maxRecDepth 20000
namespace Go.SL
open Go Go.Proofs
attribute [local irreducible] W WL WQ WG WA WX WLI WR WT WC VOp RW thn blk bp scp aR ba bE aF FnIn FnP ceP
def TokR (i:Nat) (o:Option (Tk × Nat)) (v:Value):Prop:=match o with
 |some (t,n)=>v= .tuple #[.agg (bi { t with at_:=(i:Int) }).toArray,.int .i64 ((i+n:Nat):Int),.bool true]
 |none=> ∃ (t:Tk) (e:Int),v= .tuple #[.agg (bi t).toArray,.int .i64 e,.bool false]
theorem iw {p:Int→Bool} {a:ByteArray} {i:Nat} (h:i<a.size):aD p ((ap a).drop i)=if p (bat a i) then aD p ((ap a).drop (i+1))+1 else 0:=by
 rw [bk h,aD]
theorem Cp {p:Int→Bool} {l:List Int} {n:Nat} (h:n=aD p l) {c:Int} (hc:c∈l.take n):p c=true:=by
 obtain ⟨k,hk,rfl⟩:=SW hc
 rw [RF] at hk
 rw [List.getElem_take]
 exact j9 l k _ (by omega) (QV (by omega))
set_option maxHeartbeats 4000000 in
theorem zZ (a:ByteArray) (ha:a.size≤256) (i:Nat) (hi:i<a.size) (hdi:aG (bat a i)=true) (w:World):
    aF Tryz.prog 282 [.string a,.int .i64 (i:Int)] w fun v H=>H= []∧TokR i ((kS ((ap a).drop i)).map fun x=>(⟨1,x.1,av,aN,0⟩,x.2)) v:=by
  refine aq Tryz.func282 rfl Tryz.ntmps282 rfl ?_
  have hl:=au a
  have hm:cK=9223372036854775807:=rfl
  obtain ⟨W1,hW1⟩: ∃ W1,aD aG ((ap a).drop i)=W1:=⟨_,rfl⟩
  have hw0:W1≠0:=by rw [← hW1,iw hi,if_pos hdi];omega
  have hwl:i+W1≤a.size:=by
    have:=bY aG ((ap a).drop i)
    rw [RC] at this
    omega
  obtain ⟨p,hp⟩: ∃ p,bZ ((ap a).drop (i+W1))=p:=⟨_,rfl⟩
  have hnum:kS ((ap a).drop i)=if 4<p then none else if cK<bD (((ap a).drop i).take W1++((ap a).drop (i+W1+1)).take p++List.replicate (4 - p) 48) 0 then none else some (bD (((ap a).drop i).take W1++((ap a).drop (i+W1+1)).take p++List.replicate (4 - p) 48) 0,if p=0 then W1 else W1+1+p):=by
    unfold kS
    simp only [hW1,SH,hp]
    by_cases h4:4<p
    · rw [if_pos (.inr h4),if_pos h4]
    · rw [if_neg (by omega),if_neg h4]
      rfl
  rw [hnum]
  clear hnum
  have hD:=fun j w=>nJ a (by omega) j w
  repeat' (first|refine sT ?_|refine sS ?_|refine sT2 ?_|refine sM fun _=> ?_|(refine sC ?_ ?_<;>intro hb<;>try omega)|exact cT|fail)
  rename_i g4 g7
  refine aw [0,1,4,7] rfl (fun j:Nat=> [(8,.int .i64 ((i+j:Nat):Int))]) (fun _=> [.box g7 228 (bi ⟨1,0,av,aN,i⟩),.box g4 228 (bi dl)]) (fun j=>j≤W1∧W1=j+aD aG ((ap a).drop (i+j))) (fun j=>W1 - j) 0 ⟨by omega,by rw [Tj,hW1];omega⟩ sB mS ?_
  rintro j ⟨hj,hx⟩
  by_cases hjw:j<W1
  · have hji:i+j<a.size:=by omega
    have hdj:aG (bat a (i+j))=true:=by
      rw [iw hji] at hx
      split at hx
      · assumption
      · omega
    have hx2:W1=(j+1)+aD aG ((ap a).drop (i+(j+1))):=by
      rw [iw hji,if_pos hdj] at hx
      rw [← SA i j 1];omega
    have hDj:=fun w=>hD (i+j) w
    rw [hdj] at hDj
    repeat' (first|(apply aa (f:=281);exact rfl;exact rfl;(intro w' hm;exact hDj w'))|refine sT ?_|refine sS ?_|refine sT2 ?_|refine sN ?_|refine sM fun _=> ?_|(refine sC ?_ ?_<;>intro hb<;>try omega)|exact cT|fail)
    exact ⟨j+1,⟨hjw,hx2⟩,by omega,sB,sB,.refl _⟩
  have ejw:j=W1:=by omega
  subst ejw
  have hdj:aG (bat a (i+j))=false:=by
    by_cases hji:i+j<a.size
    · rw [iw hji] at hx
      split at hx
      · omega
      · rename_i h;simpa using h
    · rw [jn (by omega)];rfl
  have hDj:=fun w=>hD (i+j) w
  rw [hdj] at hDj
  have hDk:=fun w=>hD (i+j+1) w
  have hp1:i+j<a.size→bat a (i+j)=46→p=aD aG ((ap a).drop (i+j+1)):=fun h1 h2=>by
    rw [← hp,bk h1,h2];rfl
  have hp2:(i+j<a.size→bat a (i+j)≠46)→p=0:=fun h=>by
    rw [← hp]
    by_cases h1:i+j<a.size
    · rw [bk h1];exact mF (h h1)
    · rw [RE (by omega)];rfl
  have hp0:aG (bat a (i+j+1))=false→aD aG ((ap a).drop (i+j+1))=0:=fun h=>by
    by_cases h1:i+j+1<a.size
    · rw [iw h1,if_neg (by rw [h];simp)]
    · exact qW (by omega)
  have hpl:p≠0→i+j+1+p≤a.size:=fun h=>by
    by_cases h1:i+j<a.size∧bat a (i+j)=46
    · have:=hp1 h1.1 h1.2
      have h2:=bY aG ((ap a).drop (i+j+1))
      rw [RC] at h2
      omega
    · exact absurd (hp2 fun h3 h4=>h1 ⟨h3,h4⟩) h
  obtain ⟨E,hE⟩: ∃ E,(if p=0 then j else j+1+p)=E:=⟨_,rfl⟩
  repeat' (first|(apply aa (d:=20);exact rfl;exact rfl;(intro w' hm;exact hDj w'))|(apply ak (d:=26);exact rfl;apply fV (lo:=i) (hi:=i+j);(iterate 3 exact rfl);exact ⟨by omega,by omega⟩)|(refine zK (id:=6) (ι:=ByteArray) (fun pl=> [(0,.string a),(1,.int .i64 (i:Int)),(4,.pointer (some ⟨g4,0,none⟩)),(7,.pointer (some ⟨g7,0,none⟩)),(8,.int .i64 ((i+E:Nat):Int)),(9,.string (sub a i (i+j))),(10,.string pl)]) (fun _=> [.box g7 228 (bi ⟨1,0,av,aN,i⟩),.box g4 228 (bi dl)]) (fun pl=>ap pl=((ap a).drop (i+j+1)).take p) ?_ ?_)|(apply ak (d:=34);exact rfl;apply bf (j:=i+j);exact rfl;exact rfl;omega)|(apply aa (d:=41);exact rfl;exact rfl;(intro w' hm;exact hDk w'))|refine sT ?_|refine sS ?_|refine sT2 ?_|refine sN ?_|refine sM fun _=> ?_|(refine sC ?_ ?_<;>intro hb<;>try omega)|exact cT|fail)
  · -- the places
    have hdd:aG (bat a (i+j+1))=true:=by assumption
    have e46:bat a (i+j)=46:=by assumption
    have hpp:=hp1 (by omega) e46
    have hp0' :p≠0:=by
      rw [hpp]
      by_cases h1:i+j+1<a.size
      · rw [iw h1,if_pos hdd];omega
      · rw [jn (by omega)] at hdd;simp [aG] at hdd
    rw [if_neg hp0'] at hE
    subst hE
    refine aw [0,1,4,7,9,10,11] rfl (fun k:Nat=> [(8,.int .i64 ((i+j+1+k:Nat):Int))]) (fun _=> [.box g7 228 (bi ⟨1,0,av,aN,i⟩),.box g4 228 (bi dl)]) (fun k=>k≤p∧p=k+aD aG ((ap a).drop (i+j+1+k))) (fun k=>p - k) 0 ⟨by omega,by rw [Tj,Rt];exact hpp⟩ sB mS ?_
    rintro k ⟨hk,hkx⟩
    have hpl' :=hpl hp0'
    by_cases hkp:k<p
    · have hki:i+j+1+k<a.size:=by omega
      have hdk:aG (bat a (i+j+1+k))=true:=by
        rw [iw hki] at hkx
        split at hkx
        · assumption
        · omega
      have hkx2:p=(k+1)+aD aG ((ap a).drop (i+j+1+(k+1))):=by
        rw [iw hki,if_pos hdk] at hkx
        rw [← SA _ k 1];omega
      have hDl:=fun w=>hD (i+j+1+k) w
      rw [hdk] at hDl
      repeat' (first|(apply aa (d:=48);exact rfl;exact rfl;(intro w' hm;exact hDl w'))|refine sT ?_|refine sS ?_|refine sT2 ?_|refine sN ?_|refine sM fun _=> ?_|(refine sC ?_ ?_<;>intro hb<;>try omega)|exact cT|fail)
      exact ⟨k+1,⟨hkp,hkx2⟩,by omega,sB,sB,.refl _⟩
    have ekp:k=p:=by omega
    subst ekp
    have hdk:aG (bat a (i+j+1+k))=false:=by
      by_cases hki:i+j+1+k<a.size
      · rw [iw hki] at hkx
        split at hkx
        · omega
        · rename_i h;simpa using h
      · rw [jn (by omega)];rfl
    have hDl:=fun w=>hD (i+j+1+k) w
    rw [hdk] at hDl
    have es:ap (sub a (i+j+1) (i+j+1+k))=((ap a).drop (i+j+1)).take k:=by
      rw [eM];congr 1;omega
    rw [show i+(j+1+k)=i+j+1+k by omega]
    repeat' (first|(apply aa (d:=48);exact rfl;exact rfl;(intro w' hm;exact hDl w'))|(apply ak (d:=54);exact rfl;apply fV (lo:=i+j+1) (hi:=i+j+1+k);(iterate 3 exact rfl);exact ⟨by omega,by omega⟩)|refine sT ?_|refine sS ?_|refine sT2 ?_|refine sN ?_|refine sM fun _=> ?_|(refine sC ?_ ?_<;>intro hb<;>try omega)|exact cT|fail)
    refine cG (sub a (i+j+1) (i+j+1+k)) es sB mS
  · -- a dot without a digit
    have hdd:aG (bat a (i+j+1))=false:=by assumption
    have hpp:=(hp1 (by omega) (by assumption)).trans (hp0 hdd)
    rw [if_pos hpp] at hE
    subst hE hpp
    refine cG av rfl sB mS
  · have hpp:=hp2 (fun _=>by assumption)
    rw [if_pos hpp] at hE
    subst hE hpp
    refine cG av rfl sB mS
  · have hpp:=hp2 (fun h=>by omega)
    rw [if_pos hpp] at hE
    subst hE hpp
    refine cG av rfl sB mS
  rintro pl hpl2
  have hps:pl.size=p:=by
    rw [← au,hpl2,RF,RC,hl]
    by_cases h:p=0
    · omega
    · have:=hpl h;omega
  clear hp1 hp2 hp0 hD hDj hDk
  by_cases h4:4<p
  · rw [if_pos h4]
    repeat' (first|refine sT ?_|refine sS ?_|refine sT2 ?_|refine sN ?_|refine sM fun _=> ?_|(refine sC ?_ ?_<;>intro hb<;>try omega)|exact cT|fail)
    all_goals first
      |(exfalso;omega)
      |(refine fY (.inl rfl) rfl rfl pK rfl rfl rfl (MSub.nil _) ?_;exact ⟨rfl,⟨1,0,av,aN,i⟩,_,rfl⟩)
  rw [if_neg h4]
  repeat' (first|refine sT ?_|refine sS ?_|refine sT2 ?_|refine sN ?_|refine sM fun _=> ?_|(refine sC ?_ ?_<;>intro hb<;>try omega)|exact cT|fail)
  all_goals try (exfalso;omega)
  refine aw [0,1,4,7,8,9] rfl (fun q:ByteArray × Nat=> [(10,.string q.1)]) (fun _=> [.box g7 228 (bi ⟨1,0,av,aN,i⟩),.box g4 228 (bi dl)]) (fun q=>ap q.1=((ap a).drop (i+j+1)).take p++List.replicate q.2 48∧p+q.2≤4∧q.1.size=p+q.2) (fun q=>4 - q.2) (pl,0) ⟨by rw [hpl2];simp,by dsimp only;omega,hps⟩ sB mS ?_
  rintro ⟨q,z⟩ ⟨hq1,hq2,hq3⟩
  dsimp only at hq1 hq2 hq3 ⊢
  by_cases hz:p+z<4
  · obtain ⟨B,hB⟩: ∃ B,B=q++({ data:= #[48] }:ByteArray):=⟨_,rfl⟩
    have hB1:ap B=((ap a).drop (i+j+1)).take p++List.replicate (z+1) 48:=by
      rw [hB,gY,hq1,List.replicate_succ',Rz];rfl
    have hB2:B.size=p+(z+1):=by
      rw [hB,Tm,hq3];rfl
    repeat' (first|(apply ak (d:=63);exact rfl;apply jV (c:=B);exact rfl;exact rfl;exact hB.symm;(simp only [hq3];have:({ data:= #[48] }:ByteArray).size=1:=rfl;omega))|refine sT ?_|refine sS ?_|refine sT2 ?_|refine sN ?_|refine sM fun _=> ?_|(refine sC ?_ ?_<;>intro hb<;>try omega)|exact cT|fail)
    all_goals first
      |(exfalso;omega)
      |exact ⟨(B,z+1),⟨hB1,by dsimp only;omega,hB2⟩,by dsimp only;omega,sB,sB,.refl _⟩
  have ez:z=4 - p:=by omega
  subst ez
  obtain ⟨X,hX⟩: ∃ X,X=sub a i (i+j)++q:=⟨_,rfl⟩
  obtain ⟨D,hD⟩: ∃ D,D=((ap a).drop i).take j++((ap a).drop (i+j+1)).take p++List.replicate (4 - p) 48:=⟨_,rfl⟩
  have hXD:ap X=D:=by
    rw [hX,gY,eM,hq1,hD,← Rz]
    congr 3;omega
  rw [← hD]
  have hsz1:(sub a i (i+j)).size=j:=by rw [cw a (by omega)];omega
  have hXs:X.size=j+4:=by rw [hX,Tm,hsz1,hq3];omega
  have hDl:D.length=j+4:=by rw [← hXD,au,hXs]
  have hdig: ∀ (k:Nat) c,D[k]? =some c→48≤c∧c≤57:=fun k c hk=>by
    have hc:=TD hk
    rw [hD,Ru,Ru] at hc
    refine (fg c).1 ?_
    rcases hc with (hc|hc)|hc
    · exact Cp hW1.symm hc
    · by_cases h0:p=0
      · rw [h0] at hc;simp at hc
      · obtain ⟨r,hr,hr2⟩:=nS (l:=(ap a).drop (i+j)) (by rw [hp];exact h0)
        rw [hp] at hr2
        have:(ap a).drop (i+j+1)=r:=by rw [← SH,hr];rfl
        rw [this] at hc
        exact Cp hr2 hc
    · rw [List.eq_of_mem_replicate hc];rfl
  repeat' (first|(apply ak (d:=66);exact rfl;apply jV (c:=X);exact rfl;exact rfl;exact hX.symm;omega)|refine sT ?_|refine sS ?_|refine sT2 ?_|refine sN ?_|refine sM fun _=> ?_|(refine sC ?_ ?_<;>intro hb<;>try omega)|exact cT|fail)
  all_goals try (exfalso;omega)
  have hge:=pN hdig
  refine aw [0,1,4,7,8,12] rfl (fun k:Nat=> [(13,.int .i64 (k:Int))]) (fun k=> [.box g7 228 (bi ⟨1,bD (D.take k) 0,av,aN,i⟩),.box g4 228 (bi dl)]) (fun k=>k≤j+4∧bD (D.take k) 0≤cK) (fun k=>j+4 - k) 0 ⟨by omega,by rw [Sj];decide⟩ sB mS ?_
  rintro k ⟨hk1,hk2⟩
  have hgk:=hge k
  by_cases hkl:k<j+4
  · obtain ⟨c,hc⟩: ∃ c,D[k]? =some c:=⟨_,QV (by omega)⟩
    have hcd:=hdig k c hc
    have hbc:bat X k=c:=by
      have:=gL (a:=X) (i:=k) (by omega)
      rw [hXD,hc] at this
      exact (Option.some.inj this).symm
    have hnx:=wG hc
    have hgk1:=hge (k+1)
    obtain ⟨V,hV⟩: ∃ V,bD (D.take k) 0=V:=⟨_,rfl⟩
    rw [hV] at hk2 hgk hnx ⊢
    have hq10:IntKind.i64.wrap ((9223372036854775807 - (c - 48)).tdiv 10)=(9223372036854775807 - (c - 48)) / 10:=by
      rw [Ui (by omega)]
      exact I64.wrap ⟨by omega,by omega⟩
    rw [show bi ⟨1,V,av,aN,i⟩= [.int .u8 1,.int .i64 V,.string av,.int .i64 0,.int .i64 0,.int .i64 0,.int .i64 0,.int .i64 (i:Int)] from rfl]
    repeat' (first|(apply ak (d:=75);exact rfl;apply bf (j:=k);exact rfl;exact rfl;omega)|(rw [hbc])|(apply ak (d:=76);exact rfl;apply dP (c:=c - 48);exact rfl;exact rfl;(exact wrap_u8 (by omega) (by omega)))|(apply ak (d:=77);exact rfl;apply bU (c:=c - 48);exact rfl;exact I64.wrap ⟨by omega,by omega⟩)|(apply ak (d:=81);exact rfl;apply Kv;exact rfl;exact rfl;exact ⟨by omega,by omega⟩)|(apply ak (d:=82);exact rfl;apply ni;exact rfl;exact rfl;exact (by decide);exact hq10)|(apply ak (d:=87);exact rfl;apply yC;exact rfl;exact rfl;exact ⟨by omega,by omega⟩)|(apply ak (d:=89);exact rfl;apply lI;exact rfl;exact rfl;exact ⟨by omega,by omega⟩)|refine sT ?_|refine sS ?_|refine sT2 ?_|refine sN ?_|refine sM fun _=> ?_|(refine sC ?_ ?_<;>intro hb<;>try omega)|exact cT|fail)
    all_goals first
      |(rw [if_pos (show cK<bD D 0 by omega)];refine fY (.inl rfl) rfl rfl pK rfl rfl rfl (MSub.nil _) ?_;exact ⟨rfl,⟨1,V,av,aN,i⟩,_,rfl⟩)
      | (have hle : 10 * V + (c - 48) ≤ cK := (by omega)
         rw [← hnx] at hle
         refine ⟨k+1,⟨by omega,hle⟩,by omega,sB,sB,?_⟩
         rw [hnx]
         exact mS)
  · have ek:k=j+4:=by omega
    subst ek
    rw [Sg (by omega)] at hk2 hgk ⊢
    repeat' (first|refine sT ?_|refine sS ?_|refine sT2 ?_|refine sN ?_|refine sM fun _=> ?_|(refine sC ?_ ?_<;>intro hb<;>try omega)|exact cT|fail)
    all_goals first
      |(exfalso;omega)
      |(rw [if_neg (by omega),hE];refine fY (.inl rfl) rfl rfl pK rfl rfl rfl (MSub.nil _) ?_;exact ⟨rfl,rfl⟩)
end Go.SL
namespace Go.SL
open Go Go.Proofs
attribute [local irreducible] W WL WQ WG WA WX WLI WR WT WC WE VOp RW thn blk bp scp aR ba bE aF FnIn FnP ceP
structure Bk where
 users:Int
 ents:List Et
 rules:List Rl
 grants:List Gn
 log:List Ev
 rels:List Rv
 step:Int
structure Bv where
 ae:Option Addr
 ar:Option Addr
 ag:Option Addr
 al:Option Addr
 as_:Option Addr
 ce:Nat
 cr:Nat
 cg:Nat
 cl:Nat
 cs:Nat
def aY (b:Bk) (x:Bv):List Value:= [.int .i64 b.users,.slice x.ae b.ents.length x.ce,.slice x.ar b.rules.length x.cr,.slice x.ag b.grants.length x.cg,.slice x.al b.log.length x.cl,.slice x.as_ b.rels.length x.cs,.int .i64 b.step]
structure BRd (w:World) (b:Bk) (x:Bv):Prop where
 e:Reads w (.slice x.ae b.ents.length x.ce) b.ents.length (b.ents.flatMap cF)
 r:Reads w (.slice x.ar b.rules.length x.cr) b.rules.length (b.rules.flatMap bM)
 g:Reads w (.slice x.ag b.grants.length x.cg) b.grants.length (b.grants.flatMap bX)
 l:Reads w (.slice x.al b.log.length x.cl) b.log.length (b.log.flatMap dK)
 s:Reads w (.slice x.as_ b.rels.length x.cs) b.rels.length (b.rels.flatMap aJ)
theorem BRd.of_w0 {w w' :World} {b:Bk} {x:Bv} {H:List Blk} (h:BRd w b x) (hm:Mem w w' H):BRd w' b x:=⟨h.e.of_w0 hm,h.r.of_w0 hm,h.g.of_w0 hm,h.l.of_w0 hm,h.s.of_w0 hm⟩
def pS (s:Int) (L:List Ev):Bool:=if 0<L.length then decide (s≤((L[L.length - 1]?).map Ev.step).getD 0) else false
def pR (s:Int) (L:List Rv):Bool:=if 0<L.length then decide (s≤((L[L.length - 1]?).map Rv.step).getD 0) else false
def bkE (b:Bk):Int:=
 if b.users<1∨64<b.users then 2
 else if (dM b.ents).2≠0 then (dM b.ents).2
 else if (eP b.users b.rules).2≠0 then (eP b.users b.rules).2
 else if (i9 b.users b.grants).2≠0 then (i9 b.users b.grants).2
 else if tI b.users b.log b.rels≠0 then tI b.users b.log b.rels
 else if b.step<0∨1099511627776<b.step then 2
 else if pS b.step b.log=true then 2
 else if pR b.step b.rels=true then 2 else 0
theorem Rv.ro1 {w:World} {g o:Nat} {r:Rv} (h:Ro w g o (aJ r)):Ro w g o [.int .i64 r.step]:=h.take (k:=1)
set_option maxHeartbeats 16000000 in
theorem qF (b:Bk) (x:Bv) (w:World) (h:BRd w b x) (hW:Words w) (hlen:b.ents.length≤1000000):aA Tryz.prog 15 [.agg (aY b x).toArray] w (.int .i64 (bkE b)):=by
 have hent:=fun (w' :World) (H:List Blk) (hm:Mem w w' H)=>pW b.ents _ w' (h.e.of_w0 hm) hlen (hW.next hm)
 have hacl:=fun (w' :World) (H:List Blk) (hm:Mem w w' H)=>lc b.users b.rules _ w' (h.r.of_w0 hm)
 have hgnt:=fun (w' :World) (H:List Blk) (hm:Mem w w' H)=>um b.users b.grants _ w' (h.g.of_w0 hm)
 have haud:=fun (w' :World) (H:List Blk) (hm:Mem w w' H)=>D6 b.users b.log b.rels _ _ w' (h.l.of_w0 hm) (h.s.of_w0 hm)
 refine aq Tryz.func15 rfl Tryz.ntmps15 rfl ?_
 unfold bkE
 obtain ⟨Al,cl,el,hl1,hl2,hl3⟩:=h.l
 obtain ⟨Am,cm,em,hm1,hm2,hm3⟩:=h.s
 have hl3' :0<b.log.length→ ∃ g o,x.al=some ⟨g,o,none⟩∧Ro w g o (b.log.flatMap dK):=by
  cases el
  exact hl3
 have hm3' :0<b.rels.length→ ∃ g o,x.as_=some ⟨g,o,none⟩∧Ro w g o (b.rels.flatMap aJ):=by
  cases em
  exact hm3
 have hLm:b.log.length≤maxLen:=RB hl1 hl2
 have hMm:b.rels.length≤maxLen:=RB hm1 hm2
 clear hl1 hl2 hl3 hm1 hm2 hm3 el em
 generalize dM b.ents=ce at hent ⊢
 generalize eP b.users b.rules=ae at hacl ⊢
 generalize i9 b.users b.grants=ge at hgnt ⊢
 generalize tI b.users b.log b.rels=ue at haud ⊢
 obtain ⟨us,E,RU,G,L,M,st⟩:=b
 obtain ⟨ae1,ar1,ag1,al1,as1,ce1,cr1,cg1,cl1,cs1⟩:=x
 dsimp only at*
 simp only [aY] at*
 have hL:(L.length=0∧pS st L=false)∨(0<L.length∧ ∃ g o s,al1=some ⟨g,o,none⟩∧Ro w g (o+(L.length - 1)*9) [.int .i64 s]∧pS st L=decide (st≤s)):=by
  rcases Sx L.length with h0|hp
  ·
   exact .inl ⟨h0,by unfold pS;rw [if_neg (by omega)]⟩
  ·
   obtain ⟨g,o,e,hr⟩:=hl3' hp
   have hlt:L.length - 1<L.length:=by omega
   exact .inr ⟨hp,g,o,L[L.length - 1].step,e,(Ev.ro (hr.elem fS (L.length - 1) hlt)).1,by unfold pS;rw [if_pos hp,QV hlt];rfl⟩
 have hM:(M.length=0∧pR st M=false)∨(0<M.length∧ ∃ g o s,as1=some ⟨g,o,none⟩∧Ro w g (o+(M.length - 1)*11) [.int .i64 s]∧pR st M=decide (st≤s)):=by
  rcases Sx M.length with h0|hp
  ·
   exact .inl ⟨h0,by unfold pR;rw [if_neg (by omega)]⟩
  ·
   obtain ⟨g,o,e,hr⟩:=hm3' hp
   have hlt:M.length - 1<M.length:=by omega
   exact .inr ⟨hp,g,o,M[M.length - 1].step,e,Rv.ro1 (hr.elem cQ (M.length - 1) hlt),by unfold pR;rw [if_pos hp,QV hlt];rfl⟩
 generalize pS st L=le at hL ⊢
 generalize pR st M=lr at hM ⊢
 clear hl3' hm3'
 generalize L.length=nl at*
 generalize M.length=nm at*
 generalize E.length=nE at*
 generalize RU.length=nR at*
 generalize G.length=nG at*
 rcases hL with ⟨hL,rfl⟩|⟨hL,g1,o1,s1,rfl,hr1,rfl⟩<;>rcases hM with ⟨hM,rfl⟩|⟨hM,g2,o2,s2,rfl,hr2,rfl⟩
 all_goals
  repeat' (first|(apply aa (f:=59);exact rfl;exact rfl;(intro w' hm;exact hent w' _ hm))|(apply aa (f:=60);exact rfl;exact rfl;(intro w' hm;exact hacl w' _ hm))|(apply aa (f:=61);exact rfl;exact rfl;(intro w' hm;exact hgnt w' _ hm))|(apply aa (f:=62);exact rfl;exact rfl;(intro w' hm;exact haud w' _ hm))|(apply aK;exact rfl;apply eC;exact rfl;exact rfl;omega;(simp only [maxLen] at*;omega))|(apply aK;exact rfl;apply aj (j:=nl - 1);exact rfl;exact rfl;omega)|(apply aK;exact rfl;apply aj (j:=nm - 1);exact rfl;exact rfl;omega)|refine sT ?_|refine sS ?_|refine sQ ?_|refine sN ?_|refine sNQ ?_|refine sO ?_|refine sOQ ?_|refine sD ?_|refine sM fun _=> ?_|(refine sC ?_ ?_<;>intro hb<;>try omega)|(refine sCQ ?_ ?_<;>intro hb<;>try omega)|fail)
 all_goals first
  |(exfalso;omega)
  |((refine rT1 ?_);simp_all;done)
  |((refine rT1 ?_);simp_all;omega)
end Go.SL
namespace Go.SL
open Go Go.Proofs
attribute [local irreducible] W WL WQ WG WA WX WLI WR WT WC VOp RW thn blk bp scp aR ba bE aF FnIn FnP ceP
theorem rZ {a:ByteArray} {i:Nat} (h:a.size≤i):(ap a).drop i= []:=RE (by rw [au];exact h)
set_option maxHeartbeats 2000000 in
theorem Fh (a:ByteArray) (ha:a.size≤256) (i:Nat) (hi:i<a.size) (w:World):
  aF Tryz.prog 283 [.string a,.int .i64 (i:Int)] w fun v H=>H= []∧TokR i ((kH ((ap a).drop (i+1))).map fun x=>(⟨2,0,mkB x.1,aN,0⟩,x.2+1)) v:=by
 refine aq Tryz.func283 rfl Tryz.ntmps283 rfl ?_
 have hl:=au a
 obtain ⟨X,hX⟩: ∃ X,kH ((ap a).drop (i+1))=X:=⟨_,rfl⟩
 rw [hX]
 repeat' (first|refine sT ?_|refine sS ?_|refine sT2 ?_|refine sN ?_|refine sM fun _=> ?_|(refine sC ?_ ?_<;>intro hb<;>try omega)|fail)
 rename_i g4 g7
 refine aw [0,1,4,7] rfl (fun x:Nat × ByteArray=> [(8,.int .i64 (x.1:Int))]) (fun x=> [.box g7 228 (bi ⟨2,0,x.2,aN,i⟩),.box g4 228 (bi dl)]) (fun x=>i+1≤x.1∧x.1≤a.size∧x.2.size≤x.1∧X=(kH ((ap a).drop x.1)).map fun y=>(ap x.2++y.1,y.2+(x.1 - (i+1)))) (fun x=>a.size - x.1) (i+1,av) ⟨Re _,hi,Rd _,by rw [hX];cases X<;>simp [wV]⟩ sB mS ?_
 rintro ⟨k,T⟩ ⟨hk1,hk2,hT,hXk⟩
 dsimp only at hk1 hk2 hT hXk ⊢
 rw [show bi ⟨2,0,T,aN,i⟩= [.int .u8 2,.int .i64 0,.string T,.int .i64 0,.int .i64 0,.int .i64 0,.int .i64 0,.int .i64 (i:Int)] from rfl]
 by_cases hend:k=a.size
 ·
  subst hend
  rw [rZ (Re _)] at hXk
  simp only [kH,Un] at hXk
  subst hXk
  repeat' (first|refine sT ?_|refine sS ?_|refine sT2 ?_|refine sN ?_|refine sM fun _=> ?_|(refine sC ?_ ?_<;>intro hb<;>try omega)|fail)
  all_goals first
   |(exfalso;omega)
   |((refine cL ?_);exact ⟨rfl,⟨2,0,T,aN,i⟩,_,rfl⟩)
 have hlt:k<a.size:=by omega
 rw [bk hlt,kH.eq_def] at hXk
 dsimp only at hXk
 obtain ⟨T1,hT1⟩: ∃ T1,T1=T++sub a k (k+1):=⟨_,rfl⟩
 obtain ⟨T2,hT2⟩: ∃ T2,T2=T++({ data:= #[34] }:ByteArray):=⟨_,rfl⟩
 have hs1:(sub a k (k+1)).size=1:=by rw [cw a (by omega)];omega
 have hs2:({ data:= #[34] }:ByteArray).size=1:=rfl
 have hT1s:T1.size=T.size+1:=by rw [hT1,Tm,hs1]
 have hT2s:T2.size=T.size+1:=by rw [hT2,Tm,hs2]
 have hT1i:ap T1=ap T++ [bat a k]:=by rw [hT1,gY,eM,bk hlt,show k+1 - k=1 by omega];rfl
 have hT2i:ap T2=ap T++ [34]:=by rw [hT2,gY];rfl
 repeat' (first|(refine ia (id:=6) [9] [1] [Blk.box g4 228 (bi dl)] (by kernel_rfl) (by kernel_rfl) (by kernel_rfl) mS ?_)|(apply ak;exact rfl;apply bf (j:=k);exact rfl;exact rfl;omega)|(apply ak;exact rfl;apply bf (j:=k+1);exact rfl;exact rfl;omega)|(apply dm (d:=29);(iterate 3 exact rfl);apply fV (lo:=k) (hi:=k+1);(iterate 3 exact rfl);exact ⟨by omega,by omega⟩)|(apply dm (d:=30);(iterate 3 exact rfl);apply jV (c:=T1);exact rfl;exact rfl;exact hT1.symm;omega)|(apply ak (d:=46);exact rfl;apply jV (c:=T2);exact rfl;exact rfl;exact hT2.symm;omega)|refine sT ?_|refine sS ?_|refine sW ?_|refine sT2 ?_|refine sW2 ?_|refine sN ?_|refine sWN ?_|refine sM fun _=> ?_|(refine sC ?_ ?_<;>intro hb<;>try omega)|(refine sCW ?_ ?_<;>intro hb<;>try omega)|fail)
 ·
  rw [if_pos (by assumption),TT] at hXk
  refine ⟨(k+1,T1),⟨by dsimp only;omega,hlt,by dsimp only;omega,?_⟩,by dsimp only;omega,sB,sB,by exact mS⟩
  rw [hXk]
  congr 1
  funext y
  simp only [Function.comp,hT1i,Rz,List.singleton_append]
  congr 1
  omega
 ·
  have h34:bat a (k+1)=34:=by assumption
  rw [if_neg (by assumption),bk (by omega),h34] at hXk
  simp only [if_true,TT] at hXk
  refine ⟨(k+1+1,T2),⟨by dsimp only;omega,by dsimp only;omega,by dsimp only;omega,?_⟩,by dsimp only;omega,sB,sB,by exact mS⟩
  rw [hXk]
  congr 1
  funext y
  simp only [Function.comp,hT2i,Rz,List.singleton_append]
  congr 1
  omega
 ·
  have h34: ¬ bat a (k+1)=34:=by assumption
  rw [if_neg (by assumption),bk (by omega)] at hXk
  simp only [if_neg h34,Sm,QZ] at hXk
  subst hXk
  (refine cL ?_)
  refine ⟨rfl,?_⟩
  simp only [Sm,TokR,lU]
  rw [show i+(1+(k - (i+1))+1)=k+1 by omega]
  rfl
 ·
  rw [if_neg (by assumption),rZ (by omega)] at hXk
  simp only [Sm,QZ] at hXk
  subst hXk
  (refine cL ?_)
  refine ⟨rfl,?_⟩
  simp only [Sm,TokR,lU]
  rw [show i+(1+(k - (i+1))+1)=k+1 by omega]
  rfl
end Go.SL
namespace Go.SL
open Go Go.Proofs Go.ChangeShapes Go.WideShapes Go.ChangeAt Go.RowKit Go.Deep
section
variable {H:Type} {enc:TypeId × Value→H} {w:World} {base:Nat} {spare:Nat→Bool} {held:Bool}
theorem tM {P:Program} {e:TypeId} {d:DataW H} {n:Nat} (hn:n∈d.weights P e): ∀ {ds:List (DataW H)},d∈ds→n∈DataW.weightsAll P e ds
 | [],h=>by cases h
 |x::r,h=>by
  rw [DataW.weightsAll]
  rcases Rs.1 h with rfl|h
  ·
   exact SD _ hn
  ·
   exact SI _ (tM hn h)
theorem lJ {n:Nat} {c:Value} {x:DataW H × List MemPlace} (h:DataW.trod enc Tryz.prog w base spare held n 33 [c]=some x): ∃ a:BitVec 64,c=vS a:=by
 obtain ⟨a0,q0,_,w0⟩:=DataW.trod_int Tryz.underlying33 h
 simp only [List.cons.injEq,and_true] at q0
 have w1:0≤a0∧a0≤18446744073709551615:=by
  simp [Lit.wf] at w0
  exact w0
 refine ⟨BitVec.ofNat 64 a0.toNat,?_⟩
 subst q0
 unfold vS
 rw [BitVec.toNat_ofNat]
 congr 1
 omega
theorem zP {n:Nat} {c:Value} {x:DataW H × List MemPlace} (h:DataW.trod enc Tryz.prog w base spare held n 5 [c]=some x): ∃ a:Int,c= .int .u8 a:=by
 obtain ⟨a0,q0,_,w0⟩:=DataW.trod_int Tryz.underlying5 h
 simp only [List.cons.injEq,and_true] at q0
 exact ⟨a0,q0⟩
theorem KI {n:Nat} {c:Value} {x:DataW H × List MemPlace} (h:DataW.trod enc Tryz.prog w base spare held n 4 [c]=some x): ∃ a:Bool,c= .bool a:=by
 obtain ⟨a0,q0,_⟩:=DataW.trod_bool Tryz.underlying4 h
 simp only [List.cons.injEq,and_true] at q0
 exact ⟨a0,q0⟩
set_option maxRecDepth 100000 in
theorem BZ {fuel:Nat} {cs:List Value} {x:DataW H × List MemPlace} (h:DataW.trod enc Tryz.prog w base spare held fuel 52 cs=some x): ∃ v:Et,cs=cF v∧v.input.size∈x.1.weights Tryz.prog 52:=by
 obtain ⟨xs,n,_,rfl,hlen,hxl,hf⟩:=DataW.trod_struct Tryz.underlying52 h
 have eS:Tryz.prog.cellsOf 52=3:=by kernel_rfl
 have eI:Tryz.prog.cellsOf 50=2:=by kernel_rfl
 have eT:Tryz.prog.cellsOf 9=1:=by kernel_rfl
 rw [eS] at hlen
 match cs,hlen,xs,hxl with
 | [c0,c1,c2],_,[x0,x1],_=>
  have h0:DataW.trod enc Tryz.prog w base spare held n 50 ((([c0,c1,c2]:List Value).drop 0).take (Tryz.prog.cellsOf 50))=some x0:=hf 0 _ rfl
  rw [eI] at h0
  obtain ⟨a,q,wa⟩:=BX (cs:= [c0,c1]) h0
  simp only [aS,List.cons.injEq,and_true] at q
  obtain ⟨rfl,rfl⟩:=q
  have h2:DataW.trod enc Tryz.prog w base spare held n 9 ((([Value.int .i64 a.col,.int .i64 a.row,c2]:List Value).drop 2).take (Tryz.prog.cellsOf 9))=some x1:=hf 1 _ rfl
  rw [eT] at h2
  obtain ⟨a2,q2,q3,_⟩:=DataW.trod_string Tryz.underlying9 h2
  simp only [TJ,SG,Sl,Sj,List.cons.injEq,and_true] at q2
  subst q2
  subst q3
  refine ⟨⟨a,a2⟩,rfl,?_⟩
  simp [DataW.weights,Tryz.underlying52,DataW.weightsEach]
def OM (x:BitVec 64 × BitVec 64 × BitVec 64):List Value:= [vS x.1,vS x.2.1,vS x.2.2]
set_option maxRecDepth 100000 in
theorem BW {fuel:Nat} {cs:List Value} {x:DataW H × List MemPlace} (h:DataW.trod enc Tryz.prog w base spare held fuel 35 cs=some x): ∃ v:BitVec 64 × BitVec 64 × BitVec 64,cs=OM v:=by
 obtain ⟨xs,n,_,_,hlen,hxl,hf⟩:=DataW.trod_struct Tryz.underlying35 h
 have eS:Tryz.prog.cellsOf 35=3:=by kernel_rfl
 have e_s:Tryz.prog.cellsOf 33=1:=by kernel_rfl
 rw [eS] at hlen
 match cs,hlen,xs,hxl with
 | [c0,c1,c2],_,[x0,x1,x2],_=>
  have h0:DataW.trod enc Tryz.prog w base spare held n 33 ((([c0,c1,c2]:List Value).drop 0).take (Tryz.prog.cellsOf 33))=some x0:=hf 0 _ rfl
  rw [e_s] at h0
  obtain ⟨a0,rfl⟩:=lJ (c:=c0) h0
  have h1:DataW.trod enc Tryz.prog w base spare held n 33 ((([(vS a0:Value),c1,c2]:List Value).drop 1).take (Tryz.prog.cellsOf 33))=some x1:=hf 1 _ rfl
  rw [e_s] at h1
  obtain ⟨a1,rfl⟩:=lJ (c:=c1) h1
  have h2:DataW.trod enc Tryz.prog w base spare held n 33 ((([(vS a0:Value),(vS a1:Value),c2]:List Value).drop 2).take (Tryz.prog.cellsOf 33))=some x2:=hf 2 _ rfl
  rw [e_s] at h2
  obtain ⟨a2,rfl⟩:=lJ (c:=c2) h2
  exact ⟨⟨a0,a1,a2⟩,rfl⟩
set_option maxRecDepth 100000 in
theorem II {fuel:Nat} {cs:List Value} {x:DataW H × List MemPlace} (h:DataW.trod enc Tryz.prog w base spare held fuel 60 cs=some x): ∃ v:Cl,cs=rR v:=by
 obtain ⟨xs,n,_,_,hlen,hxl,hf⟩:=DataW.trod_struct Tryz.underlying60 h
 have eS:Tryz.prog.cellsOf 60=3:=by kernel_rfl
 have e_F:Tryz.prog.cellsOf 50=2:=by kernel_rfl
 have e_i:Tryz.prog.cellsOf 3=1:=by kernel_rfl
 rw [eS] at hlen
 match cs,hlen,xs,hxl with
 | [c0,c1,c2],_,[x0,x1],_=>
  have h0:DataW.trod enc Tryz.prog w base spare held n 50 ((([c0,c1,c2]:List Value).drop 0).take (Tryz.prog.cellsOf 50))=some x0:=hf 0 _ rfl
  rw [e_F] at h0
  obtain ⟨a0,q,_⟩:=BX (cs:= [c0,c1]) h0
  simp only [aS,List.cons.injEq,and_true] at q
  obtain ⟨rfl,rfl⟩:=q
  have h1:DataW.trod enc Tryz.prog w base spare held n 3 ((([(.int .i64 a0.col:Value),(.int .i64 a0.row:Value),c2]:List Value).drop 2).take (Tryz.prog.cellsOf 3))=some x1:=hf 1 _ rfl
  rw [e_i] at h1
  obtain ⟨a1,rfl,_⟩:=ig (c:=c2) h1
  exact ⟨⟨a0,a1⟩,rfl⟩
set_option maxRecDepth 100000 in
theorem IG {fuel:Nat} {cs:List Value} {x:DataW H × List MemPlace} (h:DataW.trod enc Tryz.prog w base spare held fuel 54 cs=some x): ∃ v:Rl,cs=bM v:=by
 obtain ⟨xs,n,_,_,hlen,hxl,hf⟩:=DataW.trod_struct Tryz.underlying54 h
 have eS:Tryz.prog.cellsOf 54=7:=by kernel_rfl
 have e_R:Tryz.prog.cellsOf 32=4:=by kernel_rfl
 have e_T:Tryz.prog.cellsOf 35=3:=by kernel_rfl
 rw [eS] at hlen
 match cs,hlen,xs,hxl with
 | [c0,c1,c2,c3,c4,c5,c6],_,[x0,x1],_=>
  have h0:DataW.trod enc Tryz.prog w base spare held n 32 ((([c0,c1,c2,c3,c4,c5,c6]:List Value).drop 0).take (Tryz.prog.cellsOf 32))=some x0:=hf 0 _ rfl
  rw [e_R] at h0
  obtain ⟨a0,q,_⟩:=oW (cs:= [c0,c1,c2,c3]) h0
  simp only [bL,List.cons.injEq,and_true] at q
  obtain ⟨rfl,rfl,rfl,rfl⟩:=q
  have h1:DataW.trod enc Tryz.prog w base spare held n 35 ((([(.int .i64 a0.c1:Value),(.int .i64 a0.r1:Value),(.int .i64 a0.c2:Value),(.int .i64 a0.r2:Value),c4,c5,c6]:List Value).drop 4).take (Tryz.prog.cellsOf 35))=some x1:=hf 1 _ rfl
  rw [e_T] at h1
  obtain ⟨a1,q⟩:=BW (cs:= [c4,c5,c6]) h1
  simp only [OM,List.cons.injEq,and_true] at q
  obtain ⟨rfl,rfl,rfl⟩:=q
  exact ⟨⟨a0,a1.1,a1.2.1,a1.2.2⟩,rfl⟩
set_option maxRecDepth 100000 in
theorem ET {fuel:Nat} {cs:List Value} {x:DataW H × List MemPlace} (h:DataW.trod enc Tryz.prog w base spare held fuel 56 cs=some x): ∃ v:Gn,cs=bX v:=by
 obtain ⟨xs,n,_,_,hlen,hxl,hf⟩:=DataW.trod_struct Tryz.underlying56 h
 have eS:Tryz.prog.cellsOf 56=8:=by kernel_rfl
 have e_R:Tryz.prog.cellsOf 32=4:=by kernel_rfl
 have e_b:Tryz.prog.cellsOf 4=1:=by kernel_rfl
 have e_c:Tryz.prog.cellsOf 5=1:=by kernel_rfl
 have e_i:Tryz.prog.cellsOf 3=1:=by kernel_rfl
 have e_s:Tryz.prog.cellsOf 33=1:=by kernel_rfl
 rw [eS] at hlen
 match cs,hlen,xs,hxl with
 | [c0,c1,c2,c3,c4,c5,c6,c7],_,[x0,x1,x2,x3,x4],_=>
  have h0:DataW.trod enc Tryz.prog w base spare held n 32 ((([c0,c1,c2,c3,c4,c5,c6,c7]:List Value).drop 0).take (Tryz.prog.cellsOf 32))=some x0:=hf 0 _ rfl
  rw [e_R] at h0
  obtain ⟨a0,q,_⟩:=oW (cs:= [c0,c1,c2,c3]) h0
  simp only [bL,List.cons.injEq,and_true] at q
  obtain ⟨rfl,rfl,rfl,rfl⟩:=q
  have h1:DataW.trod enc Tryz.prog w base spare held n 5 ((([(.int .i64 a0.c1:Value),(.int .i64 a0.r1:Value),(.int .i64 a0.c2:Value),(.int .i64 a0.r2:Value),c4,c5,c6,c7]:List Value).drop 4).take (Tryz.prog.cellsOf 5))=some x1:=hf 1 _ rfl
  rw [e_c] at h1
  obtain ⟨a1,rfl⟩:=zP (c:=c4) h1
  have h2:DataW.trod enc Tryz.prog w base spare held n 33 ((([(.int .i64 a0.c1:Value),(.int .i64 a0.r1:Value),(.int .i64 a0.c2:Value),(.int .i64 a0.r2:Value),(.int .u8 a1:Value),c5,c6,c7]:List Value).drop 5).take (Tryz.prog.cellsOf 33))=some x2:=hf 2 _ rfl
  rw [e_s] at h2
  obtain ⟨a2,rfl⟩:=lJ (c:=c5) h2
  have h3:DataW.trod enc Tryz.prog w base spare held n 3 ((([(.int .i64 a0.c1:Value),(.int .i64 a0.r1:Value),(.int .i64 a0.c2:Value),(.int .i64 a0.r2:Value),(.int .u8 a1:Value),(vS a2:Value),c6,c7]:List Value).drop 6).take (Tryz.prog.cellsOf 3))=some x3:=hf 3 _ rfl
  rw [e_i] at h3
  obtain ⟨a3,rfl,_⟩:=ig (c:=c6) h3
  have h4:DataW.trod enc Tryz.prog w base spare held n 4 ((([(.int .i64 a0.c1:Value),(.int .i64 a0.r1:Value),(.int .i64 a0.c2:Value),(.int .i64 a0.r2:Value),(.int .u8 a1:Value),(vS a2:Value),(.int .i64 a3:Value),c7]:List Value).drop 7).take (Tryz.prog.cellsOf 4))=some x4:=hf 4 _ rfl
  rw [e_b] at h4
  obtain ⟨a4,rfl⟩:=KI (c:=c7) h4
  exact ⟨⟨a0,a1,a2,a3,a4⟩,rfl⟩
set_option maxRecDepth 100000 in
theorem EU {fuel:Nat} {cs:List Value} {x:DataW H × List MemPlace} (h:DataW.trod enc Tryz.prog w base spare held fuel 58 cs=some x): ∃ v:Ev,cs=dK v:=by
 obtain ⟨xs,n,_,_,hlen,hxl,hf⟩:=DataW.trod_struct Tryz.underlying58 h
 have eS:Tryz.prog.cellsOf 58=9:=by kernel_rfl
 have e_R:Tryz.prog.cellsOf 32=4:=by kernel_rfl
 have e_b:Tryz.prog.cellsOf 4=1:=by kernel_rfl
 have e_c:Tryz.prog.cellsOf 5=1:=by kernel_rfl
 have e_i:Tryz.prog.cellsOf 3=1:=by kernel_rfl
 have e_s:Tryz.prog.cellsOf 33=1:=by kernel_rfl
 rw [eS] at hlen
 match cs,hlen,xs,hxl with
 | [c0,c1,c2,c3,c4,c5,c6,c7,c8],_,[x0,x1,x2,x3,x4,x5],_=>
  have h0:DataW.trod enc Tryz.prog w base spare held n 3 ((([c0,c1,c2,c3,c4,c5,c6,c7,c8]:List Value).drop 0).take (Tryz.prog.cellsOf 3))=some x0:=hf 0 _ rfl
  rw [e_i] at h0
  obtain ⟨a0,rfl,_⟩:=ig (c:=c0) h0
  have h1:DataW.trod enc Tryz.prog w base spare held n 3 ((([(.int .i64 a0:Value),c1,c2,c3,c4,c5,c6,c7,c8]:List Value).drop 1).take (Tryz.prog.cellsOf 3))=some x1:=hf 1 _ rfl
  rw [e_i] at h1
  obtain ⟨a1,rfl,_⟩:=ig (c:=c1) h1
  have h2:DataW.trod enc Tryz.prog w base spare held n 5 ((([(.int .i64 a0:Value),(.int .i64 a1:Value),c2,c3,c4,c5,c6,c7,c8]:List Value).drop 2).take (Tryz.prog.cellsOf 5))=some x2:=hf 2 _ rfl
  rw [e_c] at h2
  obtain ⟨a2,rfl⟩:=zP (c:=c2) h2
  have h3:DataW.trod enc Tryz.prog w base spare held n 32 ((([(.int .i64 a0:Value),(.int .i64 a1:Value),(.int .u8 a2:Value),c3,c4,c5,c6,c7,c8]:List Value).drop 3).take (Tryz.prog.cellsOf 32))=some x3:=hf 3 _ rfl
  rw [e_R] at h3
  obtain ⟨a3,q,_⟩:=oW (cs:= [c3,c4,c5,c6]) h3
  simp only [bL,List.cons.injEq,and_true] at q
  obtain ⟨rfl,rfl,rfl,rfl⟩:=q
  have h4:DataW.trod enc Tryz.prog w base spare held n 4 ((([(.int .i64 a0:Value),(.int .i64 a1:Value),(.int .u8 a2:Value),(.int .i64 a3.c1:Value),(.int .i64 a3.r1:Value),(.int .i64 a3.c2:Value),(.int .i64 a3.r2:Value),c7,c8]:List Value).drop 7).take (Tryz.prog.cellsOf 4))=some x4:=hf 4 _ rfl
  rw [e_b] at h4
  obtain ⟨a4,rfl⟩:=KI (c:=c7) h4
  have h5:DataW.trod enc Tryz.prog w base spare held n 33 ((([(.int .i64 a0:Value),(.int .i64 a1:Value),(.int .u8 a2:Value),(.int .i64 a3.c1:Value),(.int .i64 a3.r1:Value),(.int .i64 a3.c2:Value),(.int .i64 a3.r2:Value),(.bool a4:Value),c8]:List Value).drop 8).take (Tryz.prog.cellsOf 33))=some x5:=hf 5 _ rfl
  rw [e_s] at h5
  obtain ⟨a5,rfl⟩:=lJ (c:=c8) h5
  exact ⟨⟨a0,a1,a2,a3,a4,a5⟩,rfl⟩
set_option maxRecDepth 100000 in
theorem zQ {fuel:Nat} {cs:List Value} {x:DataW H × List MemPlace} (h:DataW.trod enc Tryz.prog w base spare held fuel 62 cs=some x): ∃ v:Rv,cs=aJ v:=by
 obtain ⟨xs,n,_,_,hlen,hxl,hf⟩:=DataW.trod_struct Tryz.underlying62 h
 have eS:Tryz.prog.cellsOf 62=11:=by kernel_rfl
 have e_C:Tryz.prog.cellsOf 60=3:=by kernel_rfl
 have e_R:Tryz.prog.cellsOf 32=4:=by kernel_rfl
 have e_c:Tryz.prog.cellsOf 5=1:=by kernel_rfl
 have e_i:Tryz.prog.cellsOf 3=1:=by kernel_rfl
 have e_s:Tryz.prog.cellsOf 33=1:=by kernel_rfl
 rw [eS] at hlen
 match cs,hlen,xs,hxl with
 | [c0,c1,c2,c3,c4,c5,c6,c7,c8,c9,c10],_,[x0,x1,x2,x3,x4,x5],_=>
  have h0:DataW.trod enc Tryz.prog w base spare held n 3 ((([c0,c1,c2,c3,c4,c5,c6,c7,c8,c9,c10]:List Value).drop 0).take (Tryz.prog.cellsOf 3))=some x0:=hf 0 _ rfl
  rw [e_i] at h0
  obtain ⟨a0,rfl,_⟩:=ig (c:=c0) h0
  have h1:DataW.trod enc Tryz.prog w base spare held n 60 ((([(.int .i64 a0:Value),c1,c2,c3,c4,c5,c6,c7,c8,c9,c10]:List Value).drop 1).take (Tryz.prog.cellsOf 60))=some x1:=hf 1 _ rfl
  rw [e_C] at h1
  obtain ⟨a1,q⟩:=II (cs:= [c1,c2,c3]) h1
  simp only [rR,List.cons.injEq,and_true] at q
  obtain ⟨rfl,rfl,rfl⟩:=q
  have h2:DataW.trod enc Tryz.prog w base spare held n 5 ((([(.int .i64 a0:Value),(.int .i64 a1.at_.col:Value),(.int .i64 a1.at_.row:Value),(.int .i64 a1.node:Value),c4,c5,c6,c7,c8,c9,c10]:List Value).drop 4).take (Tryz.prog.cellsOf 5))=some x2:=hf 2 _ rfl
  rw [e_c] at h2
  obtain ⟨a2,rfl⟩:=zP (c:=c4) h2
  have h3:DataW.trod enc Tryz.prog w base spare held n 32 ((([(.int .i64 a0:Value),(.int .i64 a1.at_.col:Value),(.int .i64 a1.at_.row:Value),(.int .i64 a1.node:Value),(.int .u8 a2:Value),c5,c6,c7,c8,c9,c10]:List Value).drop 5).take (Tryz.prog.cellsOf 32))=some x3:=hf 3 _ rfl
  rw [e_R] at h3
  obtain ⟨a3,q,_⟩:=oW (cs:= [c5,c6,c7,c8]) h3
  simp only [bL,List.cons.injEq,and_true] at q
  obtain ⟨rfl,rfl,rfl,rfl⟩:=q
  have h4:DataW.trod enc Tryz.prog w base spare held n 3 ((([(.int .i64 a0:Value),(.int .i64 a1.at_.col:Value),(.int .i64 a1.at_.row:Value),(.int .i64 a1.node:Value),(.int .u8 a2:Value),(.int .i64 a3.c1:Value),(.int .i64 a3.r1:Value),(.int .i64 a3.c2:Value),(.int .i64 a3.r2:Value),c9,c10]:List Value).drop 9).take (Tryz.prog.cellsOf 3))=some x4:=hf 4 _ rfl
  rw [e_i] at h4
  obtain ⟨a4,rfl,_⟩:=ig (c:=c9) h4
  have h5:DataW.trod enc Tryz.prog w base spare held n 33 ((([(.int .i64 a0:Value),(.int .i64 a1.at_.col:Value),(.int .i64 a1.at_.row:Value),(.int .i64 a1.node:Value),(.int .u8 a2:Value),(.int .i64 a3.c1:Value),(.int .i64 a3.r1:Value),(.int .i64 a3.c2:Value),(.int .i64 a3.r2:Value),(.int .i64 a4:Value),c10]:List Value).drop 10).take (Tryz.prog.cellsOf 33))=some x5:=hf 5 _ rfl
  rw [e_s] at h5
  obtain ⟨a5,rfl⟩:=lJ (c:=c10) h5
  exact ⟨⟨a0,a1,a2,a3,a4,a5⟩,rfl⟩
instance:Inhabited Rl:=⟨⟨⟨0,0,0,0⟩,0#64,0#64,0#64⟩⟩
instance:Inhabited Gn:=⟨⟨⟨0,0,0,0⟩,0,0#64,0,false⟩⟩
instance:Inhabited Ev:=⟨⟨0,0,0,⟨0,0,0,0⟩,false,0#64⟩⟩
instance:Inhabited Rv:=⟨⟨0,⟨⟨0,0⟩,0⟩,0,⟨0,0,0,0⟩,0,0#64⟩⟩
theorem FH {fuel:Nat} {cs:List Value} {x:DataW H × List MemPlace} (h:DataW.trod enc Tryz.prog w 0 spare held fuel 22 cs=some x):
  ∃ (v:Value) (L:List Et),cs= [v]∧Reads w v L.length (L.flatMap cF)∧ ∀ a∈L,a.input.size∈x.1.weights Tryz.prog 22:=by
 have hm:Tryz.prog.cellsOf 52=3:=by kernel_rfl
 have ht:=Tryz.underlying22
 rcases open_slice ht h with ⟨h0,_⟩|⟨a,len,cap,mm,n,D,Pl,h0,hb,hl,hmx,hmm,hxe,hx⟩
 ·
  exact ⟨_,[],h0,⟨none,0,rfl,Re _,Rd _,fun h=>by cases h⟩,fun _ h=>by cases h⟩
 ·
  have hlm:len≤mm:=by rw [hmm];split<;>omega
  obtain ⟨F,hF⟩:=choose_lt (α:=Et) (n:=len) (p:=fun i nd=>w.cells? 0 (a.add (i*3)) 3=some (cF nd)∧nd.input.size∈(D i).weights Tryz.prog 52) (fun i hi=>by
   obtain ⟨cs',h1,h2⟩:=hx i (by omega)
   rw [hm] at h1
   obtain ⟨nd,rfl,hw⟩:=BZ h2
   exact ⟨nd,h1,hw⟩)
  have hlen:((List.range len).map F).length=len:=by simp
  refine ⟨_,(List.range len).map F,h0,⟨some a,cap,by rw [hlen],by omega,hmx,fun hpos=> ?_⟩,fun n hn=> ?_⟩
  rotate_left
  ·
   obtain ⟨i,hi,rfl⟩:=RG.1 hn
   have h1:=(hF i (List.mem_range.1 hi)).2
   rw [hxe]
   simp only [DataW.weights,ht]
   exact Rq _ (SD _ (tM h1 (RG.2 ⟨i,hi,rfl⟩)))
  rw [hlen] at hpos
  obtain ⟨g,o,spot⟩:=a
  have hspot:spot=none:=by
   obtain ⟨_,_,h3⟩:=World.cells?_some (hF 0 (by omega)).1
   have h4' :=h3 0 (by decide)
   rw [QV (by rw [di];decide)] at h4'
   have h4:=World.cell?_spot h4'
   simpa [Addr.add] using h4
  subst hspot
  have hcell: ∀ (i:Nat) (nd:Et),((List.range len).map F)[i]? =some nd→Cells w g (o+i*3) (cF nd):=by
   intro i nd hnd k v hv
   have hil:i<len:=by have:=(Rg.1 hnd).1;omega
   have hnd' :F i=nd:=by simpa [hil] using hnd
   subst hnd'
   have hk:k<3:=by have:=(Rg.1 hv).1;rwa [di] at this
   obtain ⟨_,_,h3⟩:=World.cells?_some (hF i hil).1
   have:=h3 k hk
   rw [hv,dW,dW] at this
   exact this
  refine ⟨g,o,rfl,?_,xy di w g o _ hcell⟩
  obtain ⟨u,hu⟩: ∃ u,(cF (F 0))[0]? =some u:=⟨_,QV (by rw [di];decide)⟩
  have h5:=hcell 0 (F 0) (by simp [hpos]) 0 u hu
  simp only [World.cell?] at h5
  split at h5
  ·
   rename_i h6
   exact (RI.1 h6).1
  ·
   cases h5
theorem nz {v:Value} {m:Nat} {xs:List Value} (h:Reads w v m xs): ∃ A c,v= .slice A m c:=by
 obtain ⟨A,c,e,_⟩:=h
 exact ⟨A,c,e⟩
set_option maxRecDepth 100000 in
theorem yX {v:Value} {d:DataW H} {p:List MemPlace} {base' :Nat} (hv:Value.okWide Tryz.prog w .any base' 28 v) (h:DataW.Trod enc Tryz.prog w 0 spare held 28 v d p): ∃ (b:Bk) (x:Bv),v= .agg (aY b x).toArray∧BRd w b x∧ ∀ e∈b.ents,e.input.size∈d.weights Tryz.prog 28:=by
 obtain ⟨fuel,hf⟩:=h
 obtain ⟨cs,rfl,_⟩:=okWide_struct Tryz.underlying28 hv
 have hcs:(Value.agg cs).cells.toList=cs.toList:=by simp [Value.cells]
 rw [hcs] at hf
 obtain ⟨xs,n,_,hd,hlen,hxl,hg⟩:=DataW.trod_struct Tryz.underlying28 hf
 have eS:Tryz.prog.cellsOf 28=7:=by kernel_rfl
 have e_i:Tryz.prog.cellsOf 3=1:=by kernel_rfl
 have e_e:Tryz.prog.cellsOf 22=1:=by kernel_rfl
 have e_r:Tryz.prog.cellsOf 23=1:=by kernel_rfl
 have e_g:Tryz.prog.cellsOf 24=1:=by kernel_rfl
 have e_l:Tryz.prog.cellsOf 25=1:=by kernel_rfl
 have e_s:Tryz.prog.cellsOf 26=1:=by kernel_rfl
 rw [eS] at hlen
 obtain ⟨cl,rfl⟩: ∃ cl,cs=cl.toArray:=⟨cs.toList,by simp⟩
 simp only [TI] at hlen hg
 match cl,hlen,xs,hxl with
 | [c0,c1,c2,c3,c4,c5,c6],_,[x0,x1,x2,x3,x4,x5,x6],_=>
  have h0:DataW.trod enc Tryz.prog w 0 spare held n 3 ((([c0,c1,c2,c3,c4,c5,c6]:List Value).drop 0).take (Tryz.prog.cellsOf 3))=some x0:=hg 0 _ rfl
  have h1:DataW.trod enc Tryz.prog w 0 spare held n 22 ((([c0,c1,c2,c3,c4,c5,c6]:List Value).drop 1).take (Tryz.prog.cellsOf 22))=some x1:=hg 1 _ rfl
  have h2:DataW.trod enc Tryz.prog w 0 spare held n 23 ((([c0,c1,c2,c3,c4,c5,c6]:List Value).drop 2).take (Tryz.prog.cellsOf 23))=some x2:=hg 2 _ rfl
  have h3:DataW.trod enc Tryz.prog w 0 spare held n 24 ((([c0,c1,c2,c3,c4,c5,c6]:List Value).drop 3).take (Tryz.prog.cellsOf 24))=some x3:=hg 3 _ rfl
  have h4:DataW.trod enc Tryz.prog w 0 spare held n 25 ((([c0,c1,c2,c3,c4,c5,c6]:List Value).drop 4).take (Tryz.prog.cellsOf 25))=some x4:=hg 4 _ rfl
  have h5:DataW.trod enc Tryz.prog w 0 spare held n 26 ((([c0,c1,c2,c3,c4,c5,c6]:List Value).drop 5).take (Tryz.prog.cellsOf 26))=some x5:=hg 5 _ rfl
  have h6:DataW.trod enc Tryz.prog w 0 spare held n 3 ((([c0,c1,c2,c3,c4,c5,c6]:List Value).drop 6).take (Tryz.prog.cellsOf 3))=some x6:=hg 6 _ rfl
  rw [e_i] at h0 h6
  rw [e_e] at h1
  rw [e_r] at h2
  rw [e_g] at h3
  rw [e_l] at h4
  rw [e_s] at h5
  obtain ⟨us,rfl,_⟩:=ig (c:=c0) h0
  obtain ⟨st,rfl,_⟩:=ig (c:=c6) h6
  obtain ⟨v1,L1,q1,r1,w1⟩:=FH (cs:= [c1]) h1
  obtain ⟨v2,L2,q2,r2,_⟩:=o4 (ok:=fun _:Rl=>True) Tryz.underlying23 (by kernel_rfl) (by decide) bV (fun _ _ _ h=>let ⟨a,e⟩:=IG h;⟨a,e,trivial⟩) (cs:= [c2]) h2
  obtain ⟨v3,L3,q3,r3,_⟩:=o4 (ok:=fun _:Gn=>True) Tryz.underlying24 (by kernel_rfl) (by decide) eO (fun _ _ _ h=>let ⟨a,e⟩:=ET h;⟨a,e,trivial⟩) (cs:= [c3]) h3
  obtain ⟨v4,L4,q4,r4,_⟩:=o4 (ok:=fun _:Ev=>True) Tryz.underlying25 (by kernel_rfl) (by decide) fS (fun _ _ _ h=>let ⟨a,e⟩:=EU h;⟨a,e,trivial⟩) (cs:= [c4]) h4
  obtain ⟨v5,L5,q5,r5,_⟩:=o4 (ok:=fun _:Rv=>True) Tryz.underlying26 (by kernel_rfl) (by decide) cQ (fun _ _ _ h=>let ⟨a,e⟩:=zQ h;⟨a,e,trivial⟩) (cs:= [c5]) h5
  simp only [List.cons.injEq,and_true] at q1 q2 q3 q4 q5
  subst q1;subst q2;subst q3;subst q4;subst q5
  obtain ⟨A1,k1,rfl⟩:=nz r1
  obtain ⟨A2,k2,rfl⟩:=nz r2
  obtain ⟨A3,k3,rfl⟩:=nz r3
  obtain ⟨A4,k4,rfl⟩:=nz r4
  obtain ⟨A5,k5,rfl⟩:=nz r5
  refine ⟨⟨us,L1,L2,L3,L4,L5,st⟩,⟨A1,A2,A3,A4,A5,k1,k2,k3,k4,k5⟩,rfl,⟨r1,r2,r3,r4,r5⟩,fun e he=> ?_⟩
  have h7:=w1 e he
  have hd1:d=DataW.agg [x0.1,x1.1,x2.1,x3.1,x4.1,x5.1,x6.1]:=congrArg Prod.fst hd
  rw [hd1]
  simp only [DataW.weights,Tryz.underlying28,RA,Sq,DataW.weightsEach]
  exact SI _ (SD _ h7)
end
end Go.SL
namespace Go.SL
open Go Go.Proofs
attribute [local irreducible] W WL WQ WG WA WX WLI WR WT WC VOp RW thn blk bp scp aR ba bE aF FnIn FnP ceP
theorem oq {a:ByteArray} {i:Nat}:((ap a).drop i).headD 0=bat a i:=by
 by_cases h:i<a.size
 ·
  rw [bk h];rfl
 ·
  rw [rZ (by omega),jn (by omega)];rfl
theorem pI (a:ByteArray) (ha:a.size≤256) (i:Nat) (hi:i≤a.size) (w:World):aA Tryz.prog 318 [.string a,.int .i64 (i:Int)] w (.int .i64 ((i+aD cV ((ap a).drop i):Nat):Int)):=by
 refine aq Tryz.func318 rfl Tryz.ntmps318 rfl ?_
 have hl:=au a
 obtain ⟨X,hX⟩: ∃ X,i+aD cV ((ap a).drop i)=X:=⟨_,rfl⟩
 rw [hX]
 repeat' (first|refine sT ?_|refine sS ?_|refine sM fun _=> ?_|(refine sC ?_ ?_<;>intro hb<;>try omega)|fail)
 refine aw [0] rfl (fun j:Nat=> [(1,.int .i64 (j:Int))]) (fun _=> []) (fun j=>j≤a.size∧X=j+aD cV ((ap a).drop j)) (fun j=>a.size - j) i ⟨hi,hX.symm⟩ sB (.refl _) ?_
 rintro j ⟨hj,hx⟩
 have hL:=fun w=>mE a (by omega) j w
 have hD:=fun w=>nJ a (by omega) j w
 by_cases hw:cV (bat a j)=true
 ·
  have hlt:j<a.size:=by
   rcases SY j a.size with h|h
   ·
    exact h
   ·
    rw [jn h] at hw;cases hw
  rw [iw hlt,if_pos hw] at hx
  obtain ⟨b1,hb1⟩: ∃ b,bT (bat a j)=b:=⟨_,rfl⟩
  obtain ⟨b2,hb2⟩: ∃ b,aG (bat a j)=b:=⟨_,rfl⟩
  rw [hb1] at hL;rw [hb2] at hD
  have h12:(b1||b2)=true:=by rw [← hb1,← hb2];exact hw
  cases b1<;>cases b2<;>first|(exact absurd h12 (by decide))|skip
  all_goals
   repeat' (first|(apply aa (f:=284);exact rfl;exact rfl;(intro w' hm;exact hL w'))|(apply aa (f:=281);exact rfl;exact rfl;(intro w' hm;exact hD w'))|refine sT ?_|refine sS ?_|refine sN ?_|refine sM fun _=> ?_|(refine sC ?_ ?_<;>intro hb<;>try omega)|fail)
   exact ⟨j+1,⟨hlt,by omega⟩,by omega,sB,sB,.nil _⟩
 ·
  have hr:aD cV ((ap a).drop j)=0:=by
   by_cases hlt:j<a.size
   ·
    rw [iw hlt,if_neg hw]
   ·
    rw [rZ (by omega)];rfl
  rw [hr,Tj] at hx
  subst hx
  have h1:bT (bat a X)=false:=by unfold cV at hw;revert hw;cases bT (bat a X)<;>simp
  have h2:aG (bat a X)=false:=by unfold cV at hw;revert hw;cases aG (bat a X)<;>simp
  rw [h1] at hL;rw [h2] at hD
  repeat' (first|(apply aa (f:=284);exact rfl;exact rfl;(intro w' hm;exact hL w'))|(apply aa (f:=281);exact rfl;exact rfl;(intro w' hm;exact hD w'))|(refine rT1 ?_)|refine sT ?_|refine sS ?_|refine sN ?_|refine sM fun _=> ?_|(refine sC ?_ ?_<;>intro hb<;>try omega)|fail)
  rfl
theorem qQ (a:ByteArray) (i W:Nat):ap (sub a i (i+W))=((ap a).drop i).take W:=by
 rw [eM];congr 1;omega
def PX (a:ByteArray) (i:Nat):Value:=
 if bT (bat a i)=false then .tuple #[.agg (aS ⟨0,0⟩).toArray,.int .i64 0,.bool false]
 else .tuple #[.agg (aS ⟨(cy (upW ((ap a).drop i))).1,(cy (upW ((ap a).drop i))).2.1⟩).toArray,.int .i64 ((i+aD cV ((ap a).drop i):Nat):Int),.bool (decide ((cy (upW ((ap a).drop i))).2.2=0∧bat a (i+aD cV ((ap a).drop i))≠40))]
set_option maxHeartbeats 1000000 in
theorem pM (a:ByteArray) (ha:a.size≤256) (i:Nat) (hi:i≤a.size) (w:World):aA Tryz.prog 319 [.string a,.int .i64 (i:Int)] w (PX a i):=by
 refine aq Tryz.func319 rfl Tryz.ntmps319 rfl ?_
 have hl:=au a
 have hL:=fun w=>mE a (by omega) i w
 have hW:=fun w=>pI a ha i hi w
 obtain ⟨W,hWe⟩: ∃ W,aD cV ((ap a).drop i)=W:=⟨_,rfl⟩
 have hWl:i+W≤a.size:=by
  have:=bY cV ((ap a).drop i)
  rw [RC] at this
  omega
 have hP:=fun w=>Fv (sub a i (i+W)) (by rw [cw a (by omega)];omega) w
 rw [qQ] at hP
 unfold PX
 rw [QI]
 rw [hWe] at hW ⊢
 obtain ⟨c,r,e,hA⟩: ∃ c r e,cy (((ap a).drop i).take W)=(c,r,e):=⟨_,_,_,rfl⟩
 rw [hA] at hP ⊢
 dsimp only at hP ⊢
 obtain ⟨b,hb⟩: ∃ b,bT (bat a i)=b:=⟨_,rfl⟩
 rw [hb] at hL ⊢
 have hout:a.size≤i+W→bat a (i+W)≠40:=fun h=>by rw [jn h];decide
 cases b with
 |false=>
  repeat' (first|(apply aa (f:=284);exact rfl;exact rfl;(intro w' hm;exact hL w'))|refine sT ?_|refine sS ?_|refine sT2 ?_|refine sN ?_|refine sM fun _=> ?_|(refine sC ?_ ?_<;>intro hb<;>try omega)|fail)
  all_goals ((refine cL ?_);rfl)
 |true=>
  rw [if_neg (by simp)]
  repeat' (first|(apply aa (f:=284);exact rfl;exact rfl;(intro w' hm;exact hL w'))|(apply aa (f:=318);exact rfl;exact rfl;(intro w' hm;exact hW w'))|(apply aa (f:=344);exact rfl;exact rfl;(intro w' hm;exact hP w'))|(apply ak (d:=22);exact rfl;apply fV (lo:=i) (hi:=i+W);(iterate 3 exact rfl);exact ⟨by omega,by omega⟩)|(rename_i g4 g8;refine ia (id:=5) [16] [] [Blk.box g8 50 (aS ⟨c,r⟩)] (by kernel_rfl) (by kernel_rfl) (by kernel_rfl) mS ?_)|(apply dm (d:=38);(iterate 3 exact rfl);apply bf (j:=i+W);exact rfl;exact rfl;omega)|refine sT ?_|refine sS ?_|refine sW ?_|refine sT2 ?_|refine sW2 ?_|refine sN ?_|refine sWN ?_|refine sM fun _=> ?_|(refine sC ?_ ?_<;>intro hb<;>try omega)|(refine sCW ?_ ?_<;>intro hb<;>try omega)|fail)
  ·
   (refine cL ?_)
   rw [decide_eq_true (show e=0∧bat a (i+W)≠40 from ⟨by assumption,hout (by omega)⟩)]
   rfl
  ·
   (refine cL ?_)
   have he:e=0:=by assumption
   subst he
   simp only [true_and]
   rfl
  ·
   (refine cL ?_)
   rw [decide_eq_false (show ¬ (e=0∧bat a (i+W)≠40) from fun h=>absurd h.1 (by assumption))]
   rfl
set_option maxHeartbeats 1000000 in
theorem Ff (a:ByteArray) (ha:a.size≤256) (i:Nat) (hi:i<a.size) (hli:bT (bat a i)=true) (w:World):aF Tryz.prog 285 [.string a,.int .i64 (i:Int)] w fun v H=>H= []∧TokR i (gZ ((ap a).drop i)) v:=by
  refine aq Tryz.func285 rfl Tryz.ntmps285 rfl ?_
  have hl:=au a
  have hW:=fun w=>pI a ha i (by omega) w
  obtain ⟨W,hWe⟩: ∃ W,aD cV ((ap a).drop i)=W:=⟨_,rfl⟩
  have hWl:i+W≤a.size:=by
    have:=bY cV ((ap a).drop i)
    rw [RC] at this
    omega
  have hA1:=fun w=>pM a ha i (by omega) w
  have hA2:=fun (h:i+W<a.size) w=>pM a ha (i+W+1) h w
  have hU:=fun w=>kM (sub a i (i+W)) (by rw [cw a (by omega)];omega) w
  obtain ⟨U,hUe⟩: ∃ U,upB (sub a i (i+W))=U:=⟨_,rfl⟩
  have hUm:mkB (upW ((ap a).drop i))=U:=by
    rw [← hUe,KG,hWe,← lU (upB _),rG,qQ]
  have hl0:((ap a).drop i).headD 0=bat a i:=oq
  have hl1:(((ap a).drop i).drop W).headD 0=bat a (i+W):=by rw [SH,oq]
  have hd2:((ap a).drop i).drop (W+1)=(ap a).drop (i+W+1):=by rw [SH,SA]
  have hl2:((ap a).drop (i+W+1)).headD 0=bat a (i+W+1):=oq
  obtain ⟨W2,hW2⟩: ∃ W2,aD cV ((ap a).drop (i+W+1))=W2:=⟨_,rfl⟩
  have hl3:(((ap a).drop i).drop (W+1+W2)).headD 0=bat a (i+W+1+W2):=by rw [SH,oq];congr 1;omega
  have hW2l:i+W<a.size→i+W+1+W2≤a.size:=fun h=>by
    have:=bY cV ((ap a).drop (i+W+1))
    rw [RC] at this
    omega
  unfold gZ
  unfold PX at hA1 hA2
  rw [hl0,hli,if_neg (by simp)]
  rw [hWe] at hW hA1 ⊢
  rw [hd2,hl1,hl2,hW2,hl3]
  rw [hli,if_neg (by simp)] at hA1
  rw [hW2] at hA2
  rw [hUm]
  rw [hUe] at hU
  obtain ⟨c1,r1,e1,hx1⟩: ∃ c r e,cy (upW ((ap a).drop i))=(c,r,e):=⟨_,_,_,rfl⟩
  obtain ⟨c2,r2,e2,hx2⟩: ∃ c r e,cy (upW ((ap a).drop (i+W+1)))=(c,r,e):=⟨_,_,_,rfl⟩
  rw [hx1] at hA1 ⊢
  rw [hx2] at hA2 ⊢
  dsimp only at hA1 hA2 ⊢
  have hout:a.size≤i+W→bat a (i+W)≠40∧bat a (i+W)≠58:=fun h=>by rw [jn h];decide
  by_cases h40:bat a (i+W)=40
  · rw [if_pos h40]
    have hlt:i+W<a.size:=by
      rcases SY (i+W) a.size with h|h
      · exact h
      · exact absurd h40 (hout h).1
    repeat' (first|(apply aa (f:=318);exact rfl;exact rfl;(intro w' hm;exact hW w'))|(apply aa (f:=188);exact rfl;exact rfl;(intro w' hm;exact hU w'))|(apply ak (d:=22);exact rfl;apply fV (lo:=i) (hi:=i+W);(iterate 3 exact rfl);exact ⟨by omega,by omega⟩)|(apply ak (d:=31);exact rfl;apply bf (j:=i+W);exact rfl;exact rfl;omega)|refine sT ?_|refine sS ?_|refine sT2 ?_|refine sN ?_|refine sM fun _=> ?_|(refine sC ?_ ?_<;>intro hb<;>try omega)|fail)
    all_goals
      first
      |(exfalso;omega)
      |((refine cL ?_);exact ⟨rfl,rfl⟩)
  rw [if_neg h40]
  clear hli hUm hUe hl0 hl1 hd2 hl2 hl3
  by_cases hT:U=nn
  · rw [if_pos hT]
    subst hT
    repeat' (first|(apply aa (f:=318);exact rfl;exact rfl;(intro w' hm;exact hW w'))|(apply aa (f:=188);exact rfl;exact rfl;(intro w' hm;exact hU w'))|(apply ak (d:=22);exact rfl;apply fV (lo:=i) (hi:=i+W);(iterate 3 exact rfl);exact ⟨by omega,by omega⟩)|(apply ak (d:=31);exact rfl;apply bf (j:=i+W);exact rfl;exact rfl;omega)|(apply ak (d:=70);exact rfl;apply bf (j:=i+W);exact rfl;exact rfl;omega)|(apply aa (d:=51);exact rfl;exact rfl;(intro w' hm;exact hA1 w'))|(apply aa (d:=76);exact rfl;exact rfl;(intro w' hm;exact hA2 w'))|(apply aa (f:=320);exact rfl;exact rfl;(intro w' hm;exact iS ⟨c1,r1⟩ w'))|(apply ak (d:=85);exact rfl;exact fZ _ _ ▸ jo rfl rfl)|(apply ak (d:=90);exact rfl;exact fZ _ _ ▸ jo rfl rfl)|(apply ak (d:=95);exact rfl;exact f4 _ _ ▸ iG rfl rfl)|(apply ak (d:=100);exact rfl;exact f4 _ _ ▸ iG rfl rfl)|(apply ak (d:=105);exact rfl;exact dQ (a:=⟨c1,r1⟩) (b:=⟨c2,r2⟩) rfl rfl rfl)|refine sT ?_|refine sS ?_|refine sT2 ?_|refine sN ?_|refine sM fun _=> ?_|(refine sC ?_ ?_<;>intro hb<;>try omega)|fail)
    all_goals
      first
      |(exfalso;omega)
      |(exact absurd rfl (by assumption))
      |((refine cL ?_);exact ⟨rfl,rfl⟩)
  rw [if_neg hT]
  by_cases hF:U=lu
  · rw [if_pos hF]
    subst hF
    repeat' (first|(apply aa (f:=318);exact rfl;exact rfl;(intro w' hm;exact hW w'))|(apply aa (f:=188);exact rfl;exact rfl;(intro w' hm;exact hU w'))|(apply ak (d:=22);exact rfl;apply fV (lo:=i) (hi:=i+W);(iterate 3 exact rfl);exact ⟨by omega,by omega⟩)|(apply ak (d:=31);exact rfl;apply bf (j:=i+W);exact rfl;exact rfl;omega)|(apply ak (d:=70);exact rfl;apply bf (j:=i+W);exact rfl;exact rfl;omega)|(apply aa (d:=51);exact rfl;exact rfl;(intro w' hm;exact hA1 w'))|(apply aa (d:=76);exact rfl;exact rfl;(intro w' hm;exact hA2 w'))|(apply aa (f:=320);exact rfl;exact rfl;(intro w' hm;exact iS ⟨c1,r1⟩ w'))|(apply ak (d:=85);exact rfl;exact fZ _ _ ▸ jo rfl rfl)|(apply ak (d:=90);exact rfl;exact fZ _ _ ▸ jo rfl rfl)|(apply ak (d:=95);exact rfl;exact f4 _ _ ▸ iG rfl rfl)|(apply ak (d:=100);exact rfl;exact f4 _ _ ▸ iG rfl rfl)|(apply ak (d:=105);exact rfl;exact dQ (a:=⟨c1,r1⟩) (b:=⟨c2,r2⟩) rfl rfl rfl)|refine sT ?_|refine sS ?_|refine sT2 ?_|refine sN ?_|refine sM fun _=> ?_|(refine sC ?_ ?_<;>intro hb<;>try omega)|fail)
    all_goals
      first
      |(exfalso;omega)
      |(exact absurd (by assumption) hT)
      |(exact absurd rfl (by assumption))
      |((refine cL ?_);exact ⟨rfl,rfl⟩)
  rw [if_neg hF]
  have hT' : ¬ U=({ data:= #[84,82,85,69] }:ByteArray):=hT
  have hF' : ¬ U=({ data:= #[70,65,76,83,69] }:ByteArray):=hF
  simp only [ne_eq,h40,not_false_eq_true,and_true] at hA1
  by_cases he1:e1=0
  · rw [if_neg (fun h=>h he1)]
    rw [decide_eq_true he1] at hA1
    by_cases h58:bat a (i+W)=58
    · have hlt:i+W<a.size:=by
        rcases SY (i+W) a.size with h|h
        · exact h
        · exact absurd h58 (hout h).2
      replace hA2:=hA2 hlt
      by_cases hl2:bT (bat a (i+W+1))=true
      · rw [hl2,if_neg (by simp)] at hA2
        by_cases hok:e2=0∧bat a (i+W+1+W2)≠40
        · rw [if_pos ⟨h58,hl2,hok⟩]
          rw [decide_eq_true hok] at hA2
          repeat' (first|(apply aa (f:=318);exact rfl;exact rfl;(intro w' hm;exact hW w'))|(apply aa (f:=188);exact rfl;exact rfl;(intro w' hm;exact hU w'))|(apply ak (d:=22);exact rfl;apply fV (lo:=i) (hi:=i+W);(iterate 3 exact rfl);exact ⟨by omega,by omega⟩)|(apply ak (d:=31);exact rfl;apply bf (j:=i+W);exact rfl;exact rfl;omega)|(apply ak (d:=70);exact rfl;apply bf (j:=i+W);exact rfl;exact rfl;omega)|(apply aa (d:=51);exact rfl;exact rfl;(intro w' hm;exact hA1 w'))|(apply aa (d:=76);exact rfl;exact rfl;(intro w' hm;exact hA2 w'))|(apply aa (f:=320);exact rfl;exact rfl;(intro w' hm;exact iS ⟨c1,r1⟩ w'))|(apply ak (d:=85);exact rfl;exact fZ _ _ ▸ jo rfl rfl)|(apply ak (d:=90);exact rfl;exact fZ _ _ ▸ jo rfl rfl)|(apply ak (d:=95);exact rfl;exact f4 _ _ ▸ iG rfl rfl)|(apply ak (d:=100);exact rfl;exact f4 _ _ ▸ iG rfl rfl)|(apply ak (d:=105);exact rfl;exact dQ (a:=⟨c1,r1⟩) (b:=⟨c2,r2⟩) rfl rfl rfl)|refine sT ?_|refine sS ?_|refine sT2 ?_|refine sN ?_|refine sM fun _=> ?_|(refine sC ?_ ?_<;>intro hb<;>try omega)|fail)
          all_goals
            first
            |(exfalso;omega)
            |(exact absurd (by assumption) hT')
            |(exact absurd (by assumption) hF')
            |((refine cL ?_);exact ⟨rfl,dl,_,rfl⟩)
            |((refine cL ?_);exact ⟨rfl,rfl⟩)
            | ((refine cL ?_)
               refine ⟨rfl,?_⟩
               have hne: ¬ (c1=c2∧r1=r2):=fun h=>(by assumption:(⟨c1,r1⟩:Rf)≠⟨c2,r2⟩) (by rw [h.1,h.2])
               simp only [TokR,if_neg hne]
               rw [show i+(W+1+W2)=i+W+1+W2 by omega]
               rfl)
            | ((refine cL ?_)
               refine ⟨rfl,?_⟩
               have heq:c1=c2∧r1=r2:=by
                 have:(⟨c1,r1⟩:Rf)=⟨c2,r2⟩:=Classical.not_not.1 (by assumption)
                 cases this
                 exact ⟨rfl,rfl⟩
               simp only [TokR,if_pos heq]
               rw [show i+(W+1+W2)=i+W+1+W2 by omega]
               rfl)
        · rw [if_neg fun h=>hok h.2.2]
          rw [decide_eq_false hok] at hA2
          repeat' (first|(apply aa (f:=318);exact rfl;exact rfl;(intro w' hm;exact hW w'))|(apply aa (f:=188);exact rfl;exact rfl;(intro w' hm;exact hU w'))|(apply ak (d:=22);exact rfl;apply fV (lo:=i) (hi:=i+W);(iterate 3 exact rfl);exact ⟨by omega,by omega⟩)|(apply ak (d:=31);exact rfl;apply bf (j:=i+W);exact rfl;exact rfl;omega)|(apply ak (d:=70);exact rfl;apply bf (j:=i+W);exact rfl;exact rfl;omega)|(apply aa (d:=51);exact rfl;exact rfl;(intro w' hm;exact hA1 w'))|(apply aa (d:=76);exact rfl;exact rfl;(intro w' hm;exact hA2 w'))|(apply aa (f:=320);exact rfl;exact rfl;(intro w' hm;exact iS ⟨c1,r1⟩ w'))|(apply ak (d:=85);exact rfl;exact fZ _ _ ▸ jo rfl rfl)|(apply ak (d:=90);exact rfl;exact fZ _ _ ▸ jo rfl rfl)|(apply ak (d:=95);exact rfl;exact f4 _ _ ▸ iG rfl rfl)|(apply ak (d:=100);exact rfl;exact f4 _ _ ▸ iG rfl rfl)|(apply ak (d:=105);exact rfl;exact dQ (a:=⟨c1,r1⟩) (b:=⟨c2,r2⟩) rfl rfl rfl)|refine sT ?_|refine sS ?_|refine sT2 ?_|refine sN ?_|refine sM fun _=> ?_|(refine sC ?_ ?_<;>intro hb<;>try omega)|fail)
          all_goals
            first
            |(exfalso;omega)
            |(exact absurd (by assumption) hT')
            |(exact absurd (by assumption) hF')
            |((refine cL ?_);exact ⟨rfl,dl,_,rfl⟩)
            |((refine cL ?_);exact ⟨rfl,rfl⟩)
            | ((refine cL ?_)
               refine ⟨rfl,?_⟩
               have hne: ¬ (c1=c2∧r1=r2):=fun h=>(by assumption:(⟨c1,r1⟩:Rf)≠⟨c2,r2⟩) (by rw [h.1,h.2])
               simp only [TokR,if_neg hne]
               rw [show i+(W+1+W2)=i+W+1+W2 by omega]
               rfl)
            | ((refine cL ?_)
               refine ⟨rfl,?_⟩
               have heq:c1=c2∧r1=r2:=by
                 have:(⟨c1,r1⟩:Rf)=⟨c2,r2⟩:=Classical.not_not.1 (by assumption)
                 cases this
                 exact ⟨rfl,rfl⟩
               simp only [TokR,if_pos heq]
               rw [show i+(W+1+W2)=i+W+1+W2 by omega]
               rfl)
      · rw [if_neg fun h=>hl2 h.2.1]
        rw [if_pos (by simpa using hl2)] at hA2
        repeat' (first|(apply aa (f:=318);exact rfl;exact rfl;(intro w' hm;exact hW w'))|(apply aa (f:=188);exact rfl;exact rfl;(intro w' hm;exact hU w'))|(apply ak (d:=22);exact rfl;apply fV (lo:=i) (hi:=i+W);(iterate 3 exact rfl);exact ⟨by omega,by omega⟩)|(apply ak (d:=31);exact rfl;apply bf (j:=i+W);exact rfl;exact rfl;omega)|(apply ak (d:=70);exact rfl;apply bf (j:=i+W);exact rfl;exact rfl;omega)|(apply aa (d:=51);exact rfl;exact rfl;(intro w' hm;exact hA1 w'))|(apply aa (d:=76);exact rfl;exact rfl;(intro w' hm;exact hA2 w'))|(apply aa (f:=320);exact rfl;exact rfl;(intro w' hm;exact iS ⟨c1,r1⟩ w'))|(apply ak (d:=85);exact rfl;exact fZ _ _ ▸ jo rfl rfl)|(apply ak (d:=90);exact rfl;exact fZ _ _ ▸ jo rfl rfl)|(apply ak (d:=95);exact rfl;exact f4 _ _ ▸ iG rfl rfl)|(apply ak (d:=100);exact rfl;exact f4 _ _ ▸ iG rfl rfl)|(apply ak (d:=105);exact rfl;exact dQ (a:=⟨c1,r1⟩) (b:=⟨c2,r2⟩) rfl rfl rfl)|refine sT ?_|refine sS ?_|refine sT2 ?_|refine sN ?_|refine sM fun _=> ?_|(refine sC ?_ ?_<;>intro hb<;>try omega)|fail)
        all_goals
          first
          |(exfalso;omega)
          |(exact absurd (by assumption) hT')
          |(exact absurd (by assumption) hF')
          |((refine cL ?_);exact ⟨rfl,dl,_,rfl⟩)
          |((refine cL ?_);exact ⟨rfl,rfl⟩)
          | ((refine cL ?_)
             refine ⟨rfl,?_⟩
             have hne: ¬ (c1=c2∧r1=r2):=fun h=>(by assumption:(⟨c1,r1⟩:Rf)≠⟨c2,r2⟩) (by rw [h.1,h.2])
             simp only [TokR,if_neg hne]
             rw [show i+(W+1+W2)=i+W+1+W2 by omega]
             rfl)
          | ((refine cL ?_)
             refine ⟨rfl,?_⟩
             have heq:c1=c2∧r1=r2:=by
               have:(⟨c1,r1⟩:Rf)=⟨c2,r2⟩:=Classical.not_not.1 (by assumption)
               cases this
               exact ⟨rfl,rfl⟩
             simp only [TokR,if_pos heq]
             rw [show i+(W+1+W2)=i+W+1+W2 by omega]
             rfl)
    · rw [if_neg fun h=>h58 h.1]
      repeat' (first|(apply aa (f:=318);exact rfl;exact rfl;(intro w' hm;exact hW w'))|(apply aa (f:=188);exact rfl;exact rfl;(intro w' hm;exact hU w'))|(apply ak (d:=22);exact rfl;apply fV (lo:=i) (hi:=i+W);(iterate 3 exact rfl);exact ⟨by omega,by omega⟩)|(apply ak (d:=31);exact rfl;apply bf (j:=i+W);exact rfl;exact rfl;omega)|(apply ak (d:=70);exact rfl;apply bf (j:=i+W);exact rfl;exact rfl;omega)|(apply aa (d:=51);exact rfl;exact rfl;(intro w' hm;exact hA1 w'))|(apply aa (d:=76);exact rfl;exact rfl;(intro w' hm;exact hA2 w'))|(apply aa (f:=320);exact rfl;exact rfl;(intro w' hm;exact iS ⟨c1,r1⟩ w'))|(apply ak (d:=85);exact rfl;exact fZ _ _ ▸ jo rfl rfl)|(apply ak (d:=90);exact rfl;exact fZ _ _ ▸ jo rfl rfl)|(apply ak (d:=95);exact rfl;exact f4 _ _ ▸ iG rfl rfl)|(apply ak (d:=100);exact rfl;exact f4 _ _ ▸ iG rfl rfl)|(apply ak (d:=105);exact rfl;exact dQ (a:=⟨c1,r1⟩) (b:=⟨c2,r2⟩) rfl rfl rfl)|refine sT ?_|refine sS ?_|refine sT2 ?_|refine sN ?_|refine sM fun _=> ?_|(refine sC ?_ ?_<;>intro hb<;>try omega)|fail)
      all_goals
        first
        |(exfalso;omega)
        |(exact absurd (by assumption) hT')
        |(exact absurd (by assumption) hF')
        |((refine cL ?_);exact ⟨rfl,dl,_,rfl⟩)
        |((refine cL ?_);exact ⟨rfl,rfl⟩)
        | ((refine cL ?_)
           refine ⟨rfl,?_⟩
           have hne: ¬ (c1=c2∧r1=r2):=fun h=>(by assumption:(⟨c1,r1⟩:Rf)≠⟨c2,r2⟩) (by rw [h.1,h.2])
           simp only [TokR,if_neg hne]
           rw [show i+(W+1+W2)=i+W+1+W2 by omega]
           rfl)
        | ((refine cL ?_)
           refine ⟨rfl,?_⟩
           have heq:c1=c2∧r1=r2:=by
             have:(⟨c1,r1⟩:Rf)=⟨c2,r2⟩:=Classical.not_not.1 (by assumption)
             cases this
             exact ⟨rfl,rfl⟩
           simp only [TokR,if_pos heq]
           rw [show i+(W+1+W2)=i+W+1+W2 by omega]
           rfl)
  · rw [if_pos he1]
    rw [decide_eq_false he1] at hA1
    repeat' (first|(apply aa (f:=318);exact rfl;exact rfl;(intro w' hm;exact hW w'))|(apply aa (f:=188);exact rfl;exact rfl;(intro w' hm;exact hU w'))|(apply ak (d:=22);exact rfl;apply fV (lo:=i) (hi:=i+W);(iterate 3 exact rfl);exact ⟨by omega,by omega⟩)|(apply ak (d:=31);exact rfl;apply bf (j:=i+W);exact rfl;exact rfl;omega)|(apply ak (d:=70);exact rfl;apply bf (j:=i+W);exact rfl;exact rfl;omega)|(apply aa (d:=51);exact rfl;exact rfl;(intro w' hm;exact hA1 w'))|(apply aa (d:=76);exact rfl;exact rfl;(intro w' hm;exact hA2 w'))|(apply aa (f:=320);exact rfl;exact rfl;(intro w' hm;exact iS ⟨c1,r1⟩ w'))|(apply ak (d:=85);exact rfl;exact fZ _ _ ▸ jo rfl rfl)|(apply ak (d:=90);exact rfl;exact fZ _ _ ▸ jo rfl rfl)|(apply ak (d:=95);exact rfl;exact f4 _ _ ▸ iG rfl rfl)|(apply ak (d:=100);exact rfl;exact f4 _ _ ▸ iG rfl rfl)|(apply ak (d:=105);exact rfl;exact dQ (a:=⟨c1,r1⟩) (b:=⟨c2,r2⟩) rfl rfl rfl)|refine sT ?_|refine sS ?_|refine sT2 ?_|refine sN ?_|refine sM fun _=> ?_|(refine sC ?_ ?_<;>intro hb<;>try omega)|fail)
    all_goals
      first
      |(exfalso;omega)
      |(exact absurd (by assumption) hT')
      |(exact absurd (by assumption) hF')
      |((refine cL ?_);exact ⟨rfl,dl,_,rfl⟩)
      |((refine cL ?_);exact ⟨rfl,rfl⟩)
      | ((refine cL ?_)
         refine ⟨rfl,?_⟩
         have hne: ¬ (c1=c2∧r1=r2):=fun h=>(by assumption:(⟨c1,r1⟩:Rf)≠⟨c2,r2⟩) (by rw [h.1,h.2])
         simp only [TokR,if_neg hne]
         rw [show i+(W+1+W2)=i+W+1+W2 by omega]
         rfl)
      | ((refine cL ?_)
         refine ⟨rfl,?_⟩
         have heq:c1=c2∧r1=r2:=by
           have:(⟨c1,r1⟩:Rf)=⟨c2,r2⟩:=Classical.not_not.1 (by assumption)
           cases this
           exact ⟨rfl,rfl⟩
         simp only [TokR,if_pos heq]
         rw [show i+(W+1+W2)=i+W+1+W2 by omega]
         rfl)
def opB (k:Int):ByteArray:=
 if k=1 then ⟨#[43]⟩ else if k=2 then ⟨#[45]⟩ else if k=3 then ⟨#[42]⟩ else if k=4 then ⟨#[47]⟩ else if k=5 then ⟨#[94]⟩ else if k=6 then ⟨#[38]⟩ else if k=7 then ⟨#[61]⟩
 else if k=8 then ⟨#[60,62]⟩ else if k=9 then ⟨#[60]⟩ else if k=10 then ⟨#[60,61]⟩ else if k=11 then ⟨#[62]⟩ else if k=12 then ⟨#[62,61]⟩ else if k=13 then ⟨#[37]⟩ else ⟨#[]⟩
theorem wh (k:Int) (w:World):aA Tryz.prog 323 [.int .i64 k] w (.string (opB k)):=by
 refine aq Tryz.func323 rfl Tryz.ntmps323 rfl ?_
 repeat' (first|(refine rT1 ?_)|refine sT ?_|refine sS ?_|refine sM fun _=> ?_|(refine sC ?_ ?_<;>intro hb<;>try omega)|fail)
 all_goals
  unfold opB
  repeat (first|rw [if_pos (by assumption)]|rw [if_neg (by assumption)])
theorem z6 (a:ByteArray) (ha:a.size≤256) (i:Nat) (hi:i≤a.size) (s:ByteArray) (hs:s.size≤1000) (w:World):aA Tryz.prog 322 [.string a,.int .i64 (i:Int),.string s] w (.bool (decide ((((ap a).drop i).take s.size).map upC=ap s))):=by
 refine aq Tryz.func322 rfl Tryz.ntmps322 rfl ?_
 have hl:=au a
 have hU:=fun h:i+s.size≤a.size=>fun w=>kM (sub a i (i+s.size)) (by rw [cw a h];omega) w
 repeat' (first|(apply aa (f:=188);exact rfl;exact rfl;(intro w' hm;exact hU (by omega) w'))|(apply ak (d:=21);exact rfl;apply fV (lo:=i) (hi:=i+s.size);(iterate 3 exact rfl);exact ⟨by omega,by omega⟩)|(refine rT1 ?_)|refine sT ?_|refine sS ?_|refine sT2 ?_|refine sN ?_|refine sM fun _=> ?_|(refine sC ?_ ?_<;>intro hb<;>try omega)|fail)
 ·
  have:(upB (sub a i (i+s.size))=s)=((((ap a).drop i).take s.size).map upC=ap s):=by
   rw [eq_iff_iff]
   constructor
   ·
    intro h
    rw [← h,rG,qQ,h]
   ·
    intro h
    apply wU
    rw [rG,qQ,h]
  simp only [this]
 ·
  rw [decide_eq_false]
  intro h
  have:=congrArg List.length h
  rw [RP,RF,RC,hl,au] at this
  omega
end Go.SL
