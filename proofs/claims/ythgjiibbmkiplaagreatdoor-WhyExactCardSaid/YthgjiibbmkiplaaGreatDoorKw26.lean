/-
  Lemmas and walks, put together: Oc0 Ro.
-/
import Derived.Test.YthgjiibbmkiplaaGreatDoorKw20
import Derived.Test.YthgjiibbmkiplaaGreatDoorKw24
import Derived.Test.YthgjiibbmkiplaaGreatDoorKw25
set_option linter.unusedSimpArgs false
set_option linter.unusedVariables false
set_option maxRecDepth 20000
namespace Go.SL
open Go
structure BkOk (b:Bk):Prop where
 u:1≤b.users∧b.users≤64
 e:(jF b.ents).2=0
 r:(eV b.users b.rules).2=0
 g:(lA b.users b.grants).2=0
 l:MT b.users b.log b.rels=0
 s:0≤b.step∧b.step≤1099511627776
 le:yE b.step b.log=false
 lr:yD b.step b.rels=false
theorem P9 {b:Bk}:bkE b=0↔BkOk b:=by
 constructor
 ·intro h;unfold bkE at h;split at h
  ·cases h
  split at h
  ·rename_i h2;exact absurd h h2
  split at h
  ·rename_i h2;exact absurd h h2
  split at h
  ·rename_i h2;exact absurd h h2
  split at h
  ·rename_i h2;exact absurd h h2
  split at h
  ·cases h
  split at h
  ·cases h
  split at h
  ·cases h
  exact ⟨by omega,by omega,by omega,by omega,by omega,by omega,by simp_all,by simp_all⟩
 ·intro h;have h1:=h.u;have h2:=h.s;unfold bkE;rw [if_neg (by omega),if_neg (by rw [h.e];decide),if_neg (by rw [h.r];decide),if_neg (by rw [h.g];decide),if_neg (by rw [h.l];decide),if_neg (by omega),if_neg (by rw [h.le];decide),if_neg (by rw [h.lr];decide)]
def WiU (u:Int) (x:BitVec 64):Prop:=x &&& ~~~(ku u).1=0#64
theorem SY (x:BitVec 64):WiU 64 x:=by
 unfold WiU;rw [show ~~~(ku 64).1=0#64 by decide+kernel,BitVec.and_zero]
theorem v7 {u:Int}: ∀ {L:List Rl} {i:Int},(jG u L i).2=0↔ ∀ r∈L,aA r.rect=true∧WiU u (r.read|||r.write|||r.own)
 | [],_=>⟨fun _ _ h=>(by cases h),fun _=>rfl⟩
 |r::L,i=>by
  rw [jG];split
  ·rename_i h;exact ⟨fun h=>(by cases h),fun h2=>by rw [(h2 r Xb).1] at h;cases h⟩
  split
  ·rename_i h;exact ⟨fun h=>(by cases h),fun h2=>absurd (h2 r Xb).2 h⟩
  ·rename_i h1 h2;rw [v7 (L:=L)];refine ⟨fun h r' hr=> ?_,fun h r' hr=>h r' (Xp _ hr)⟩;rcases Xt.1 hr with rfl|hr
   ·exact ⟨by simpa using h1,Classical.not_not.1 h2⟩
   ·exact h r' hr
theorem SK {u:Int} {L:List Rl}:(eV u L).2=0↔(1≤u∧u≤64)∧L≠ []∧L.length≤64∧L.head?.map (fun x=>x.rect)=some xZ∧ ∀ r∈L,aA r.rect=true∧WiU u (r.read|||r.write|||r.own):=by
 unfold eV;split
 ·rename_i h;refine ⟨fun h=>(by cases h),fun h2=> ?_⟩;rcases h with h|h|h|h
  ·omega
  ·omega
  ·omega
  ·exact absurd h h2.2.1
 rename_i h1;have hL:L≠ []:=fun e=>h1 (.inr (.inr (.inr e)));have hu:1≤u∧u≤64:=by omega
 split
 ·exact ⟨fun h=>(by cases h),fun h2=>by omega⟩
 split
 ·rename_i h3;exact ⟨fun h=>(by cases h),fun h2=>absurd h2.2.2.2.1 h3⟩
 ·rename_i h2 h3;rw [v7];exact ⟨fun h=>⟨hu,hL,by omega,Decidable.not_not.1 h3,h⟩,fun h=>h.2.2.2.2⟩
theorem zp {u:Int} {L:List Rl} (h:(eV u L).2=0):(eV 64 L).2=0:=by
 rw [SK] at h ⊢;exact ⟨by decide,h.2.1,h.2.2.1,h.2.2.2.1,fun r hr=>⟨(h.2.2.2.2 r hr).1,SY _⟩⟩
theorem vO {u:Int}: ∀ {L:List Gn} {i:Int},(lO u L i).2=0↔ ∀ g∈L,aA g.rect=true∧Mo u g=true
 | [],_=>⟨fun _ _ h=>(by cases h),fun _=>rfl⟩
 |r::L,i=>by
  rw [lO];split
  ·rename_i h;exact ⟨fun h=>(by cases h),fun h2=>by rw [(h2 r Xb).1] at h;cases h⟩
  split
  ·rename_i h;exact ⟨fun h=>(by cases h),fun h2=>by rw [(h2 r Xb).2] at h;cases h⟩
  ·rename_i h1 h2;rw [vO (L:=L)];refine ⟨fun h r' hr=> ?_,fun h r' hr=>h r' (Xp _ hr)⟩;rcases Xt.1 hr with rfl|hr
   ·exact ⟨by simpa using h1,by simpa using h2⟩
   ·exact h r' hr
theorem R8 {u:Int} {L:List Gn}:(lA u L).2=0↔(1≤u∧u≤64)∧L.length≤64∧ ∀ g∈L,aA g.rect=true∧Mo u g=true:=by
 unfold lA;split
 ·exact ⟨fun h=>(by cases h),fun h2=>by omega⟩
 split
 ·exact ⟨fun h=>(by cases h),fun h2=>by omega⟩
 ·rw [vO];exact ⟨fun h=>⟨by omega,by omega,h⟩,fun h=>h.2.2⟩
theorem Gd {u:Int} (hu:1≤u∧u≤64) {g:Gn}:Mo u g=true↔(1≤g.fns∧g.fns≤31)∧WiU u g.to∧0≤g.by_∧g.by_<u:=by
 unfold Mo;rw [Po (by omega)];simp only [Xo,decide_eq_true_eq,and_assoc];exact Iff.rfl
theorem Ps {u:Int} {L:List Gn} (h:(lA u L).2=0):(lA 64 L).2=0:=by
 rw [R8] at h ⊢;refine ⟨by decide,h.2.1,fun g hg=>⟨(h.2.2 g hg).1,?_⟩⟩;have h1:=(Gd h.1).1 (h.2.2 g hg).2;exact (Gd (by decide)).2 ⟨h1.1,SY _,h1.2.2.1,by omega⟩
open Go.Proofs
attribute [local irreducible] FnAt FnIn FnP RW VOp W WA WC WE WG WL WLI WQ WR WT WX aX aY bA blk bw ceP scp thn
section
variable {gg:Nat} {G:Gr} {B F:List Blk} {w0:World} (h:Rdr gg G B w0) (hB:MSub B F)
include h hB
theorem Rdr.leaves (c:Rf):FnIn Tryz.prog 52 [.pointer (some ⟨gg,0,none⟩),aC c] w0 F fun v H' => ∃ A cap,v= .tuple #[sl A (ck G c).length cap,.int .i64 (bS [c] [])]∧H' = .own A 31 4 (ck G c).length cap ((ck G c).flatMap ay)::F:=BW gg G h.g h.l c B F hB w0 h.fm h.us (fL h.g)
theorem Rdr.leaves_to {c:Rf} {M:List Rct} {e:Int} (hM:ck G c=M) (he:bS [c] []=e):FnIn Tryz.prog 52 [.pointer (some ⟨gg,0,none⟩),aC c] w0 F fun v H' => ∃ A cap,v= .tuple #[sl A M.length cap,.int .i64 e]∧H' = .own A 31 4 M.length cap (M.flatMap ay)::F:=by
 subst hM he;exact h.leaves hB c
end
theorem W8:Qc exG ⟨1,4⟩= [⟨1,3⟩]:=by rw [Qc,if_pos (by decide+kernel)];exact VE
theorem WJ:ck exG ⟨1,4⟩= [⟨2,1,2,3⟩,⟨1,3,1,3⟩]:=by rw [ck,if_pos (by decide+kernel)];exact VD
end Go.SL
