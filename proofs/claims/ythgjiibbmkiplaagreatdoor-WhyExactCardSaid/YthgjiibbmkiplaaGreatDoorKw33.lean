/-
  Lemmas and walks, put together: Wm Wg Wh.
-/
import Derived.Test.YthgjiibbmkiplaaGreatDoorKw31
set_option linter.unusedSimpArgs false
set_option linter.unusedVariables false
set_option maxRecDepth 20000
set_option maxHeartbeats 16000000
namespace Go.SL
open Go Go.Proofs
attribute [local irreducible] W WL WQ WG WA WX WLI WR WT WC WE VOp RW thn blk bA scp aY aX bw FnAt FnIn FnP ceP
theorem FR: ∀ (L:List Et) (G:Gr),GrOk G→(∃ e,e≠0∧yu G L=(none,e))∨ ∃ G',yu G L=(some G',0)∧GrOk G' ∧G'.length≤G.length+L.length
 | [],G,h=> .inr ⟨G,rfl,h,Xy _⟩
 |e::r,G,h=>by
  rw [yu];split
  ·rename_i h1;exact .inl ⟨_,h1,rfl⟩
  ·rcases FR r (qD G e.at_ e.input).1 (h.set _ _) with h2|⟨G',h2,h3,h4⟩
   ·exact .inl h2
   ·have:=Oh G e.at_ e.input;exact .inr ⟨G',h2,h3,by rw [Xs];omega⟩
theorem uG (L:List Et):(∃ e,e≠0∧jr L=(none,e))∨ ∃ G,jr L=(some G,0)∧GrOk G∧G.length≤L.length:=by
 unfold jr;split
 ·rename_i h;exact .inl ⟨_,h,rfl⟩
 ·rcases FR L [] Gc with h|⟨G,h1,h2,h3⟩
  ·exact .inl h
  ·exact .inr ⟨G,h1,h2,by rw [Yu] at h3;omega⟩
def cY (user:Int) (a:Rf) (b:Bk):Int:=if bkE b≠0 then bkE b else if user<0∨b.users≤user then 2 else if a.valid=false then 3 else (jr b.ents).2
theorem lQ {user:Int} {a:Rf} {b:Bk} (h:cY user a b=0):BkOk b∧0≤user∧user<b.users∧a.valid=true∧ ∃ G,jr b.ents=(some G,0)∧GrOk G∧G.length≤b.ents.length:=by
 unfold cY at h;split at h
 ·rename_i h1;exact absurd h h1
 rename_i h1;split at h
 ·cases h
 rename_i h2;split at h
 ·cases h
 rename_i h3;refine ⟨P9.1 (by omega),by omega,by omega,by simpa using h3,?_⟩;rcases uG b.ents with ⟨e,he,h4⟩|h4
 ·rw [h4] at h;exact absurd h he
 ·exact h4
theorem uE {a:Rf}:(bY ⟨a.col,a.row,a.col,a.row⟩=0)↔a.valid=true:=by
 rw [jm,aV];unfold Rf.valid valid;simp only [Xo,decide_eq_true_eq];omega
theorem zi (user:Int) (a:Rf) (b:Bk) (x:Bv) (w:World) (h:BRd w b x) (hW:Words w) (hlen:b.ents.length≤1000000):
 FnAt Tryz.prog 39 [.int .i64 user,aC a,.agg (bg b x).toArray] w fun v H=>(cY user a b≠0∧v= .tuple #[.pointer none,.int .i64 (cY user a b)]∧H= [])∨(cY user a b=0∧ ∃ gx gg gm E clock R G,jr b.ents=(some G,0)∧GOk R E clock G∧v= .tuple #[.pointer (some ⟨gx,0,none⟩),.int .i64 0]∧H=lkB gx user.toNat b x gg (.map none)::(gB gg gm (E.map En.m) clock++R)):=by
 refine aB Tryz.func39 rfl Tryz.ntmps39 rfl ?_;have hck:=fun (w' :World) (H:List Blk) (hm:Mem w w' H)=>nS b x w' (h.of_w0 hm) (hW.next hm) hlen;have hN:=fun (w' :World) (H:List Blk) (hm:Mem w w' H)=>zr b.ents _ w' (h.e.of_w0 hm) hlen (hW.next hm);have hre:=fun w=>dQ ⟨a.col,a.row,a.col,a.row⟩ w;have hov:=uE (a:=a);have hone:=fun w=>pO a w;unfold cY;simp only [bg];generalize bY ⟨a.col,a.row,a.col,a.row⟩=z at hre hov;generalize bkE b=e1 at hck ⊢;by_cases h1:e1≠0
 ·rw [if_pos h1];repeat' (first|apply aa (f:=35);exact rfl;exact rfl;intro w' hm;exact hck w' _ hm|refine zZB ?_|refine sM fun _=>?_|refine sC ?_ ?_<;>intro hb<;>try omega|fail)
  all_goals first
   |omega
   |refine di eIO rfl rfl rfl (H' := []) mS (.inl ⟨h1,rfl,rfl⟩);done
 rw [if_neg h1];by_cases h2:user<0∨b.users≤user
 ·rw [if_pos h2];repeat' (first|apply aa (f:=35);exact rfl;exact rfl;intro w' hm;exact hck w' _ hm|refine zZB ?_|refine sM fun _=>?_|refine sC ?_ ?_<;>intro hb<;>try omega|fail)
  all_goals first
   |omega
   |refine di eIO rfl rfl rfl (H' := []) mS (.inl ⟨by decide,rfl,rfl⟩);done
 rw [if_neg h2];obtain ⟨un,rfl⟩: ∃ un:Nat,user=(un:Int):=⟨user.toNat,by omega⟩;by_cases h3:a.valid=false
 ·rw [if_pos h3];have hz:z≠0:=fun hz=>by rw [hov.1 hz] at h3;cases h3
  repeat' first|apply aa (f:=35);exact rfl;exact rfl;intro w' hm;exact hck w' _ hm|apply aa;exact rfl;exact rfl;intro w hm;exact hone w|apply aa;exact rfl;exact rfl;intro w hm;exact hre w|refine zZB ?_|refine sM fun _=>?_|refine sC ?_ ?_<;>intro hb<;>try omega|fail
  all_goals first
   |omega
   |refine di eIO rfl rfl rfl (H' := []) mS (.inl ⟨by decide,rfl,rfl⟩);done
 rw [if_neg h3];have hz:z=0:=hov.2 (by simpa using h3);rcases uG b.ents with ⟨e,he,hG⟩|⟨G,hG,_,_⟩
 ·rw [hG] at hN ⊢;have hN2:=fun (w' :World) (H:List Blk) (hm:Mem w w' H)=>(hN w' H hm).mono (R' :=fun v H=>v= .tuple #[.pointer none,.int .i64 e]∧H= []) fun v H h=>(by unfold U0 at h;exact h);repeat' (first|apply aa (f:=35);exact rfl;exact rfl;intro w' hm;exact hck w' _ hm|apply aa;exact rfl;exact rfl;intro w hm;exact hone w|apply aa;exact rfl;exact rfl;intro w hm;exact hre w|apply aw (f:=21);exact rfl;exact rfl;intro w' hm;exact hN2 w' _ hm;rintro _ _ ⟨rfl,rfl⟩|refine zZB ?_|refine sM fun _=>?_|refine sC ?_ ?_<;>intro hb<;>try omega|fail)
  all_goals first
   |omega
   |refine di eIO rfl rfl rfl (H' := []) mS (.inl ⟨he,rfl,rfl⟩);done
 ·rw [hG] at hN ⊢;have hN2:=fun (w' :World) (H:List Blk) (hm:Mem w w' H)=>(hN w' H hm).mono (R' :=fun v H=> ∃ gg gm E clock R,v= .tuple #[.pointer (some ⟨gg,0,none⟩),.int .i64 0]∧H=gB gg gm (E.map En.m) clock++R∧GOk R E clock G) fun v H h=>(by unfold U0 at h;exact h);repeat' (first|apply aa (f:=35);exact rfl;exact rfl;intro w' hm;exact hck w' _ hm|apply aa;exact rfl;exact rfl;intro w hm;exact hone w|apply aa;exact rfl;exact rfl;intro w hm;exact hre w|apply aw (f:=21);exact rfl;exact rfl;intro w' hm;exact hN2 w' _ hm;rintro _ _ ⟨gg,gm,E,clock,R,rfl,rfl,hA⟩;refine cJ (_++(gB gg gm (E.map En.m) clock++R)) MSub.swap ?_;simp only [Xc,Xd]|refine zZB ?_|refine sM fun _=>?_|refine sC ?_ ?_<;>intro hb<;>try omega|fail)
  all_goals try omega
  rename_i g4 g5 g6;exact di eIO rfl rfl rfl (H' :=lkB g6 un b x gg (.map none)::(gB gg gm (E.map En.m) clock++R)) (MSub.pick .hd (MSub.drop .hd (MSub.drop .hd (MSub.refl _)))) (.inr ⟨by first|trivial|rfl,g6,gg,gm,E,clock,R,G,by first|rfl|trivial,hA,rfl,rfl⟩)
theorem K6 {G:Gr} {w:Lw} {u:Nat} (L:List Rf) (i:Nat) (hi:i<L.length):fI G w u (L.drop i)=(L[i].valid && if h:i+1<L.length then (rdU w u L[i] && (cG G w u L[i]).any fun r=>aI r (L[i+1]'h)) && fI G w u (L.drop (i+1)) else !rdU w u L[i]):=by
 rw [XC hi];by_cases h:i+1<L.length
 ·rw [dif_pos h,XC h,fI,Bool.and_assoc]
 ·rw [dif_neg h,ZU (by omega),fI]
section
variable {u:Nat} {b:Bk} {x:Bv} {gg:Nat} {G:Gr} {B F0:List Blk} {w0:World} (D:Lkd u b x gg G B F0 w0) (gx:Nat) (dv:Value) {F:List Blk} (hF:MSub F0 F)
include D hF
theorem QP (r:Rct) (L:List Rf) (Al:Option Addr) (cl:Nat) (i:Nat) (hi:i+1<L.length) (hl:L.length≤1000000) (hrd: ∀ w',Mem w0 w' F0→Reads w' (.slice Al L.length cl) L.length (L.flatMap aq)) (gp gi:Nat):FnIn Tryz.prog 87 [.agg (ay r).toArray,.pointer (some ⟨gp,0,none⟩),.pointer (some ⟨gi,0,none⟩)] w0 (.box gp 36 [.slice Al L.length cl]:: .box gi 3 [.int .i64 (i:Int)]::F) fun v H' =>v= .bool (aI r (L[i+1]'hi))∧H' = .box gp 36 [.slice Al L.length cl]:: .box gi 3 [.int .i64 (i:Int)]::F:=by
 have _:=D;refine bI Tryz.func87 rfl Tryz.ntmps87 rfl ?_;have hr2:=fun (w' :World) (H:List Blk) (hs:MSub F H) (hm:Mem w0 w' H)=>hrd w' ((hF.trans hs).use hm);have hread:((L.flatMap aq).drop ((i+1)*2)).take 2=aq (L[i+1]'hi):=aM bD L (i+1) hi;generalize L[i+1]'hi=c at hread ⊢;have hha:=fun w=>jA r c w;refine J3 (fun w' hm=>hr2 w' _ mS hm) (by omega) fun gr orr cr2 hlv=> ?_;cases hlv;have hcl:=fun (w' :World) (H:List Blk) (hs:MSub F H) (hm:Mem w0 w' H)=>pJ (hr2 w' H hs hm) (by omega);repeat' (first|apply aQ (d:=8);exact rfl;apply gZ;exact rfl;exact rfl;simp only [maxLen] at*;omega|apply aQ (d:=9);exact rfl;apply ai (j:=i+1);exact rfl;exact rfl;exact hi|apply aQ (d:=10);exact rfl;apply eH (off:=(i+1)*2);intro w' hm;exact hcl w' _ mS hm;exact rfl;exact hread;exact rfl|apply df (f:=28);exact rfl;exact rfl;intro w' hm;exact hha w'|refine zZF ?_|refine sM fun _=>?_|refine sC ?_ ?_<;>intro hb<;>try omega|refine sCQ ?_ ?_<;>intro hb<;>try omega|fail)
 all_goals first
  |omega
  |refine bo eIO rfl rfl (H' := .box gp 36 [.slice (some ⟨gr,orr,none⟩) L.length cl]:: .box gi 3 [.int .i64 (i:Int)]::F) mS ⟨rfl,rfl⟩;done
theorem Nw (L:List Rf) (Al:Option Addr) (cl:Nat) (hl:L.length≤1000000) (hrd: ∀ w',Mem w0 w' F0→Reads w' (.slice Al L.length cl) L.length (L.flatMap aq)):FnIn Tryz.prog 45 [.pointer (some ⟨gx,0,none⟩),.slice Al L.length cl] w0 (lkB gx u b x gg dv::F) fun v H' =>v= .bool (fI G (lwB b) u L)∧H' =lkB gx u b x gg dv::F:=by
 refine bI Tryz.func45 rfl Tryz.ntmps45 rfl ?_;have hr2:=fun (w' :World) (H:List Blk) (hs:MSub F H) (hm:Mem w0 w' H)=>hrd w' ((hF.trans hs).use hm);have hrs:=fun (a:Rf) (H:List Blk) (hs:MSub F H)=>yf D gx dv (hF.trans hs) a;have hop:=fun (a:Rf) (H:List Blk) (hs:MSub F H)=>s9 D gx dv (hF.trans hs) a;have hol:=fun (a:Rf)=>oS D hF (a:=a);have hct:=fun (R:List Rct) (hRl:R.length≤1000000) (A:Option Nat) (c:Nat) (i:Nat) (hi:i+1<L.length) (gp gi:Nat) (H:List Blk) (hs:MSub F H)=>rj 87 [.pointer (some ⟨gp,0,none⟩),.pointer (some ⟨gi,0,none⟩)] (fun r=>aI r (L[i+1]'hi)) R A c hRl w0 (.box gp 36 [.slice Al L.length cl]:: .box gi 3 [.int .i64 (i:Int)]:: .own A 31 4 R.length c (R.flatMap ay)::H) (.tl (.tl .hd)) (fun r hr=>QP D (hF:=hF.trans (MSub.drop .hd hs)) r L Al cl i hi hl hrd gp gi);have hwd:=fun i (hi:i<L.length)=>K6 (G:=G) (w:=lwB b) (u:=u) L i hi;refine S9 (fun w' hm=>hr2 w' _ mS hm) fun Al2 cl2 hlv=> ?_;cases hlv;repeat' (first|refine zZB ?_|refine sM fun _=>?_|refine sC ?_ ?_<;>intro hb<;>try omega|fail)
 rename_i g3;refine ax [0,3,8,9] rfl (fun i:Nat=> [(10,.int .i64 (i:Int))]) (fun _=> .box g3 36 [.slice Al L.length cl]::lkB gx u b x gg dv::F) (fun i=>i≤L.length∧fI G (lwB b) u L=fI G (lwB b) u (L.drop i)) (fun i=>L.length - i) 0 ⟨Xn _,by rw [Zl]⟩ sB mS ?_;rintro i ⟨hi,hw⟩;by_cases hlt:i<L.length
 ·have hread:((L.flatMap aq).drop (i*2)).take 2=aq L[i]:=aM bD L i hlt;have hct:=fun hi=>fun R hR A c=>hct R hR A c i hi;have hw2:=hw.trans (hwd i hlt);clear hw;generalize hci:L[i]=c at hread hw2;have hre:=fun w=>dQ ⟨c.col,c.row,c.col,c.row⟩ w;have hov:=uE (a:=c);have hone:=fun w=>pO c w;generalize bY ⟨c.col,c.row,c.col,c.row⟩=z at hre hov;have hrs:=hrs c;have hop:=hop c;have hol:=hol c;generalize rdU (lwB b) u c=rb at hrs hw2;generalize cG G (lwB b) u c=R at hop hol hw2;refine J3 (fun w' hm=>hr2 w' _ mS hm) (by omega) fun gr orr cr2 hlv=> ?_;cases hlv;have hcl:=fun (w' :World) (H:List Blk) (hs:MSub F H) (hm:Mem w0 w' H)=>pJ (hr2 w' H hs hm) (by omega);by_cases hcv:c.valid=true
  ·have hz:z=0:=hov.2 hcv;rw [hcv,XT] at hw2;by_cases hlast:i+1<L.length
   ·have hct:=hct hlast R (by omega);rw [dif_pos hlast] at hw2;generalize L[i+1]'hlast=c1 at hct hw2
    cases rb with
    |false=>
     rw [XX,XX] at hw2;rw [hw2];repeat' (first|apply ak (d:=13);exact rfl;apply ai (j:=i);exact rfl;exact rfl;exact hlt|apply ak (d:=14);exact rfl;apply eH (off:=i*2);intro w' hm;exact hcl w' _ mS hm;exact rfl;exact hread;exact rfl|apply aa;exact rfl;exact rfl;intro w hm;exact hone w|apply aa;exact rfl;exact rfl;intro w hm;exact hre w|apply aj (f:=81);exact rfl;exact rfl;refine FnIn.msub (hrs _ ?_) (MSub.pick pK (MSub.refl _));(focus (exact mS;done));rintro _ _ ⟨rfl,rfl⟩|refine zZA ?_|refine sM fun _=>?_|refine sC ?_ ?_<;>intro hb<;>try omega|fail)
     all_goals first
      |omega
      |exfalso;simp_all;done
      |refine bo eIO rfl rfl (H' :=lkB gx u b x gg dv::F) mS ⟨rfl,rfl⟩;done
    |true=>
     have hbl:((i:Int)=((L.length - 1:Nat):Int))=False:=eq_false (by omega);have hbt:(true==decide ((i:Int)=((L.length - 1:Nat):Int)))=false:=by rw [decide_eq_false (by omega)];rfl
     rw [XT] at hw2;generalize (R.any fun r=>aI r c1)=an at hct hw2
     cases an with
     |false=>
      rw [XX] at hw2;rw [hw2];repeat' (first|apply ak (d:=13);exact rfl;apply ai (j:=i);exact rfl;exact rfl;exact hlt|apply ak (d:=14);exact rfl;apply eH (off:=i*2);intro w' hm;exact hcl w' _ mS hm;exact rfl;exact hread;exact rfl|apply aa;exact rfl;exact rfl;intro w hm;exact hone w|apply aa;exact rfl;exact rfl;intro w hm;exact hre w|apply aj (f:=81);exact rfl;exact rfl;refine FnIn.msub (hrs _ ?_) (MSub.pick pK (MSub.refl _));(focus (exact mS;done));rintro _ _ ⟨rfl,rfl⟩|apply aj (f:=85);exact rfl;exact rfl;refine FnIn.msub (hop _ ?_) (MSub.pick pK (MSub.refl _));(focus (exact mS;done));rintro _ _ ⟨Ao,co,rfl,rfl⟩|apply aj (f:=61);exact rfl;exact rfl;refine FnIn.msub (hct _ _ _ _ _ ?_) (MSub.pick pK (MSub.pick pK (MSub.pick pK (MSub.refl _))));(focus (exact mS;done));rintro _ _ ⟨rfl,rfl⟩|refine zZA ?_|refine sM fun _=>?_|refine sC ?_ ?_<;>intro hb<;>try omega|fail)
      all_goals first
      |omega
      |exfalso;simp_all;done
      |refine bo eIO rfl rfl (H' :=lkB gx u b x gg dv::F) mS ⟨rfl,rfl⟩;done
     |true=>
      rw [XT] at hw2;repeat' (first|apply ak (d:=13);exact rfl;apply ai (j:=i);exact rfl;exact rfl;exact hlt|apply ak (d:=14);exact rfl;apply eH (off:=i*2);intro w' hm;exact hcl w' _ mS hm;exact rfl;exact hread;exact rfl|apply aa;exact rfl;exact rfl;intro w hm;exact hone w|apply aa;exact rfl;exact rfl;intro w hm;exact hre w|apply aj (f:=81);exact rfl;exact rfl;refine FnIn.msub (hrs _ ?_) (MSub.pick pK (MSub.refl _));(focus (exact mS;done));rintro _ _ ⟨rfl,rfl⟩|apply aj (f:=85);exact rfl;exact rfl;refine FnIn.msub (hop _ ?_) (MSub.pick pK (MSub.refl _));(focus (exact mS;done));rintro _ _ ⟨Ao,co,rfl,rfl⟩|apply aj (f:=61);exact rfl;exact rfl;refine FnIn.msub (hct _ _ _ _ _ ?_) (MSub.pick pK (MSub.pick pK (MSub.pick pK (MSub.refl _))));(focus (exact mS;done));rintro _ _ ⟨rfl,rfl⟩|refine zZA ?_|refine sM fun _=>?_|refine sC ?_ ?_<;>intro hb<;>try omega|fail)
      all_goals first
      |omega
      |(exfalso;rw [hbt] at hb;cases hb)
      |exfalso;simp_all;done
      |refine ⟨i+1,⟨hlt,hw2⟩,by omega,by exact sB,by exact sB,by exact mS⟩;done
   ·have hbl:((i:Int)=((L.length - 1:Nat):Int))=True:=eq_true (by omega);rw [dif_neg hlast] at hw2
    cases rb with
    |true=>
     rw [Z3] at hw2;rw [hw2];repeat' (first|apply ak (d:=13);exact rfl;apply ai (j:=i);exact rfl;exact rfl;exact hlt|apply ak (d:=14);exact rfl;apply eH (off:=i*2);intro w' hm;exact hcl w' _ mS hm;exact rfl;exact hread;exact rfl|apply aa;exact rfl;exact rfl;intro w hm;exact hone w|apply aa;exact rfl;exact rfl;intro w hm;exact hre w|apply aj (f:=81);exact rfl;exact rfl;refine FnIn.msub (hrs _ ?_) (MSub.pick pK (MSub.refl _));(focus (exact mS;done));rintro _ _ ⟨rfl,rfl⟩|refine zZA ?_|refine sM fun _=>?_|refine sC ?_ ?_<;>intro hb<;>try omega|fail)
     all_goals first
      |omega
      |exfalso;simp_all;done
      |refine bo eIO rfl rfl (H' :=lkB gx u b x gg dv::F) mS ⟨rfl,rfl⟩;done
    |false=>
     have hw3:fI G (lwB b) u L=fI G (lwB b) u (L.drop (i+1)):=by rw [hw2,ZU (by omega)];rfl
     repeat' first|apply ak (d:=13);exact rfl;apply ai (j:=i);exact rfl;exact rfl;exact hlt|apply ak (d:=14);exact rfl;apply eH (off:=i*2);intro w' hm;exact hcl w' _ mS hm;exact rfl;exact hread;exact rfl|apply aa;exact rfl;exact rfl;intro w hm;exact hone w|apply aa;exact rfl;exact rfl;intro w hm;exact hre w|apply aj (f:=81);exact rfl;exact rfl;refine FnIn.msub (hrs _ ?_) (MSub.pick pK (MSub.refl _));(focus (exact mS;done));rintro _ _ ⟨rfl,rfl⟩|refine zZA ?_|refine sM fun _=>?_|refine sC ?_ ?_<;>intro hb<;>try omega|fail
     all_goals first
      |omega
      |exfalso;simp_all;done
      |refine ⟨i+1,⟨hlt,hw3⟩,by omega,by exact sB,by exact sB,by exact mS⟩;done
  ·have hz:z≠0:=fun h=>hcv (hov.1 h);have hcf:c.valid=false:=by simpa using hcv
   rw [hcf,XX] at hw2;rw [hw2];repeat' (first|apply ak (d:=13);exact rfl;apply ai (j:=i);exact rfl;exact rfl;exact hlt|apply ak (d:=14);exact rfl;apply eH (off:=i*2);intro w' hm;exact hcl w' _ mS hm;exact rfl;exact hread;exact rfl|apply aa;exact rfl;exact rfl;intro w hm;exact hone w|apply aa;exact rfl;exact rfl;intro w hm;exact hre w|apply aj (f:=81);exact rfl;exact rfl;refine FnIn.msub (hrs _ ?_) (MSub.pick pK (MSub.refl _));(focus (exact mS;done));rintro _ _ ⟨rfl,rfl⟩|refine zZA ?_|refine sM fun _=>?_|refine sC ?_ ?_<;>intro hb<;>try omega|fail)
   all_goals first
    |omega
    |refine bo eIO rfl rfl (H' :=lkB gx u b x gg dv::F) mS ⟨rfl,rfl⟩;done
 ·have e:i=L.length:=by omega
  subst e;rw [X0,fI] at hw;rw [hw];repeat' (first|refine zZB ?_|refine sM fun _=>?_|refine sC ?_ ?_<;>intro hb<;>try omega|fail)
  all_goals first
   |omega
   |refine bo eIO rfl rfl (H' :=lkB gx u b x gg dv::F) mS ⟨rfl,rfl⟩;done
end
theorem PA {α:Type} (p:α→Bool) (L:List α):(L.filter p).length+(L.filter fun f=> !p f).length=L.length:=by
 induction L with
 |nil=>rfl
 |cons a l ih=>
  simp only [YA,Xs];cases p a<;>simp<;>omega
section
variable {u:Nat} {b:Bk} {x:Bv} {gg:Nat} {G:Gr} {B F0:List Blk} {w0:World} (D:Lkd u b x gg G B F0 w0) (gx:Nat) (dv:Value) {F:List Blk} (hF:MSub F0 F)
include D hF
theorem Dt:FnIn Tryz.prog 82 [.pointer (some ⟨gx,0,none⟩)] w0 (lkB gx u b x gg dv::F) fun v H' => ∃ gd,v= .map (some gd)∧H' = .obj gd (aK aC (dM (gH G (lwB b) u (aZ b.rules (u:Int)) (ap G))) (gH G (lwB b) u (aZ b.rules (u:Int)) (ap G)).length)::lkB gx u b x gg dv::F:=by
 refine bI Tryz.func82 rfl Tryz.ntmps82 rfl ?_;have hFm:=fun H (hs:MSub F H)=>D.rd.fm H ((D.sub.trans hF).trans hs);have hrd:=fun (a:Rf) (H:List Blk) (hs:MSub F H)=>yf D gx dv (hF.trans hs) a;have hed:=fun (a:Rf) (H:List Blk) (hs:MSub F H)=>PL D gx dv (hF.trans hs) a;have hop:=fun (a:Rf) (H:List Blk) (hs:MSub F H)=>s9 D gx dv (hF.trans hs) a;have hol:=fun (a:Rf)=>oS D hF (a:=a);have hKn:(ap G).Nodup:=D.rd.g.sort.nodup;have hKl:(ap G).length≤900:=by have:=D.rd.l;rw [ap,Xq];exact this
 have hst:=DsI.start (G:=G) (w:=lwB b) (u:=u) (hid:=aZ b.rules (u:Int)) (ap G) hKn;have hfin:qW G (lwB b) u ((ap G).length+1) (iL G (lwB b) u (aZ b.rules (u:Int)) (ap G)) (jM G (lwB b) u (aZ b.rules (u:Int)) (ap G)) 1=gH G (lwB b) u (aZ b.rules (u:Int)) (ap G):=rfl;obtain ⟨O9,hO9⟩: ∃ O,gH G (lwB b) u (aZ b.rules (u:Int)) (ap G)=O:=⟨_,rfl⟩;rw [hO9] at hfin ⊢;clear hO9;generalize aZ b.rules (u:Int)=hid at hed hst hfin;obtain ⟨K,hKe⟩: ∃ K,ap G=K:=⟨_,rfl⟩;rw [hKe] at hFm hKn hKl hst hfin;refine aF 34 2 ?_;repeat' (first|apply cL (d:=20) (enc:=aC);exact rfl;intro gd|apply aj (f:=92);exact rfl;exact rfl;exact hFm _ mS;rintro _ _ ⟨Ac,cap,rfl,rfl⟩|refine zZB ?_|refine sM fun _=>?_|refine sC ?_ ?_<;>intro hb<;>try omega|fail)
 all_goals try omega
 refine ax [0,3,25,26] rfl (fun y:Nat × (Option Nat × Nat)=> [(4,sl y.2.1 (jM G (lwB b) u hid (K.take y.1)).length y.2.2),(27,.int .i64 (y.1:Int))]) (fun y=> .own y.2.1 34 2 (jM G (lwB b) u hid (K.take y.1)).length y.2.2 ((jM G (lwB b) u hid (K.take y.1)).flatMap aq):: .obj gd (aK aC (dM (iL G (lwB b) u hid (K.take y.1))) (iL G (lwB b) u hid (K.take y.1)).length):: .own Ac 34 2 K.length cap (K.flatMap aq)::lkB gx u b x gg dv::F) (fun y=>y.1≤K.length) (fun y=>K.length - y.1) (0,(none,0)) (Xn _) sB mS ?_;rintro ⟨i,A7,c7⟩ hi;dsimp only at hi ⊢;have hl0:=Mb (G:=G) (w:=lwB b) (u:=u) (hid:=hid) (K:=K.take i);rw [XA] at hl0;by_cases hlt:i<K.length
 ·refine aU (A:=Ac) pK (by omega) fun gk hA=> ?_;subst hA;have hread:=uz hlt;have hnt:=FO hKn hlt;have e1:K.take (i+1)=K.take i++ [K[i]]:=Xk hlt;have hd:=Jp (G:=G) (w:=lwB b) (u:=u) (hid:=hid) (K.take i) K[i];have hlf:=I2 (G:=G) (w:=lwB b) (u:=u) (hid:=hid) (K.take i) K[i];rw [← e1] at hd hlf;have hput:gK K[i] (.int .i64 1) (iL G (lwB b) u hid (K.take i)).length (dM (iL G (lwB b) u hid (K.take i)))=_:=PU (O:=iL G (lwB b) u hid (K.take i)) (c:=K[i]) (d:=1) fun h=>hnt (ME h);generalize K[i]=c at hread hd hlf hput;have hrd:=hrd c;have hed:=hed c;generalize rdU (lwB b) u c=rb at hrd hd hlf;generalize (jx G (lwB b) u hid c).isSome=eb at hed hd hlf;generalize (jx G (lwB b) u hid c).getD zF=ec at hed;generalize jM G (lwB b) u hid (K.take i)=V at hl0 hlf ⊢;generalize iL G (lwB b) u hid (K.take i)=O at hd hput ⊢;repeat' (first|apply ak (d:=29);exact rfl;apply ai (j:=i);exact rfl;exact rfl;exact hlt|apply ak (d:=30);exact rfl;apply au (ys:=aq c);exact rfl;exact pK;exact hread;exact rfl|apply aj (f:=81);exact rfl;exact rfl;refine FnIn.msub (hrd _ ?_) (MSub.pick pK (MSub.refl _));(focus (exact mS;done));rintro _ _ ⟨rfl,rfl⟩|apply aj (f:=86);exact rfl;exact rfl;refine FnIn.msub (hed _ ?_) (MSub.pick pK (MSub.refl _));(focus (exact mS;done));rintro _ _ ⟨rfl,rfl⟩|apply cB (enc:=aC) (k:=c);(iterate 3 exact rfl);exact pK;rw [hput]|apply aN (d:=47) (A:=A7) (m:=1);(iterate 3 exact rfl);exact pK;intro w hm;exact hm.cells_own pK;exact rfl;simp [Value.oneCell',sl];omega;simp only [maxLen];omega;intro B7 b7 hB7|refine zZA ?_|refine sM fun _=>?_|refine sC ?_ ?_<;>intro hb<;>try omega|fail)
  all_goals first
   |omega
   |(refine ⟨(i+1,(A7,c7)),hlt,by dsimp only;omega,?_,by exact sB,?_⟩<;>(dsimp only;rw [hlf];try rw [hd])<;>(simp_all only [Bool.true_and,Bool.false_and,Bool.not_true,Bool.not_false,if_true,Bool.false_eq_true,if_false,List.append_nil,Bool.not_eq_true])<;>first|exact sB;done|exact mS;done)
   |(refine ⟨(i+1,(B7,b7)),hlt,by dsimp only;omega,?_,by exact sB,?_⟩<;>(dsimp only;rw [hlf];try rw [hd])<;>(simp_all only [Bool.true_and,Bool.false_and,Bool.not_true,Bool.not_false,if_true,Bool.false_eq_true,if_false,List.append_nil,Bool.not_eq_true,List.length_append,List.length_singleton,List.flatMap_append,List.flatMap_cons,List.flatMap_nil])<;>first|exact sB;done|exact mS;done)
 have hi2:i=K.length:=by omega
 subst hi2;rw [XF] at hl0 ⊢;repeat' (first|refine zZA ?_|refine sM fun _=>?_|refine sC ?_ ?_<;>intro hb<;>try omega|fail)
 all_goals try omega
 refine ax [0,3] rfl (fun y:List (Rf × Nat) × List Rf × Nat × Nat × (Option Nat × Nat)=> [(4,sl y.2.2.2.2.1 y.2.1.length y.2.2.2.2.2),(9,.int .i64 (y.2.2.1:Int))]) (fun y=> .own y.2.2.2.2.1 34 2 y.2.1.length y.2.2.2.2.2 (y.2.1.flatMap aq):: .obj gd (aK aC (dM y.1) y.1.length)::lkB gx u b x gg dv::F) (fun y=>DsI G (lwB b) u hid K y.1 y.2.1 y.2.2.1∧qW G (lwB b) u y.2.2.2.1 y.1 y.2.1 y.2.2.1=O9∧y.2.1.length<y.2.2.2.1∧y.2.2.1+y.2.2.2.1≤K.length+2) (fun y=>y.2.2.2.1) (iL G (lwB b) u hid K,jM G (lwB b) u hid K,1,K.length+1,(A7,c7)) ⟨hst,hfin,by dsimp only;omega,by dsimp only;omega⟩ sB mS ?_;clear hst hfin hl0;rintro ⟨O,V,far,n,A7,c7⟩ ⟨hI,hfin,hVn,hfn⟩;dsimp only at hI hfin hVn hfn ⊢;obtain ⟨m,rfl⟩: ∃ m,n=m+1:=⟨n - 1,by omega⟩;rw [qW] at hfin;have hOl:=hI.olen;have hok:=TF hI.od;refine aF 34 2 ?_;refine aF 34 2 ?_;repeat' (first|refine zZA ?_|refine sM fun _=>?_|refine sC ?_ ?_<;>intro hb<;>try omega|fail)
 all_goals try omega
 refine ax [0,3,9,51,52] rfl (fun y:Nat × List Rf × List Rf × (Option Nat × Nat) × (Option Nat × Nat)=> [(10,sl y.2.2.2.1.1 y.2.1.length y.2.2.2.1.2),(11,sl y.2.2.2.2.1 y.2.2.1.length y.2.2.2.2.2),(53,.int .i64 (y.1:Int))]) (fun y=> .own y.2.2.2.1.1 34 2 y.2.1.length y.2.2.2.1.2 (y.2.1.flatMap aq):: .own y.2.2.2.2.1 34 2 y.2.2.1.length y.2.2.2.2.2 (y.2.2.1.flatMap aq):: .own A7 34 2 V.length c7 (V.flatMap aq):: .obj gd (aK aC (dM O) O.length)::lkB gx u b x gg dv::F) (fun y=>y.1≤V.length∧y.2.1=(V.take y.1).filter (fun f=> !gL G (lwB b) u O far f)∧y.2.2.1=(V.take y.1).filter (gL G (lwB b) u O far)) (fun y=>V.length - y.1) (0,[],[],(none,0),(none,0)) ⟨Xn _,rfl,rfl⟩ sB mS ?_;rintro ⟨i,S,T,⟨A1,c1⟩,⟨A2,c2⟩⟩ ⟨hi,hS,hT⟩;dsimp only at hi hS hT ⊢;have hSl:S.length≤V.length:=by rw [hS];exact XU (XS _ _) (by rw [XA];omega)
 have hTl:T.length≤V.length:=by rw [hT];exact XU (XS _ _) (by rw [XA];omega)
 by_cases hlt:i<V.length
 ·refine aU (A:=A7) pK (by omega) fun gk hA=> ?_;subst hA;have hread:=uz hlt;have hsS:=tI (p:=fun f=> !gL G (lwB b) u O far f) hlt;have hsT:=tI (p:=gL G (lwB b) u O far) hlt;rw [← hS] at hsS;rw [← hT] at hsT;generalize V[i]=c at hread hsS hsT;have hop:=hop c;have hol:=hol c;have hfb:gL G (lwB b) u O far c=(cG G (lwB b) u c).any fun r=>O.any fun x=>decide (x.2=far) && aI r x.1:=rfl;generalize gL G (lwB b) u O far c=fb at hsS hsT hfb;generalize cG G (lwB b) u c=R at hop hol hfb;repeat' (first|apply ak (d:=55);exact rfl;apply ai (j:=i);exact rfl;exact rfl;exact hlt|apply ak (d:=56);exact rfl;apply au (ys:=aq c);exact rfl;exact pK;exact hread;exact rfl|apply aj (f:=85);exact rfl;exact rfl;refine FnIn.msub (hop _ ?_) (MSub.pick pK (MSub.refl _));(focus (exact mS;done));rintro _ _ ⟨Ao,co,rfl,rfl⟩|refine zZA ?_|refine sM fun _=>?_|refine sC ?_ ?_<;>intro hb<;>try omega|fail)
  all_goals try omega
  rename_i g13;refine ax [0,3,9,10,11,13,51,52,53,59,60] rfl (fun y:Nat=> [(61,.int .i64 (y:Int))]) (fun _=> .own Ao 31 4 R.length co (R.flatMap ay):: .box g13 34 (aq c):: .own A1 34 2 S.length c1 (S.flatMap aq):: .own A2 34 2 T.length c2 (T.flatMap aq):: .own (some gk) 34 2 V.length c7 (V.flatMap aq):: .obj gd (aK aC (dM O) O.length)::lkB gx u b x gg dv::F) (fun j=>j≤R.length∧ ∀ q (h:q<R.length),q<j→(O.any fun x=>decide (x.2=far) && aI R[q] x.1)=false) (fun j=>R.length - j) 0 ⟨Xn _,fun q _ h=>absurd h (YY _)⟩ sB mS ?_;rintro j ⟨hj,hno⟩;by_cases hltj:j<R.length
  ·refine aU (A:=Ao) pK (by omega) fun go hA=> ?_;subst hA;have hreadr:((R.flatMap ay).drop (0+j*4)).take 4=ay R[j]:=by rw [Xv];exact aM bM R j hltj
   have hyes:(O.any fun x=>decide (x.2=far) && aI R[j] x.1)=true→fb=true:=fun h=>by
    rw [hfb];exact XQ.2 ⟨_,XO hltj,h⟩
   have hnx:(O.any fun x=>decide (x.2=far) && aI R[j] x.1)=false→ ∀ q (h:q<R.length),q<j+1→(O.any fun x=>decide (x.2=far) && aI R[q] x.1)=false:=fun h0 q h hq=>by
    by_cases e:q=j
    ·subst e;exact h0
    ·exact hno q h (by omega)
   generalize R[j]=r at hreadr hyes hnx;repeat' (first|apply ak (d:=63);exact rfl;apply ai (j:=j);exact rfl;exact rfl;exact hltj|apply ak (d:=64);exact rfl;apply au (ys:=ay r);exact rfl;exact pK;exact hreadr;exact rfl|apply dN (enc:=aC);exact rfl;exact rfl;exact pK;intro gi|refine zZA ?_|refine sM fun _=>?_|refine sC ?_ ?_<;>intro hb<;>try omega|fail)
   all_goals try omega
   rename_i g15;refine ax [0,3,9,10,11,13,15,51,52,53,59,60,61,66] rfl (fun _:List (Rf × Value × Nat)=> []) (fun vis=> .obj gi (je gd O.length (vis.map fun e=>e.2.2)):: .box g15 31 (ay r):: .own (some go) 31 4 R.length co (R.flatMap ay):: .box g13 34 (aq c):: .own A1 34 2 S.length c1 (S.flatMap aq):: .own A2 34 2 T.length c2 (T.flatMap aq):: .own (some gk) 34 2 V.length c7 (V.flatMap aq):: .obj gd (aK aC (dM O) O.length)::lkB gx u b x gg dv::F) (fun vis=>Vis (dM O) vis∧ ∀ e∈vis,∀ a d k,e=(a,Value.int .i64 ((d:Nat):Int),k)→ ¬ (d=far∧aI r a=true)) (fun vis=>(dM O).length - vis.length) [] ⟨Vis.nil _,fun _ h=>by cases h⟩ sB mS ?_;rintro vis ⟨hvis,hnov⟩;have hvl:=hvis.len;have hha:=fun a w=>jA r a w;repeat' (first|apply eC (enc:=aC);exact rfl;exact rfl;exact pK;exact pK;exact hok;intro e he hne;have hvlt:=hvis.lt he hne;have hvst:=hvis.step he hne;obtain ⟨a,d,k,had,rfl⟩:=Jr he|intro hall|apply ak;exact rfl;apply lH (enc:=aC);exact rfl;exact pK;exact pK;exact he;exact hok|apply aa (f:=28);exact rfl;exact rfl;intro w' hm;exact hha _ w'|apply aN (d:=83) (A:=A2) (m:=1);(iterate 3 exact rfl);exact pK;intro w hm;exact hm.cells_own pK;exact rfl;simp [Value.oneCell',sl];omega;simp only [maxLen];omega;intro B2 b2 hB2|refine zZA ?_|refine sM fun _=>?_|refine sC ?_ ?_<;>intro hb<;>try omega|fail)
   all_goals first
    |omega
    | (have hd2 : d = far := by
        have h9:(d:Int)=(far:Int):=by assumption
        omega
       have ha:aI r a=true:=by assumption
       have hf:=hyes (XQ.2 ⟨(a,d),had,by simp [hd2,ha]⟩);refine ⟨(i+1,S,T++ [c],(A1,c1),(B2,b2)),⟨hlt,?_,?_⟩,by dsimp only;omega,?_,by exact sB,?_⟩
       ·dsimp only;rw [hsS,hf];simp
       ·dsimp only;rw [hsT,hf];simp
       ·dsimp only;simp only [List.length_append,List.length_singleton];exact sB
       ·dsimp only;simp only [List.length_append,List.length_singleton,List.flatMap_append,List.flatMap_cons,List.flatMap_nil,List.append_nil];exact mS)
    | (refine ⟨vis ++ [(a, Value.int .i64 (d : Int), k)], ⟨hvst, fun e he2 a2 d2 k2 e2 => ?_⟩, by simp only [Xa, Xe]; omega, by exact sB, by exact sB, ?_⟩
       ·rcases Xr.1 he2 with he2|he2
        ·exact hnov e he2 a2 d2 k2 e2
        ·rw [Xl.1 he2] at e2;have e3:=congrArg (fun e:Rf × Value × Nat=>e.1) e2;have e4:=congrArg (fun e:Rf × Value × Nat=>e.2.1) e2;simp only at e3 e4;injection e4 with _ e5;have e6:d=d2:=by omega
         rintro ⟨h1,h2⟩
         first
          |omega
          | (have h3 : aI r a = false := by assumption
             rw [e3,h2] at h3;cases h3)
       ·simp only [XI,XD,XR];exact mS)
    | (have h0 : (O.any fun x => decide (x.2 = far) && aI r x.1) = false := by
        rw [Y3];intro x hx;obtain ⟨q,hq⟩:=PV hx;have h8:=hnov _ ((hvis.mem hok hall _).2 hq) x.1 x.2 q rfl;simpa using h8
       refine ⟨j+1,⟨hltj,hnx h0⟩,by omega,by exact sB,by exact sB,by exact mS⟩)
  ·have e:j=R.length:=by omega
   subst e;have hf:fb=false:=by
    rw [hfb,Y3];intro r hr;obtain ⟨q,hq,rfl⟩:=Z1.1 hr;rw [hno q hq hq];decide
   repeat' first|apply aN (d:=88) (A:=A1) (m:=1);(iterate 3 exact rfl);exact pK;intro w hm;exact hm.cells_own pK;exact rfl;simp [Value.oneCell',sl];omega;simp only [maxLen];omega;intro B1 b1 hB1|refine zZA ?_|refine sM fun _=>?_|refine sC ?_ ?_<;>intro hb<;>try omega|fail
   all_goals first
    |omega
    | (refine ⟨(i + 1, S ++ [c], T, (B1, b1), (A2, c2)), ⟨hlt, ?_, ?_⟩, by dsimp only; omega, ?_, by exact sB, ?_⟩
       ·dsimp only;rw [hsS,hf];simp
       ·dsimp only;rw [hsT,hf];simp
       ·dsimp only;simp only [List.length_append,List.length_singleton];exact sB
       ·dsimp only;simp only [List.length_append,List.length_singleton,List.flatMap_append,List.flatMap_cons,List.flatMap_nil,List.append_nil];exact mS)
 ·have e:i=V.length:=by omega
  subst e;rw [XF] at hS hT;have hfl:=PA (gL G (lwB b) u O far) V;rw [← hS,← hT] at hfl;have hTn:T.Nodup:=by rw [hT];exact hI.nd.filter _
  have hTV: ∀ f∈T,f∈V:=fun f hf=>by rw [hT] at hf;exact (XM.1 hf).1
  repeat' first|refine zZA ?_|refine sM fun _=>?_|refine sC ?_ ?_<;>intro hb<;>try omega|fail
  ·have hTe:T= []:=YB.1 (by omega);rw [← hT,if_pos hTe] at hfin;subst hfin;exact bo eIO rfl rfl (H' := .obj gd (aK aC (dM O) O.length)::lkB gx u b x gg dv::F) mS ⟨gd,rfl,rfl⟩
  have hTe:T≠ []:=fun e=>hb (by rw [e];rfl);have hTp:0<T.length:=Yr.2 hTe;rw [← hT,if_neg hTe,← hS] at hfin;have hstp:=hI.step;rw [← hT,← hS] at hstp;refine ax [0,3,9,10,94,95] rfl (fun i:Nat=> [(96,.int .i64 (i:Int))]) (fun i=> .obj gd (aK aC (dM (O++(T.take i).map fun f=>(f,far+1))) (O++(T.take i).map fun f=>(f,far+1)).length):: .own A2 34 2 T.length c2 (T.flatMap aq):: .own A1 34 2 S.length c1 (S.flatMap aq)::lkB gx u b x gg dv::F) (fun i=>i≤T.length) (fun i=>T.length - i) 0 (Xn _) sB (by simp only [YF,XR,Xm];exact mS) ?_;rintro i hi;by_cases hlt:i<T.length
  ·refine aU (A:=A2) pK (by omega) fun gk hA=> ?_;subst hA;have hread:=uz hlt;have hnt:=FO hTn hlt;have hput:=PU (O:=O++(T.take i).map fun f=>(f,far+1)) (c:=T[i]) (d:=far+1) fun h=>by
    rw [XI,Xr] at h;rcases h with h|h
    ·obtain ⟨c,hc,e⟩:=Xu.1 h;exact hI.dj _ (hTV _ (XO hlt)) c.2 (by rw [← e];exact hc)
    ·rw [YL] at h;obtain ⟨f,hf,e⟩:=Xu.1 h;simp only [Function.comp] at e;rw [e] at hf;exact hnt hf
   have e1:(O++(T.take i).map fun f=>(f,far+1))++ [(T[i],far+1)]=O++(T.take (i+1)).map fun f=>(f,far+1):=by
    rw [Xk hlt,XI,XE];rfl
   rw [e1] at hput;generalize T[i]=c at hread hput;repeat' (first|apply ak (d:=98);exact rfl;apply ai (j:=i);exact rfl;exact rfl;exact hlt|apply ak (d:=99);exact rfl;apply au (ys:=aq c);exact rfl;exact pK;exact hread;exact rfl|apply cB (enc:=aC) (k:=c);(iterate 3 exact rfl);exact pK;rw [hput]|refine zZA ?_|refine sM fun _=>?_|refine sC ?_ ?_<;>intro hb<;>try omega|fail)
   all_goals first
    |omega
    |refine ⟨i+1,hlt,by omega,by exact sB,by exact sB,by exact mS⟩;done
  ·have e:i=T.length:=by omega
   subst e;rw [XF];repeat' (first|refine zZA ?_|refine sM fun _=>?_|refine sC ?_ ?_<;>intro hb<;>try omega|fail)
   all_goals first
    |omega
    |refine ⟨(O++T.map fun f=>(f,far+1),S,far+1,m,(A1,c1)),⟨hstp,hfin,by dsimp only;omega,by dsimp only;omega⟩,by dsimp only;omega,by exact sB,by exact sB,by exact mS⟩;done
end
section
variable {G:Gr} {w:Lw} {u:Nat} {hid:Rct→List Rct}
theorem DistOk.down {K:List Rf} {O:List (Rf × Nat)} (h:DistOk G w u hid K O): ∀ d c,(c,d)∈O→ ∀ j,1≤j→j≤d→j∈O.map fun x=>x.2
 |0,_,_,j,h1,h2=>by omega
 |1,c,hc,j,h1,h2=>by
  rw [show j=1 by omega];exact Xu.2 ⟨(c,1),hc,rfl⟩
 |k+2,c,hc,j,h1,h2=>by
  by_cases e:j=k+2
  ·rw [e];exact Xu.2 ⟨(c,k+2),hc,rfl⟩
  ·obtain ⟨b,_,hb,_⟩:=tj (h.nxt _ hc k rfl).2.1;exact h.down (k+1) b hb j h1 (by omega)
theorem DistOk.dlen {K:List Rf} {O:List (Rf × Nat)} (h:DistOk G w u hid K O) {c:Rf} {d:Nat} (hc:(c,d)∈O):d≤K.length:=by
 have h1:=iA (List.range' 1 d) (O.map fun x=>x.2) List.nodup_range' fun j hj=>by
  rw [List.mem_range'_1] at hj;exact h.down d c hc j (by omega) (by omega)
 have h2:=iA (O.map fun c=>c.1) K h.od fun x hx=>by
  obtain ⟨c,hc,rfl⟩:=Xu.1 hx;exact (h.key c hc).1
 rw [List.length_range',Xq] at h1;rw [Xq] at h2;omega
end
theorem F8 {a c:Rf} {d k q q' :Nat} (h:(a,Value.int .i64 (k:Int),q')=(c,Value.int .i64 (d:Int),q)):a=c∧d=k:=by
 have e3:=congrArg (fun e:Rf × Value × Nat=>e.1) h;have e4:=congrArg (fun e:Rf × Value × Nat=>e.2.1) h;simp only at e3 e4;injection e4 with _ e5;exact ⟨e3,by omega⟩
theorem EG {vis:List (Rf × Value × Nat)} {a c:Rf} {d k q:Nat}:(∃ q',(a,Value.int .i64 (k:Int),q')∈vis++ [(c,Value.int .i64 (d:Int),q)])↔(∃ q',(a,Value.int .i64 (k:Int),q')∈vis)∨(a=c∧d=k):=by
 constructor
 ·rintro ⟨q',h⟩;rcases Xr.1 h with h|h
  ·exact .inl ⟨q',h⟩
  ·exact .inr (F8 (Xl.1 h))
 ·rintro (⟨q',h⟩|⟨rfl,rfl⟩)
  ·exact ⟨q',Xw _ h⟩
  ·exact ⟨q,XB _ Xb⟩
theorem QV {O:List (Rf × Nat)} {vis:List (Rf × Value × Nat)} (hvis:Vis (dM O) vis) (hok:MapOk (dM O) O.length) (hall: ∀ e∈dM O,e.2.2∈vis.map fun e=>e.2.2) {a:Rf} {k:Nat}:(∃ q,(a,Value.int .i64 (k:Int),q)∈vis)↔(a,k)∈O:=by
 constructor
 ·rintro ⟨q,h⟩;obtain ⟨c,d,q',hc,e⟩:=Jr ((hvis.mem hok hall _).1 h);obtain ⟨rfl,rfl⟩:=F8 e;exact hc
 ·intro h;obtain ⟨q,hq⟩:=PV h;exact ⟨q,(hvis.mem hok hall _).2 hq⟩
section
variable {u:Nat} {b:Bk} {x:Bv} {gg:Nat} {G:Gr} {B F0:List Blk} {w0:World} (D:Lkd u b x gg G B F0 w0) (gx:Nat) (dv:Value) {F:List Blk} (hF:MSub F0 F)
include D hF
theorem OI (a:Rf) (O:List (Rf × Nat)) (hO:(O.map fun c=>c.1).Nodup) (hOl:O.length≤1000) (hOv: ∀ c∈O,c.1.valid=true) (k:Nat) (hk:k≤1000) (gl ga gf gd gm gi gt:Nat):FnIn Tryz.prog 84 [.func (.func 122) #[] #[.pointer (some ⟨gi,0,none⟩),.pointer (some ⟨gt,0,none⟩)],.pointer (some ⟨gl,0,none⟩),.pointer (some ⟨ga,0,none⟩),.pointer (some ⟨gf,0,none⟩),.pointer (some ⟨gd,0,none⟩)] w0
 (FU gi gt none++(.box gl 90 [.pointer (some ⟨gx,0,none⟩)]:: .box ga 34 (aq a):: .box gf 161 [.map (some gm)]:: .box gd 3 [.int .i64 ((k+1:Nat):Int)]:: .obj gm (aK aC (dM O) O.length)::lkB gx u b x gg dv::F))
 fun _ H' => ∃ L,bR L=uF G (lwB b) u O a k∧H' =FU gi gt (bR L)++(.box gl 90 [.pointer (some ⟨gx,0,none⟩)]:: .box ga 34 (aq a):: .box gf 161 [.map (some gm)]:: .box gd 3 [.int .i64 ((k+1:Nat):Int)]:: .obj gm (aK aC (dM O) O.length)::lkB gx u b x gg dv::F):=by
 refine bI Tryz.func84 rfl Tryz.ntmps84 rfl ?_;have hop:=fun (H:List Blk) (hs:MSub F H)=>s9 D gx dv (hF.trans hs) a;have hol:=oS D hF (a:=a);have hok:=TF hO;unfold uF;generalize cG G (lwB b) u a=R at hop hol ⊢;simp only [FU,Xc,Xd];show W _ _ _ _ _ _ (.box gi 4 [.bool false]:: .box gt 34 (aq zF)::_);repeat' (first|apply aj (f:=85);exact rfl;exact rfl;refine FnIn.msub (hop _ ?_) (MSub.pick pK (MSub.refl _));(focus (exact mS;done));rintro _ _ ⟨Ao,co,rfl,rfl⟩|refine zZB ?_|refine sM fun _=>?_|refine sC ?_ ?_<;>intro hb<;>try omega|fail)
 all_goals try omega
 refine ax [0,1,2,3,4,12,13] rfl (fun y:Nat × List Rf=> [(14,.int .i64 (y.1:Int))]) (fun y=> .box gi 4 [.bool (bR y.2).isSome]:: .box gt 34 (aq ((bR y.2).getD zF)):: .own Ao 31 4 R.length co (R.flatMap ay):: .box gl 90 [.pointer (some ⟨gx,0,none⟩)]:: .box ga 34 (aq a):: .box gf 161 [.map (some gm)]:: .box gd 3 [.int .i64 ((k+1:Nat):Int)]:: .obj gm (aK aC (dM O) O.length)::lkB gx u b x gg dv::F) (fun y=>y.1≤R.length∧(∀ c,c∈y.2↔c∈(R.take y.1).flatMap fun r=>(O.filter fun x=>decide (x.2=k) && aI r x.1).map fun x=>x.1)∧ ∀ c∈y.2,c.valid=true) (fun y=>R.length - y.1) (0,[]) ⟨Xn _,fun c=>by simp,fun _ h=>by cases h⟩ sB mS ?_;rintro ⟨i,L⟩ ⟨hi,hL,hv⟩;dsimp only at hi hL hv ⊢;by_cases hlt:i<R.length
 ·refine aU (A:=Ao) pK (by omega) fun go hA=> ?_;subst hA;have hread:((R.flatMap ay).drop (0+i*4)).take 4=ay R[i]:=by rw [Xv];exact aM bM R i hlt
  have hs: ∀ c,(c∈(R.take (i+1)).flatMap fun r=>(O.filter fun x=>decide (x.2=k) && aI r x.1).map fun x=>x.1)↔c∈L∨((c,k)∈O∧aI R[i] c=true):=fun c=>by
   rw [Xk hlt,Xz,Xr,← hL c,ZT,Xu];refine or_congr Iff.rfl ⟨?_,?_⟩
   ·rintro ⟨x,hx,rfl⟩;obtain ⟨h1,h2⟩:=XM.1 hx;rw [Xo,decide_eq_true_eq] at h2;rw [← h2.1];exact ⟨h1,h2.2⟩
   ·rintro ⟨h1,h2⟩;exact ⟨(c,k),XM.2 ⟨h1,by simp [h2]⟩,rfl⟩
  generalize R[i]=r at hread hs;repeat' (first|apply ak (d:=16);exact rfl;apply ai (j:=i);exact rfl;exact rfl;exact hlt|apply ak (d:=17);exact rfl;apply au (ys:=ay r);exact rfl;exact pK;exact hread;exact rfl|apply dN (enc:=aC);exact rfl;exact rfl;exact pK;intro gr|refine zZA ?_|refine sM fun _=>?_|refine sC ?_ ?_<;>intro hb<;>try omega|fail)
  all_goals try omega
  rename_i g7;refine ax [0,1,2,3,4,7,12,13,14,19] rfl (fun _:List (Rf × Value × Nat) × List Rf=> []) (fun y=> .obj gr (je gm O.length (y.1.map fun e=>e.2.2)):: .box g7 31 (ay r):: .box gi 4 [.bool (bR y.2).isSome]:: .box gt 34 (aq ((bR y.2).getD zF)):: .own (some go) 31 4 R.length co (R.flatMap ay):: .box gl 90 [.pointer (some ⟨gx,0,none⟩)]:: .box ga 34 (aq a):: .box gf 161 [.map (some gm)]:: .box gd 3 [.int .i64 ((k+1:Nat):Int)]:: .obj gm (aK aC (dM O) O.length)::lkB gx u b x gg dv::F) (fun y=>Vis (dM O) y.1∧(∀ c,c∈y.2↔c∈L∨((∃ q,(c,Value.int .i64 (k:Int),q)∈y.1)∧aI r c=true))∧ ∀ c∈y.2,c.valid=true) (fun y=>(dM O).length - y.1.length) ([],L) ⟨Vis.nil _,fun c=>by simp,hv⟩ sB mS ?_;rintro ⟨vis,M⟩ ⟨hvis,hM,hvM⟩;dsimp only at hvis hM hvM ⊢;have hvl:=hvis.len;have hha:=fun a w=>jA r a w;have hl1:=fun c hc F=>Bl c hc (bR M) (fun c hc=>hvM c ((jt M).mem c hc)) gi gt F w0;have hsn:=oX M;repeat' (first|apply eC (enc:=aC);exact rfl;exact rfl;exact pK;exact pK;exact hok;intro e he hne;have hvlt:=hvis.lt he hne;have hvst:=hvis.step he hne;obtain ⟨c,d,q,hcd,rfl⟩:=Jr he|intro hall|apply ak;exact rfl;apply lH (enc:=aC);exact rfl;exact pK;exact pK;exact he;exact hok|apply aa (f:=28);exact rfl;exact rfl;intro w' hm;exact hha _ w'|apply fK;exact rfl;exact rfl;infer_instance;exact rfl;exact FnIn.msub (hl1 c (hOv _ hcd) _) (MSub.pick pK (MSub.pick pK (MSub.refl _)));rintro _ _ ⟨rfl,rfl⟩|refine zZA ?_|refine sM fun _=>?_|refine sC ?_ ?_<;>intro hb<;>try omega|fail)
  all_goals first
   |omega
   | (have hdk : d = k := by
       have h9:(d:Int)=((k+1 - 1:Nat):Int):=by assumption
       omega
      have hrc:aI r c=true:=by assumption
      refine ⟨(vis++ [(c,Value.int .i64 (d:Int),q)],M++ [c]),⟨hvst,fun a2=> ?_,fun a2 ha2=> ?_⟩,by simp only [Xa,Xe];omega,by exact sB,by exact sB,?_⟩
      ·dsimp only;rw [EG,Xr,hM a2,Xl];constructor
       ·rintro ((h|⟨h1,h2⟩)|rfl)
        ·exact .inl h
        ·exact .inr ⟨.inl h1,h2⟩
        ·exact .inr ⟨.inr ⟨rfl,hdk⟩,hrc⟩
       ·rintro (h|⟨h1|⟨rfl,_⟩,h2⟩)
        ·exact .inl (.inl h)
        ·exact .inl (.inr ⟨h1,h2⟩)
        ·exact .inr rfl
      ·rcases Xr.1 ha2 with h|h
       ·exact hvM _ h
       ·rw [Xl.1 h];exact hOv _ hcd
      ·dsimp only;rw [hsn];simp only [XI,XD,XR];exact mS)
   | (refine ⟨(vis ++ [(c, Value.int .i64 (d : Int), q)], M), ⟨hvst, fun a2 => ?_, hvM⟩, by simp only [Xa, Xe]; omega, by exact sB, by exact sB, ?_⟩
      ·dsimp only;rw [EG,hM a2];constructor
       ·rintro (h|⟨h1,h2⟩)
        ·exact .inl h
        ·exact .inr ⟨.inl h1,h2⟩
       ·rintro (h|⟨h1|⟨rfl,h3⟩,h2⟩)
        ·exact .inl h
        ·exact .inr ⟨h1,h2⟩
        ·first
          |omega
          | (have h4 : aI r a2 = false := by assumption
             rw [h2] at h4;cases h4)
      ·simp only [XI,XD,XR];exact mS)
   | (refine ⟨(i + 1, M), ⟨hlt, fun a2 => ?_, hvM⟩, by dsimp only; omega, by exact sB, by exact sB, by exact mS⟩
      dsimp only;rw [hs a2,hM a2,QV hvis hok hall])
 ·have e:i=R.length:=by omega
  subst e;rw [XF] at hL;repeat' (first|refine zZB ?_|refine sM fun _=>?_|refine sC ?_ ?_<;>intro hb<;>try omega|fail)
  all_goals first
   |omega
   |exact fJ eIO rfl (H' := .box gi 4 [.bool (bR L).isSome]:: .box gt 34 (aq ((bR L).getD zF)):: .box gl 90 [.pointer (some ⟨gx,0,none⟩)]:: .box ga 34 (aq a):: .box gf 161 [.map (some gm)]:: .box gd 3 [.int .i64 ((k+1:Nat):Int)]:: .obj gm (aK aC (dM O) O.length)::lkB gx u b x gg dv::F) mS ⟨L,FZ hL,rfl⟩
theorem RL (a:Rf):FnIn Tryz.prog 42 [.pointer (some ⟨gx,0,none⟩),aC a] w0 (lkB gx u b x gg dv::F) fun v H' => ∃ A c,v=sl A (gV G (lwB b) u (aZ b.rules (u:Int)) (gH G (lwB b) u (aZ b.rules (u:Int)) (ap G)) a).length c∧H' = .own A 34 2 (gV G (lwB b) u (aZ b.rules (u:Int)) (gH G (lwB b) u (aZ b.rules (u:Int)) (ap G)) a).length c ((gV G (lwB b) u (aZ b.rules (u:Int)) (gH G (lwB b) u (aZ b.rules (u:Int)) (ap G)) a).flatMap aq)::lkB gx u b x gg dv::F:=by
 refine bI Tryz.func42 rfl Tryz.ntmps42 rfl ?_;have hrd:=fun (H:List Blk) (hs:MSub F H)=>yf D gx dv (hF.trans hs) a;have hed:=fun (c:Rf) (H:List Blk) (hs:MSub F H)=>PL D gx dv (hF.trans hs) c;have hds:=fun (H:List Blk) (hs:MSub F H)=>Dt D gx dv (hF.trans hs);have hok:=pw (G:=G) (w:=lwB b) (u:=u) (hid:=aZ b.rules (u:Int)) (K:=ap G) D.rd.g.sort.nodup;have hKl:(ap G).length≤900:=by have:=D.rd.l;rw [ap,Xq];exact this
 have hp1:=fun (c:Rf) O hO hOl hOv k hk gl ga gf gd gm (H:List Blk) (hs:MSub F H)=>FY 84 [.pointer (some ⟨gl,0,none⟩),.pointer (some ⟨ga,0,none⟩),.pointer (some ⟨gf,0,none⟩),.pointer (some ⟨gd,0,none⟩)] _ w0 _ (fun gi gt=>OI D gx dv (hF.trans hs) c O hO hOl hOv k hk gl ga gf gd gm gi gt);unfold gV;generalize gH G (lwB b) u (aZ b.rules (u:Int)) (ap G)=O at hds hok ⊢;have hOn:=hok.od;have hOl:O.length≤1000:=by
  have h2:=iA (O.map fun c=>c.1) (ap G) hOn fun x hx=>by
   obtain ⟨c,hc,rfl⟩:=Xu.1 hx;exact (hok.key c hc).1
  rw [Xq] at h2;omega
 have hOv: ∀ c∈O,c.1.valid=true:=fun c hc=>ez D.rd.g (hok.key c hc).1;have hlk:=Sw O a (.int .i64 0)
 cases hra:rdU (lwB b) u a with
 |false=>
  rw [hra] at hrd;rw [if_pos rfl];repeat' (first|apply aj (f:=81);exact rfl;exact rfl;refine FnIn.msub (hrd _ ?_) (MSub.pick pK (MSub.refl _));(focus (exact mS;done));rintro _ _ ⟨rfl,rfl⟩|refine zZB ?_|refine sM fun _=>?_|refine sC ?_ ?_<;>intro hb<;>try omega|fail)
  all_goals first
   |omega
   |refine bo eIO rfl rfl (H' := .own (some _) 34 2 1 1 (aq a)::lkB gx u b x gg dv::F) mS ⟨some _,1,rfl,rfl⟩;done
 |true=>
  rw [hra] at hrd;rw [if_neg (by decide)]
  cases hd:dOf O a with
  |none=>
   rw [hd] at hlk;refine aF 34 2 ?_;repeat' (first|apply aj (f:=81);exact rfl;exact rfl;refine FnIn.msub (hrd _ ?_) (MSub.pick pK (MSub.refl _));(focus (exact mS;done));rintro _ _ ⟨rfl,rfl⟩|apply aj (f:=82);exact rfl;exact rfl;refine FnIn.msub (hds _ ?_) (MSub.pick pK (MSub.refl _));(focus (exact mS;done));rintro _ _ ⟨gm,rfl,rfl⟩|apply ak (d:=22);exact rfl;apply eG (enc:=aC) (k:=a);exact rfl;exact rfl;exact pK;exact hlk|refine zZB ?_|refine sM fun _=>?_|refine sC ?_ ?_<;>intro hb<;>try omega|fail)
   all_goals first
    |omega
    |refine bo eIO rfl rfl (H' := .own none 34 2 0 0 []::lkB gx u b x gg dv::F) mS ⟨none,0,rfl,rfl⟩;done
  |some d=>
   rw [hd] at hlk;have hmem:=(px hOn).1 hd;have hdl:=hok.dlen hmem;have hd1:=(hok.key _ hmem).2.2;simp only at hd1;repeat' (first|apply aj (f:=81);exact rfl;exact rfl;refine FnIn.msub (hrd _ ?_) (MSub.pick pK (MSub.refl _));(focus (exact mS;done));rintro _ _ ⟨rfl,rfl⟩|apply aj (f:=82);exact rfl;exact rfl;refine FnIn.msub (hds _ ?_) (MSub.pick pK (MSub.refl _));(focus (exact mS;done));rintro _ _ ⟨gm,rfl,rfl⟩|apply ak (d:=22);exact rfl;apply eG (enc:=aC) (k:=a);exact rfl;exact rfl;exact pK;exact hlk|refine zZB ?_|refine sM fun _=>?_|refine sC ?_ ?_<;>intro hb<;>try omega|fail)
   all_goals try omega
   rename_i gl ga gf gd go;obtain ⟨k0,rfl⟩: ∃ k0,d=k0+1:=⟨d - 1,by omega⟩;refine ax [2,3,5,6] rfl (fun y:List Rf × Rf × Nat × (Option Nat × Nat)=> [(8,sl y.2.2.2.1 y.1.length y.2.2.2.2)]) (fun y=> .own y.2.2.2.1 34 2 y.1.length y.2.2.2.2 (y.1.flatMap aq):: .box gd 3 [.int .i64 ((y.2.2.1+1:Nat):Int)]:: .box gf 161 [.map (some gm)]:: .obj gm (aK aC (dM O) O.length):: .box ga 34 (aq y.2.1):: .box gl 90 [.pointer (some ⟨gx,0,none⟩)]::lkB gx u b x gg dv::F) (fun y=>(y.2.1,y.2.2.1+1)∈O∧y.1++eD G (lwB b) u (aZ b.rules (u:Int)) O (y.2.2.1+1) y.2.1=a::eD G (lwB b) u (aZ b.rules (u:Int)) O (k0+1) a∧y.1.length+y.2.2.1=k0+1) (fun y=>y.2.2.1) ([a],a,k0,(some go,1)) ⟨hmem,rfl,by simp only [Xe];omega⟩ sB mS ?_;rintro ⟨acc,cur,k,A7,c7⟩ ⟨hcm,hway,hlen⟩;dsimp only at hcm hway hlen ⊢
   cases k with
   |zero=>
    have hed:=hed cur;rw [eD] at hway;change acc++ [(jx G (lwB b) u (aZ b.rules (u:Int)) cur).getD zF]=_ at hway;rw [← hway];generalize (jx G (lwB b) u (aZ b.rules (u:Int)) cur).getD zF=ec at hed ⊢;generalize (jx G (lwB b) u (aZ b.rules (u:Int)) cur).isSome=eb at hed;repeat' (first|apply aj (f:=86);exact rfl;exact rfl;refine FnIn.msub (hed _ ?_) (MSub.pick pK (MSub.refl _));(focus (exact mS;done));rintro _ _ ⟨rfl,rfl⟩|apply aN (d:=51) (A:=A7) (m:=1);(iterate 3 exact rfl);exact pK;intro w hm;exact hm.cells_own pK;exact rfl;simp [Value.oneCell',sl];omega;simp only [maxLen];omega;intro B7 b7 hB7|refine zZA ?_|refine sM fun _=>?_|refine sC ?_ ?_<;>intro hb<;>try omega|fail)
    all_goals first
     |omega
     |refine bo eIO rfl rfl (H' := .own B7 34 2 (acc++ [ec]).length b7 ((acc++ [ec]).flatMap aq)::lkB gx u b x gg dv::F) (by simp only [Xa,Xe,Xz,Xx,XP,Xm];exact mS) ⟨B7,b7,by simp only [Xa,Xe],rfl⟩;done
   |succ m=>
    obtain ⟨bq,hnx,hbm,_⟩:=tj (hok.nxt _ hcm m rfl).2.1;have hmk:=hok.dlen hcm;rw [eD,hnx,Ze] at hway;have hls:=fun (gl ga gf gd gm:Nat) (H:List Blk) (hs:MSub F H)=>(hp1 cur O hOn hOl hOv (m+1) (by omega) gl ga gf gd gm H hs).mono (R' :=fun v H' =>v= .tuple #[aC bq,.bool true]∧H' = .box gl 90 [.pointer (some ⟨gx,0,none⟩)]:: .box ga 34 (aq cur):: .box gf 161 [.map (some gm)]:: .box gd 3 [.int .i64 ((m+1+1:Nat):Int)]:: .obj gm (aK aC (dM O) O.length)::lkB gx u b x gg dv::H) fun v H' ⟨L,hL,hv,hH⟩=>⟨by rw [hv,hL,hnx];rfl,hH⟩;repeat' (first|apply aj (f:=83);exact rfl;exact rfl;refine FnIn.msub (hls _ _ _ _ _ _ ?_) (MSub.pick pK (MSub.pick pK (MSub.pick pK (MSub.pick pK (MSub.pick pK (MSub.pick pK (MSub.refl _)))))));(focus (exact mS;done));rintro _ _ ⟨rfl,rfl⟩|apply aN (d:=41) (A:=A7) (m:=1);(iterate 3 exact rfl);exact pK;intro w hm;exact hm.cells_own pK;exact rfl;simp [Value.oneCell',sl];omega;simp only [maxLen];omega;intro B7 b7 hB7|refine zZA ?_|refine sM fun _=>?_|refine sC ?_ ?_<;>intro hb<;>try omega|fail)
    all_goals first
     |omega
     |(refine ⟨(acc++ [bq],bq,m,(B7,b7)),⟨hbm,by rw [List.append_assoc];exact hway,by simp only [List.length_append,List.length_singleton];omega⟩,by dsimp only;omega,?_,by exact sB,?_⟩<;>(simp only [List.length_append,List.length_singleton,List.flatMap_append,List.flatMap_cons,List.flatMap_nil,List.append_nil])<;>first|exact sB;done|exact mS;done)
end
end Go.SL
