/-
  Lemmas and walks, put together: K2 Ex Rd Rf Ro Ta Yc.
-/
import Derived.Test.YthgjiibbmkiplaaGreatDoorKw19
import Derived.Test.YthgjiibbmkiplaaGreatDoorKw42
set_option linter.unusedSimpArgs false
set_option linter.unusedVariables false
set_option maxRecDepth 20000
set_option maxHeartbeats 16000000
namespace Go.SL
open Go Go.Proofs
attribute [local irreducible] W WL WQ WG WA WX WLI WR WT WC VOp RW thn blk bA scp aY aX bw FnAt FnIn FnP ceP
theorem DQ {L M:List Rf} (h:L=M) {lv mv:Value} {w:World} (hl:Reads w lv L.length (L.flatMap aq)) (hm:Reads w mv M.length (M.flatMap aq)):aL Tryz.prog 13 [lv,mv] w (.bool true):=by
 have:=tY L M lv mv w hl hm;rwa [decide_eq_true h] at this
theorem MC (L:List Rct): ∀ u∈L.flatMap ay,u.oneCell' =true:=by
 intro u hu;obtain ⟨x,_,hx⟩:=XL.1 hu;simp only [ay,Xt,YQ,or_false] at hx;rcases hx with rfl|rfl|rfl|rfl<;>rfl
def inA:ByteArray:=⟨#[53]⟩
def exL:List Et:= [⟨⟨1,1⟩,inA⟩,⟨⟨1,2⟩,inB⟩,⟨⟨1,3⟩,inC⟩,⟨⟨1,4⟩,inD⟩]
theorem UJ:jr exL=(some exG,0):=by decide+kernel
theorem UN:GrOk exG:=by
 have h: ∀ (L:List Et) (G:Gr),GrOk G→ ∀ G',yu G L=(some G',0)→GrOk G' :=by
  intro L
  induction L with
  |nil=>intro G hG G' h;cases h;exact hG
  |cons e r ih=>
   intro G hG G' h;rw [yu] at h;split at h
   ·cases h
   ·exact ih _ (hG.set _ _) G' h
 have h2:=UJ;unfold jr at h2;split at h2
 ·cases h2
 ·exact h exL [] Gc exG h2
attribute [local irreducible] WE
def tU (gb sb gm tb:Nat) (pa:Value) (S:List Rf) (q:Qu):List Blk:=
 [.box gb 54 [pa],.box sb 117 [.map (some gm)],.obj gm (aK aC (dI S) S.length),.box tb 62 [q.v],.own (some q.g) 31 4 q.n q.c q.ys]
theorem DJ (gb sb gm tb:Nat) (pa:Value) (G:Gr) (hG:SortG G) (hGl:G.length≤900) (l:List Rct) (r:Rct) (S0:List Rf) (q0:Qu) (todo0:List Rct) (hI:UpI G l S0 (r::todo0)) (hq:q0.ok ay 4 todo0) (hqn:q0.n≤10000)
 (U:List Rf) (hUm: ∀ c,c∈U↔c∈ap G∧bi (aG G c) r=true) (hUl:U.length≤900) (B F:List Blk) (hB:MSub B F) (w0:World)
 (hU: ∀ H,MSub B H→FnIn Tryz.prog 95 [pa,.agg (ay r).toArray] w0 H fun v H' => ∃ A cap,v=sl A U.length cap∧H' = .own A 34 2 U.length cap (U.flatMap aq)::H):
 FnIn Tryz.prog 115 [.agg (ay r).toArray,.pointer (some ⟨gb,0,none⟩),.pointer (some ⟨sb,0,none⟩),.pointer (some ⟨tb,0,none⟩)] w0 (tU gb sb gm tb pa S0 q0++F) fun v H=>v= .tuple #[]∧ ∃ S q todo,H=tU gb sb gm tb pa S q++F∧q.ok ay 4 todo∧UpI G l S todo∧S.length+todo0.length=S0.length+todo.length∧q.n+S0.length≤q0.n+S.length:=by
 refine bI Tryz.func115 rfl Tryz.ntmps115 rfl ?_;simp only [tU,XH,Xc,Xd];repeat' (first|apply aj (f:=95);exact rfl;exact rfl;exact hU _ (MSub.trans hB mS);rintro _ _ ⟨A9,c9,rfl,rfl⟩|refine zZB ?_|refine sM fun _=>?_|refine sC ?_ ?_<;>intro hb<;>try omega|fail)
 rename_i g4;refine ax [1,2,3,9,10] rfl (fun y:Nat × List Rf × Qu × List Rct=> [(11,.int .i64 (y.1:Int))]) (fun y=> .own A9 34 2 U.length c9 (U.flatMap aq)::(tU gb sb gm tb pa y.2.1 y.2.2.1++F)) (fun y=>y.1≤U.length∧UpI G l y.2.1 (r::y.2.2.2)∧y.2.2.1.ok ay 4 y.2.2.2∧(∀ j (h:j<U.length),j<y.1→U[j]∈y.2.1)∧y.2.1.length+todo0.length=S0.length+y.2.2.2.length∧y.2.2.1.n+S0.length≤q0.n+y.2.1.length) (fun y=>U.length - y.1) (0,S0,q0,todo0) ⟨Xn _,hI,hq,(fun j _ h=>absurd h (YY _)),rfl,Xy _⟩ sB (by simp only [tU,XH,Xc,Xd];exact mS) ?_;clear hI hq;rintro ⟨i,S,q,todo⟩ ⟨hi,hI,hq,hin,hsum,hqs⟩;dsimp only at hi hI hq hin hsum hqs ⊢;have hSl:=hI.len hG;by_cases hlt:i<U.length
 ·refine aU (A:=A9) .hd (by omega) fun gk hA=> ?_;subst hA;have hread:=uz hlt;have hmem:U[i]∈U:=XO hlt;have hstep: ∀ (S' :List Rf),(∀ x∈S,x∈S')→U[i]∈S' → ∀ j (h:j<U.length),j<i+1→U[j]∈S' :=fun S' h1 h2 j h3 h4=>by
   by_cases e:j=i
   ·subst e;exact h2
   ·exact h1 _ (hin j h3 (by omega))
  generalize U[i]=a at hread hmem hstep;obtain ⟨hak,hat⟩:=(hUm a).1 hmem;have hlook:=mD S a;simp only [tU,XH,Xc,Xd];by_cases haS:a∈S
  ·rw [decide_eq_true haS] at hlook;repeat' (first|apply ak;exact rfl;apply ai (j:=i);exact rfl;exact rfl;exact hlt|apply ak;exact rfl;apply au;exact rfl;exact pK;exact hread;exact rfl|apply ak;exact rfl;apply bV (enc:=aC) (k:=a);exact rfl;exact rfl;exact pK;exact hlook|refine zZA ?_|refine sM fun _=>?_|refine sC ?_ ?_<;>intro hb<;>try omega|fail)
   all_goals first
    |omega
    |refine ⟨(i+1,S,q,todo),⟨hlt,hI,hq,hstep S (fun _ h=>h) haS,hsum,hqs⟩,(by dsimp only;omega),sB,sB,(by simp only [tU,List.append_eq,List.cons_append,List.nil_append];exact mS)⟩
  ·rw [decide_eq_false haS] at hlook;have hput:=sZ haS;have hI2:=(hI.add hak hat haS).perm (X6 (l₁:= [a]) (l₂:=S));repeat' (first|apply ak;exact rfl;apply ai (j:=i);exact rfl;exact rfl;exact hlt|apply ak;exact rfl;apply au;exact rfl;exact pK;exact hread;exact rfl|apply ak;exact rfl;apply bV (enc:=aC) (k:=a);exact rfl;exact rfl;exact pK;exact hlook|apply cB (enc:=aC) (k:=a);(iterate 3 exact rfl);exact pK;rw [hput]|refine zZA ?_|refine sM fun _=>?_|refine sC ?_ ?_<;>intro hb<;>try omega|fail)
   all_goals try omega
   rename_i g6;obtain ⟨qg,qoff,qk,qn,qc,qys⟩:=q;obtain ⟨hq1,hq2,hq3,hq4⟩:=hq;dsimp only at hq1 hq2 hq3 hq4 hqs ⊢;simp only [Qu.v];refine fw (id:=6) [0,2,3,4,5] [.box g6 34 (aq a)] 6 rfl rfl mS ?_;repeat' (first|apply ba (i:=1);(iterate 4 exact rfl);(iterate 3 decide+kernel);apply u9;exact rfl;exact .hd;exact rfl;exact rfl|apply cF (i:=0) (j:=2);(iterate 6 exact rfl);decide+kernel|apply cF (i:=0) (j:=3);(iterate 6 exact rfl);decide+kernel|apply bk (i:=0);(iterate 3 exact rfl);decide+kernel|apply bk (i:=2);(iterate 3 exact rfl);decide+kernel|apply bk (i:=3);(iterate 3 exact rfl);decide+kernel|apply bk (i:=4);(iterate 3 exact rfl);decide+kernel|apply bk (i:=5);(iterate 3 exact rfl);decide+kernel|apply fu;decide+kernel|apply rW;(focus (exact mS;done))|apply aa;exact rfl;exact rfl;intro w hm;exact pO _ w|apply rr;exact rfl;exact rfl;exact hq1;exact hq2;exact rfl;exact pK;exact pK;exact rfl;simp [Value.oneCell',ay];omega;simp only [maxLen];omega;intro g' off' k' n2 c2 ys hk2 hoff2 hlen2 hn2 hys2|refine zZB ?_|refine sM fun _=>?_|refine sC ?_ ?_<;>intro hb<;>try omega|fail)
   repeat' first|refine zZA ?_|refine sM fun _=>?_|refine sC ?_ ?_<;>intro hb<;>try omega|fail
   all_goals first
    |omega
    |refine ⟨(i+1,S++ [a],⟨g',off',k',n2,c2,ys⟩,todo++ [cE a.col a.row]),⟨hlt,hI2,⟨hk2,hoff2,(by rw [List.length_append];exact hlen2.trans (by rw [hq3];rfl)),(by rw [hys2,hq4,List.flatMap_append];rfl)⟩,hstep (S++ [a]) (fun _ h=>List.mem_append_left _ h) (List.mem_append_right _ List.mem_cons_self),(by rw [List.length_append,List.length_append];simp only [List.length_cons,List.length_nil];omega),(by rw [List.length_append];simp only [List.length_cons,List.length_nil];omega)⟩,(by dsimp only;omega),sB,sB,(by simp only [tU,Qu.v,List.append_eq,List.cons_append,List.nil_append,List.length_append,List.length_cons,List.length_nil,Nat.zero_add];exact mS)⟩
 ·have hi2:i=U.length:=by omega
  subst hi2;have hI2:=hI.pop fun c hc ht=>by
   obtain ⟨j,hj,rfl⟩:=YN ((hUm c).2 ⟨hc,ht⟩);exact hin j hj hj
  simp only [tU,XH,Xc,Xd];repeat' (first|refine zZA ?_|refine sM fun _=>?_|refine sC ?_ ?_<;>intro hb<;>try omega|fail)
  all_goals first
   |omega
   |exact fJ eIO rfl mS ⟨rfl,S,q,todo,rfl,hq,hI2,hsum,hqs⟩
end Go.SL
namespace Go.SL
open Go Go.Proofs
theorem Va {P:Program} {n:Fr} {w0:World} {Q:bK} {s:az} {H:List Blk} {c:Code} {t sz m cap:Nat} {xs:List Value} (hi:In (.own none t sz m cap xs) H) (h:m=0→W P n w0 c Q s H):W P n w0 c Q s H:=fun a w hs hmem=>
 h (hmem.on _ hi.mem).1.2.2.2.1 a w hs hmem
attribute [local irreducible] W WL WQ WG WA WX WLI WR WT WC WE VOp RW thn blk bA scp aY aX bw FnAt FnIn FnP ceP
theorem UpI.sort {G:Gr} {l:List Rct} {S:List Rf} (hG:SortG G) (h:UpI G l S []):sortRf S=eX G l:=by
 have hn:(eX G l).Nodup:=(nU hG l).imp fun h=>mF h;rw [jI ((List.perm_ext_iff_of_nodup h.nodup hn).2 h.done),qI (nU hG l)]
theorem Na (L:List Rct) (tv:Value) (w:World) (ht:Reads w tv L.length (L.flatMap ay)) (hlen:L.length≤1000000):
 FnAt Tryz.prog 114 [tv] w fun v H=> ∃ A cap,v=sl A L.length cap∧H= [.own A 31 4 L.length cap (L.flatMap ay)]:=by
 have ht' :=ht;obtain ⟨At,ct,rfl,ht1,ht2,ht3⟩:=ht;refine aB Tryz.func114 rfl Tryz.ntmps114 rfl ?_;have hl:(L.flatMap ay).length=L.length*4:=aR bM L;refine aF 31 4 ?_;repeat' (first|apply ak;exact rfl;apply ER;exact rfl|apply kK;exact rfl;intro gb|apply dz (n' :=0) (c:=0) (A:=some _) (m:=L.length);(iterate 3 exact rfl);exact pK;intro w hm;exact ht'.of_w0 hm;exact hl;exact MC L;omega;simp only [maxLen];omega;intro A' cap' hA|refine sT ?_|refine sM fun _=>?_|refine sC ?_ ?_<;>intro hb<;>try omega|fail)
 ·have e:L.length=0:=by
   rcases Y6 L.length with h|h
   ·exact h
   ·obtain ⟨g,o,rfl,_⟩:=ht3 h;cases hb
  have e' :L= []:=ZC e;subst e';exact bo (.inl rfl) Tryz.results114 rfl (.refl _) ⟨none,0,rfl,rfl⟩
 ·exact bo (.inl rfl) Tryz.results114 rfl (H' := [.own A' 31 4 (0+L.length) cap' ([]++L.flatMap ay)]) mS ⟨A',cap',by rw [Xv],by rw [Xv];rfl⟩
theorem DB {L:List Rct} (h:bS [] L=0): ∀ r∈L,aA r=true:=by
 unfold bS at h;split at h
 ·rename_i h1;simp only [aac,XT,Yt] at h1;exact h1
 ·cases h
theorem UpI.rect {G:Gr} {L:List Rct} {S:List Rf} {todo:List Rct} {r:Rct} (hG:GrOk G) (hL: ∀ r∈L,aA r=true) (h:UpI G L S (r::todo)):aA r=true:=by
 rcases h.from_ r Xb with h1|⟨d,hd,rfl⟩
 ·exact hL r h1
 ·obtain ⟨q,_,hq⟩:=h.sound d hd;obtain ⟨e,he,rfl⟩:=iH.1 hq.key;rw [yd];exact (hG.ent e he).at_
theorem JF (G:Gr):eX G []= []:=by
 refine YM.2 fun c hc=> ?_;obtain ⟨r,hr,_⟩:=Bg.1 hc;cases hr
theorem QC (gg:Nat) (G:Gr) (hG:GrOk G) (hGl:G.length≤900) (L:List Rct) (hL:L.length≤1000) (lv:Value) (B F:List Blk) (hB:MSub B F) (w0:World)
 (hU: ∀ r H,MSub B H→FnIn Tryz.prog 95 [.pointer (some ⟨gg,0,none⟩),.agg (ay r).toArray] w0 H fun v H' => ∃ A cap,v=sl A (cV G r).length cap∧H' = .own A 34 2 (cV G r).length cap ((cV G r).flatMap aq)::H)
 (hrd: ∀ w,Mem w0 w F→Reads w lv L.length (L.flatMap ay)):
 FnIn Tryz.prog 71 [.pointer (some ⟨gg,0,none⟩),lv] w0 F fun v H' => ∃ A cap,v= .tuple #[sl A (eW G L).length cap,.int .i64 (bS [] L)]∧H' = .own A 34 2 (eW G L).length cap ((eW G L).flatMap aq)::F:=by
 refine bI Tryz.func71 rfl Tryz.ntmps71 rfl ?_;refine aF 34 2 ?_;have hck:=fun w (hm:Mem w0 w F)=>uX gg [] L (.slice none 0 0) lv w (bG w) (hrd w hm) (by simp) (by omega);have hcl:=fun w (hm:Mem w0 w F)=>Na L lv w (hrd w hm) (by omega);unfold eW;by_cases hc0:bS [] L=0
 ·rw [if_pos hc0];rw [hc0] at hck ⊢;have hr:=DB hc0;repeat' (first|apply aa (f:=60);exact rfl;exact rfl;intro w' hm;exact hck w' (MSub.use mS hm)|apply aw (f:=114);exact rfl;exact rfl;intro w' hm;exact hcl w' (MSub.use mS hm);rintro _ _ ⟨A9,c9,rfl,rfl⟩|apply cL (enc:=aC);exact rfl;intro gm|refine zZB ?_|refine sM fun _=>?_|refine sC ?_ ?_<;>intro hb<;>try omega|fail)
  rename_i gb sb tb;have hpa: ∀ r,SortG G∧(∀ c,aA r=true→(c∈cV G r↔c∈ap G∧bi (aG G c) r=true)):=fun r=>⟨hG.sort,fun c h=>⟨fun hc=>⟨ng c hc,(qm hG.sort h (ng c hc)).1 hc⟩,fun hc=>(qm hG.sort h hc.1).2 hc.2⟩⟩
  cases A9 with
  |none=>
   refine Va pK fun hL0=> ?_;have hL' :L= []:=YB.1 hL0;subst hL';have hso:=AL gm [] ZM (by simp) F w0;rw [show sortRf []= [] by simp [sortRf]] at hso;rw [JF];refine ax [2,7,8,9] rfl (fun _:Unit=> []) (fun _=> .box tb 62 [.slice none 0 c9]:: .box sb 117 [.map (some gm)]:: .obj gm (aK aC (dI []) 0)::F) (fun _=>True) (fun _=>0) () trivial sB mS ?_;rintro _ _;repeat' (first|apply aj (f:=116);exact rfl;exact rfl;exact FnIn.msub hso mS;rintro _ _ ⟨A5,c5,rfl,rfl⟩|refine zZB ?_|refine sM fun _=>?_|refine sC ?_ ?_<;>intro hb<;>try omega|fail)
   all_goals first
    |omega
    |exact di eIO rfl rfl rfl (H' := .own A5 34 2 0 c5 []::F) mS ⟨A5,c5,rfl,rfl⟩
  |some g9=>
   refine ax [2,7,8,9] rfl (fun _:List Rf × Qu × List Rct=> []) (fun y=>tU gb sb gm tb (.pointer (some ⟨gg,0,none⟩)) y.1 y.2.1++F) (fun y=>UpI G L y.1 y.2.2∧y.2.1.ok ay 4 y.2.2∧y.2.1.n≤L.length+y.1.length) (fun y=>y.2.2.length+(G.length - y.1.length)) ([],⟨g9,0,0,L.length,c9,L.flatMap ay⟩,L) ⟨UpI.start G L,⟨Xn _,fun _=>by rw [Zt],YC _,by rw [Zt];rfl⟩,Xy _⟩ sB (by simp only [tU,Qu.v,XH,Xc,Xd];exact mS) ?_;rintro ⟨S,q,todo⟩ ⟨hI,hq,hqn⟩;dsimp only at hI hq hqn ⊢;have hSl:=hI.len hG.sort;have hql:=hq.len;simp only [tU,XH,Xc,Xd]
   cases todo with
   |nil=>
    rw [Yu] at hql;have hso:FnIn Tryz.prog 116 [.map (some gm)] w0 (.obj gm (aK aC (dI S) S.length)::F) fun v H=> ∃ A cap,v=sl A (eX G L).length cap∧H= .own A 34 2 (eX G L).length cap ((eX G L).flatMap aq):: .obj gm (aK aC (dI S) S.length)::F:=by
     rw [← hI.sort hG.sort,show (sortRf S).length=S.length by simp [sortRf]];exact AL gm S hI.nodup (by omega) F w0
    repeat' first|apply aj (f:=116);exact rfl;exact rfl;exact FnIn.msub hso mS;rintro _ _ ⟨A5,c5,rfl,rfl⟩|refine zZB ?_|refine sM fun _=>?_|refine sC ?_ ?_<;>intro hb<;>try omega|fail
    all_goals first
     |omega
     |exact di eIO rfl rfl rfl (H' := .own A5 34 2 (eX G L).length c5 ((eX G L).flatMap aq)::F) mS ⟨A5,c5,rfl,rfl⟩
   |cons r todo=>
    rw [Xs] at hql;have hrr:=hI.rect hG hr;refine K8 (A:=some q.g) pK fun hle=> ?_;have hhd:=hq.head rfl hle;have hp:=hq.pop rfl hle;have hlook:=DJ gb sb gm tb (.pointer (some ⟨gg,0,none⟩)) G hG.sort hGl L r S (q.pop 4) todo hI hp (by show q.n≤10000;omega) (cV G r) (fun c=>(hpa r).2 c hrr) (XU AF hGl) B F hB w0 (hU r);repeat' (first|apply ak;exact rfl;apply ai (j:=0);exact rfl;exact rfl;omega|apply ak;exact rfl;apply au;exact rfl;exact pK;exact hhd;exact rfl|apply ak;exact rfl;apply NI q;exact rfl;omega;exact hle|apply fK;exact rfl;exact rfl;infer_instance;exact rfl;exact FnIn.msub hlook (by simp only [tU,XH,Xc,Xd];exact mS);rintro _ _ ⟨rfl,S',q',todo',rfl,hq',hI',hsum,hqs⟩|refine zZB ?_|refine sM fun _=>?_|refine sC ?_ ?_<;>intro hb<;>try omega|fail)
    all_goals first
     |omega
     |refine ⟨(S',q',todo'),⟨hI',hq',(by have:q'.n+S.length≤q.n+S'.length:=hqs;dsimp only;omega)⟩,(by have:=hI'.len hG.sort;dsimp only;rw [List.length_cons];omega),sB,sB,(by simp only [tU,List.append_eq,List.cons_append,List.nil_append];exact mS)⟩
 ·rw [if_neg hc0];repeat' (first|apply aa (f:=60);exact rfl;exact rfl;intro w' hm;exact hck w' (MSub.use mS hm)|refine zZB ?_|refine sM fun _=>?_|refine sC ?_ ?_<;>intro hb<;>try omega|fail)
  all_goals first
   |omega
   |exact di eIO rfl rfl rfl (H' := .own none 34 2 0 0 []::F) mS ⟨none,0,rfl,rfl⟩
section
variable {gg:Nat} {G:Gr} {B F:List Blk} {w0:World} (h:Rdr gg G B w0) (hB:MSub B F)
include h hB
theorem Rdr.above (L:List Rct) (hL:L.length≤1000) (lv:Value) (hrd: ∀ w,Mem w0 w F→Reads w lv L.length (L.flatMap ay)):
 FnIn Tryz.prog 71 [.pointer (some ⟨gg,0,none⟩),lv] w0 F fun v H' => ∃ A cap,v= .tuple #[sl A (eW G L).length cap,.int .i64 (bS [] L)]∧H' = .own A 34 2 (eW G L).length cap ((eW G L).flatMap aq)::F:=QC gg G h.g h.l L hL lv B F hB w0 h.ur hrd
theorem Rdr.above_to {L:List Rct} {M:List Rf} {e:Int} (hM:eW G L=M) (he:bS [] L=e) (hL:L.length≤1000) (lv:Value) (hrd: ∀ w,Mem w0 w F→Reads w lv L.length (L.flatMap ay)):
 FnIn Tryz.prog 71 [.pointer (some ⟨gg,0,none⟩),lv] w0 F fun v H' => ∃ A cap,v= .tuple #[sl A M.length cap,.int .i64 e]∧H' = .own A 34 2 M.length cap (M.flatMap aq)::F:=by
 subst hM he;exact h.above hB L hL lv hrd
end
theorem KA {α:Type} {p:α→Bool}: ∀ {A:List α} {i:Nat} (h:i<A.length),(∀ q (hq:q<A.length),q<i→p A[q]=false)→p A[i]=true→A.find? p=some A[i]
 | [],i,h,_,_=>absurd h (YY _)
 |a::A,0,h,_,hp=>by rw [Z9,show p a=true from hp];rfl
 |a::A,i+1,h,hn,hp=>by
  rw [Z9,show p a=false from hn 0 (Nat.zero_lt_succ _) (Nat.zero_lt_succ _)];exact KA (A:=A) (by simpa using h) (fun q hq hqi=>hn (q+1) (by simpa using hq) (by omega)) hp
theorem Sf {α:Type} {p:α→Bool} {A:List α} (h: ∀ q (hq:q<A.length),p A[q]=false):A.find? p=none:=by
 rw [ZS];intro x hx;obtain ⟨q,hq,rfl⟩:=Z1.1 hx;rw [h q hq];exact Bool.false_ne_true
structure GrI (A:List (Rf × Bool)) (nr:Rf→List Rf→Bool) (S:List Rf):Prop where
 nd:S.Nodup
 sub: ∀ x∈S,x∈A.map fun y=>y.1
 fin:Ga A nr (A.length+1 - S.length) S=Gb A nr
theorem GrI.nil (A:List (Rf × Bool)) (nr:Rf→List Rf→Bool):GrI A nr []:=⟨ZM,fun _ h=>(by cases h),rfl⟩
theorem GrI.len {A:List (Rf × Bool)} {nr:Rf→List Rf→Bool} {S:List Rf} (h:GrI A nr S):S.length≤A.length:=by
 have h1:=jp h.nd h.sub;rwa [Xq] at h1
theorem GrI.step {A:List (Rf × Bool)} {nr:Rf→List Rf→Bool} {S:List Rf} (h:GrI A nr S) {i:Nat} (hi:i<A.length) (hn: ∀ q (hq:q<A.length),q<i→zQ nr S A[q]=false) (hc:zQ nr S A[i]=true):GrI A nr (S++ [A[i].1]):=by
 have hl:=h.len;have hf:=KA hi hn hc;have hni:A[i].1∉S:=by
  unfold zQ at hc;rw [Xo,Y4,decide_eq_false_iff_not] at hc;exact hc.1
 refine ⟨?_,fun x hx=> ?_,?_⟩
 ·rw [YK];exact ⟨h.nd,by simp,fun a ha b hb e=>hni (by rw [Xl.1 hb] at e;exact e ▸ ha)⟩
 ·rcases Xr.1 hx with hx|hx
  ·exact h.sub x hx
  ·rw [Xl.1 hx];exact Xu.2 ⟨A[i],XO hi,rfl⟩
 ·rw [← h.fin,show A.length+1 - S.length=(A.length+1 - (S++ [A[i].1]).length)+1 by simp;omega,Ga,hf]
theorem GrI.done {A:List (Rf × Bool)} {nr:Rf→List Rf→Bool} {S:List Rf} (h:GrI A nr S) (hn: ∀ q (hq:q<A.length),zQ nr S A[q]=false):S=Gb A nr:=by
 have hl:=h.len;have hf:=Sf hn;rw [← h.fin,show A.length+1 - S.length=(A.length - S.length)+1 by omega,Ga,hf]
def yY (gg:Nat) (r:Rct) (Aa:Option Nat) (na ca:Nat) (As:Option Nat) (ns cs:Nat):List Value:= [.pointer (some ⟨gg,0,none⟩),.int .i64 r.c1,.int .i64 r.r1,.int .i64 r.c2,.int .i64 r.r2,sl Aa na ca,sl As ns cs]
theorem Kj {S:List Rf} {e:Rf × Value × Nat} (h:e∈dI S): ∃ a k,a∈S∧e=(a,Value.bool true,k):=by
 have h1:e.1∈(dI S).map fun e=>e.1:=Xu.2 ⟨e,h,rfl⟩;rw [l9] at h1;unfold dI iV at h;obtain ⟨x,_,rfl⟩:=Xu.1 h;exact ⟨_,_,h1,rfl⟩
theorem Og {S:List Rf} {a:Rf} (h:a∈S): ∃ k,(a,Value.bool true,k)∈dI S:=by
 rw [← l9 S] at h;obtain ⟨e,he,rfl⟩:=Xu.1 h;obtain ⟨a,k,_,rfl⟩:=Kj he;exact ⟨k,he⟩
theorem RP {gg:Nat} {G:Gr} {B F:List Blk} {w0:World} (R:Rdr gg G B w0) (hB:MSub B F) (r:Rct) (Aa:Option Nat) (na ca:Nat) (As:Option Nat) (ns cs:Nat) (a:Rf) (S:List Rf) (hS:S.Nodup) (gm:Nat):
 FnIn Tryz.prog 66 [.agg (yY gg r Aa na ca As ns cs).toArray,aC a,.map (some gm)] w0 (.obj gm (aK aC (dI S) S.length)::F) fun v H' =>v= .bool (nX G r a S)∧H' = .obj gm (aK aC (dI S) S.length)::F:=by
 have hok:=IB hS;have hUs:=fun (H:List Blk) (hs:MSub B H)=>R.us a H hs;have hUl:=fL R.g a;have hha:=fun a b w=>jA a b w;refine bI Tryz.func66 rfl Tryz.ntmps66 rfl ?_;simp only [yY];unfold nX;generalize aG G a=U at hUs hUl ⊢
 cases h0:aI r a with
 |true=>
   rw [aan];repeat' (first|apply aa (f:=28);exact rfl;exact rfl;intro w' hm;exact hha r a w';rw [h0]|refine zZB ?_|refine sM fun _=>?_|refine sC ?_ ?_<;>intro hb<;>try omega|fail)
   all_goals first
    |omega
    |refine bo eIO rfl rfl (H' := .obj gm (aK aC (dI S) S.length)::F) mS ⟨rfl,rfl⟩;done
 |false=>
   rw [Z4];repeat' (first|apply aa (f:=28);exact rfl;exact rfl;intro w' hm;exact hha r a w';rw [h0]|apply aj (f:=78);exact rfl;exact rfl;exact hUs _ (MSub.trans hB mS);rintro _ _ ⟨Au,cu,rfl,rfl⟩|refine zZB ?_|refine sM fun _=>?_|refine sC ?_ ?_<;>intro hb<;>try omega|fail)
   all_goals try omega
   rename_i g3 g4;refine ax [2,3,4,19,20] rfl (fun i:Nat=> [(21,.int .i64 (i:Int))]) (fun _=> .own Au 159 6 U.length cu (U.flatMap bP):: .box g3 83 [.pointer (some ⟨gg,0,none⟩),.int .i64 r.c1,.int .i64 r.r1,.int .i64 r.c2,.int .i64 r.r2,sl Aa na ca,sl As ns cs]:: .box g4 34 (aq a):: .obj gm (aK aC (dI S) S.length)::F) (fun i=>i≤U.length∧ ∀ q (h:q<U.length),q<i→((bZ U[q].rect r).2||S.any fun x=>aI U[q].rect x)=false) (fun i=>U.length - i) 0 ⟨Xn _,fun _ _ h=>absurd h (YY _)⟩ sB mS ?_;rintro i ⟨hi,hno⟩;by_cases hlt:i<U.length
   ·refine aU (A:=Au) pK (by omega) fun gu hA=> ?_;subst hA;have hread:((U.flatMap bP).drop (0+i*6)).take 6=bP U[i]:=by rw [Xv];exact aM lp U i hlt
    have hyes:((bZ U[i].rect r).2||S.any fun x=>aI U[i].rect x)=true→(U.any fun u=>(bZ u.rect r).2||S.any fun x=>aI u.rect x)=true:=fun h=>XQ.2 ⟨_,XO hlt,h⟩;have hnx:((bZ U[i].rect r).2||S.any fun x=>aI U[i].rect x)=false→ ∀ q (h:q<U.length),q<i+1→((bZ U[q].rect r).2||S.any fun x=>aI U[q].rect x)=false:=fun h0 q h hq=>by
     by_cases e:q=i
     ·subst e;exact h0
     ·exact hno q h (by omega)
    have hM:=fun w=>tX U[i].rect r w;generalize U[i]=u at hread hyes hnx hM;obtain ⟨ur,un,uf⟩:=u;simp only [bP] at hread;dsimp only at hyes hnx hM;generalize bZ ur r=mt at hyes hnx hM;obtain ⟨mr,mb⟩:=mt;dsimp only at hyes hnx hM
    cases mb with
    |true=>
      rw [hyes rfl];repeat' (first|apply ak (d:=23);exact rfl;apply ai (j:=i);exact rfl;exact rfl;exact hlt|apply ak (d:=24);exact rfl;apply au;exact rfl;exact pK;exact hread;exact rfl|apply aa (f:=25);exact rfl;exact rfl;intro w' hm;exact hM w'|refine zZA ?_|refine sM fun _=>?_|refine sC ?_ ?_<;>intro hb<;>try omega|fail)
      all_goals first
       |omega
       |refine bo eIO rfl rfl (H' := .obj gm (aK aC (dI S) S.length)::F) mS ⟨rfl,rfl⟩;done
    |false=>
      rw [Z4] at hyes hnx;repeat' (first|apply ak (d:=23);exact rfl;apply ai (j:=i);exact rfl;exact rfl;exact hlt|apply ak (d:=24);exact rfl;apply au;exact rfl;exact pK;exact hread;exact rfl|apply aa (f:=25);exact rfl;exact rfl;intro w' hm;exact hM w'|apply dN (enc:=aC);exact rfl;exact rfl;exact pK;intro gi|refine zZA ?_|refine sM fun _=>?_|refine sC ?_ ?_<;>intro hb<;>try omega|fail)
      all_goals try omega
      rename_i g8 g9;refine ax [2,3,4,8,19,20,21,35] rfl (fun _:List (Rf × Value × Nat)=> []) (fun vis=> .obj gi (je gm S.length (vis.map fun e=>e.2.2)):: .box g8 159 [.int .i64 ur.c1,.int .i64 ur.r1,.int .i64 ur.c2,.int .i64 ur.r2,.int .i64 un,.int .u8 uf]:: .own (some gu) 159 6 U.length cu (U.flatMap bP):: .box g3 83 [.pointer (some ⟨gg,0,none⟩),.int .i64 r.c1,.int .i64 r.r1,.int .i64 r.c2,.int .i64 r.r2,sl Aa na ca,sl As ns cs]:: .box g4 34 (aq a):: .obj gm (aK aC (dI S) S.length)::F) (fun vis=>Vis (dI S) vis∧ ∀ e∈vis,aI ur e.1=false) (fun vis=>(dI S).length - vis.length) [] ⟨Vis.nil _,fun _ h=>by cases h⟩ sB mS ?_;rintro vis ⟨hvis,hnov⟩;have hvl:=hvis.len;repeat' (first|apply eC (enc:=aC);exact rfl;exact rfl;exact pK;exact pK;exact hok;intro e he hne;have hvlt:=hvis.lt he hne;have hvst:=hvis.step he hne;obtain ⟨c,k,hcS,rfl⟩:=Kj he|intro hall|apply ak;exact rfl;apply lH (enc:=aC);exact rfl;exact pK;exact pK;exact he;exact hok|apply aa (f:=28);exact rfl;exact rfl;intro w' hm;exact hha _ _ w'|refine zZA ?_|refine sM fun _=>?_|refine sC ?_ ?_<;>intro hb<;>try omega|fail)
      all_goals first
       |omega
       | (have hr2 : aI ur c = true := by assumption
          refine bo eIO rfl rfl (H' := .obj gm (aK aC (dI S) S.length)::F) mS ⟨by rw [hyes (XQ.2 ⟨c,hcS,hr2⟩)],rfl⟩;done)
       | (refine ⟨vis ++ [(c, Value.bool true, k)], ⟨hvst, fun e he2 => ?_⟩, by simp only [Xa, Xe]; omega, by exact sB, by exact sB, ?_⟩
          ·rcases Xr.1 he2 with he2|he2
           ·exact hnov e he2
           ·rw [Xl.1 he2];assumption
          ·simp only [XI,XD,XR];exact mS)
       | (have h0 : (S.any fun x => aI ur x) = false := by
           rw [Y3];intro c hc;obtain ⟨k,hk⟩:=Og hc;have h8:=hnov _ ((hvis.mem hok hall _).2 hk);simpa using h8
          refine ⟨i+1,⟨hlt,hnx h0⟩,by omega,by exact sB,by exact sB,by exact mS⟩;done)
   ·have e:i=U.length:=by omega
    subst e;have h0:(U.any fun u=>(bZ u.rect r).2||S.any fun x=>aI u.rect x)=false:=by
     rw [Y3];intro u hu;obtain ⟨q,hq,rfl⟩:=Z1.1 hu;have:=hno q hq hq;simpa using this
    rw [h0];repeat' (first|refine zZA ?_|refine sM fun _=>?_|refine sC ?_ ?_<;>intro hb<;>try omega|fail)
    all_goals first
     |omega
     |refine bo eIO rfl rfl (H' := .obj gm (aK aC (dI S) S.length)::F) mS ⟨rfl,rfl⟩;done
end Go.SL
