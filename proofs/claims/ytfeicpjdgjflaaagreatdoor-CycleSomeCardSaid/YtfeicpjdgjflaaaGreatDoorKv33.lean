/-
  Lemmas and walks, put together: Zq Zw.
-/
import Derived.Test.YtfeicpjdgjflaaaGreatDoorKv31
set_option linter.unusedSimpArgs false
set_option linter.unusedVariables false
set_option maxRecDepth 20000
set_option maxHeartbeats 16000000
namespace Go.SL
open Go Go.Proofs Go.RowKit
attribute [local irreducible] W WL WQ WG WA WX WLI WR WT WC WE VOp RW thn blk bg scp aS aV bi FnAt FnIn FnP ceP
theorem Ml (a:Rf):jr (dU a.col a.row)=if a.valid=true then 0 else 3:=by
 unfold jr;rw [yt];unfold Rf.valid;cases valid a.col a.row<;>rfl
theorem HA {G:Gr} (hn:(au G).Nodup): ∀ (L:List Rf) (S:List Nat),AmgI G S→AmgI G (mA (au G) (ck G) L S).1
 | [],S,h=>h
 |a::L,S,h=>by
  rw [mA];by_cases h1:a.valid=false
  ·rw [if_pos h1];exact h
  rw [if_neg h1];by_cases h2:a∉au G
  ·rw [if_pos h2];exact h
  rw [if_neg h2];by_cases h3:ck G (iz (au G) a)=true
  ·rw [if_pos h3];exact h
  rw [if_neg h3];by_cases h4:iz (au G) a∈S
  ·rw [if_pos h4];exact h
  rw [if_neg h4];obtain ⟨hi,_⟩:=pg hn (Decidable.not_not.1 h2);exact HA hn L _ (h.snoc (by rw [← cC];exact hi) (by simpa using h3) h4)
def gM (G:Gr) (l:List Nat) (p m:Nat):List Nat:=(List.range m).filter fun q=>aQ G G.length (atN l p) (atN l q)
theorem Hz (G:Gr) (l:List Nat):(List.range l.length).map (fun p=>gM G l p l.length)=cG (aQ G G.length) l:=rfl
theorem PQ {G:Gr} (hl:G.length≤900) {A2:Nat} {vs:List Value} {Z:List Blk} (hJ:JIn Z vs (aP G)) {w0 w:World} {H:List Blk} (hs:MSub (.own (some A2) 104 1 (au G).length (au G).length vs::Z) H) (hm:Mem w0 w H) (A:Option Nat) (c:Nat) (mv:Value) (i:Nat) (hi:i<(au G).length):
 FnAt Tryz.prog 51 [.agg #[sl A (au G).length c,mv,.slice (some ⟨A2,0,none⟩) (au G).length (au G).length],.int .i64 (i:Int)] w fun v H=> ∃ g,v= .slice (some ⟨g,0,none⟩) (au G).length (au G).length∧H= [ig (au G).length g (aQ G G.length i)]:=by
 have h1:(aP G).length=(au G).length:=by rw [di,cC]
 have h:=IW (aP G) tU (by rw [di];omega) (xc hl) i (by rw [h1];exact hi) (A.map fun g=>⟨g,0,none⟩) c mv _ w (PT hJ hs hm);rw [h1,show OA (aP G) i=aQ G G.length i from funext fun k=>by rw [V3,FT,gz]] at h;exact h
theorem z6 {gg:Nat} {G:Gr} {B:List Blk} {w0:World} (hc:Cyr gg G B w0) (F:List Blk) (hB:MSub B F) (Lr:List Rf) (hLr:Lr.length≤1000) (lv:Value) (hrd: ∀ H w,MSub F H→Mem w0 w H→Reads w lv Lr.length (Lr.flatMap aw)):
 FnIn Tryz.prog 13 [.pointer (some ⟨gg,0,none⟩),lv] w0 F fun v H=> ∃ A c,v= .tuple #[sl A (lA G Lr).length c,.int .i64 (iA G Lr)]∧H= .own A 35 2 (lA G Lr).length c ((lA G Lr).flatMap aw)::F:=by
 refine bE Tryz.func13 rfl Tryz.ntmps13 rfl ?_;have hl:=hc.l;have hof:=xu hc F hB;refine NI (fun w' hm=>hrd F w' (MSub.refl F) hm) fun Al cl hlv=> ?_;subst hlv;repeat' (first|apply ak (f:=47);exact rfl;exact rfl;exact hof;rintro _ _ ⟨A,c,gm,A2,vs,Z,rfl,rfl,hFZ,hJ⟩;simp only [cyV,cyB]|apply aJ (f:=48);exact rfl;exact rfl;intro w' hm;exact Ee hl hJ mS hm A c _;rintro _ _ ⟨g7,rfl,rfl⟩;simp only [ig]|refine zZB ?_|refine sM fun _=>?_|refine sC ?_ ?_<;>intro hb<;>try omega|fail)
 all_goals try omega
 rename_i g6;refine aI 3 1 ?_;refine aI 35 2 ?_;have hKl:(au G).length=G.length:=cC G;have hKn:=hc.g.sort.nodup;have hJ2:=hJ.2;have hJ1:=hJ.1;have hgl:(aP G).length=G.length:=di G;have hinv:=HA hKn Lr [] (AmgI.nil G);have hre:=fun (i:Nat) (hi:i<(au G).length) (w' :World) (H:List Blk) (hs:MSub (.own (some A2) 104 1 (au G).length (au G).length vs::Z) H) (hm:Mem w0 w' H)=>PQ hl hJ hs hm A c (.map (some gm)) i hi;have hlim:=fun S (h:AmgI G S)=>h.len;have hsnoc:=fun S i (h:AmgI G S) (h1:i<G.length) (h2:ck G i=false) (h3:i∉S)=>h.snoc h1 h2 h3;have haE:iA G Lr=(mA (au G) (ck G) Lr []).2:=rfl;have haR:iA G Lr=0→lA G Lr=bQ (au G) (dP G (fB (mA (au G) (ck G) Lr []).1)):=fun h=>if_pos h;have haN:iA G Lr≠0→lA G Lr= []:=fun h=>if_neg h;generalize hK:au G=K at*;refine ay [6,7,30,31] rfl (fun y:Nat × List Nat × Option Nat × Nat=> [(8,sl y.2.2.1 y.2.1.length y.2.2.2),(32,.int .i64 (y.1:Int))]) (fun y=> .own y.2.2.1 3 1 y.2.1.length y.2.2.2 (nzC y.2.1):: .own (some g7) 4 1 K.length K.length (aH K.length (ck G)):: .box g6 101 [sl A K.length c,.map (some gm),.slice (some ⟨A2,0,none⟩) K.length K.length]:: .obj gm (cJ bJ (iR K) K.length):: .own A 35 2 K.length c (K.flatMap aw):: .own (some A2) 104 1 K.length K.length vs:: .own none 35 2 0 0 []::Z) (fun y=>y.1≤Lr.length∧AmgI G y.2.1∧mA K (ck G) Lr []=mA K (ck G) (Lr.drop y.1) y.2.1) (fun y=>Lr.length - y.1) (0,[],none,0) ⟨Vt _,AmgI.nil G,rfl⟩ sB mS ?_;rintro ⟨i,S,A3,c3⟩ ⟨hi,hS,hrec⟩;dsimp only at hi hS hrec ⊢;have hSl:=hlim S hS;by_cases hlt:i<Lr.length
 ·rw [Vy hlt,mA] at hrec;have hFs: ∀ (b1 b2 b3 b4 b5 b6 b7:Blk),MSub F (b1::b2::b3::b4::b5::b6::b7::Z):=fun _ _ _ _ _ _ _=>MSub.trans hFZ mS;refine J6 (m:=Lr.length) (fun w' hm=>hrd _ w' (hFs _ _ _ _ _ _ _) hm) (by omega) fun gr orr cr hlv=> ?_;cases hlv;have hcl: ∀ (H:List Blk),MSub F H→ ∀ w',Mem w0 w' H→Cells w' gr orr (Lr.flatMap aw):=fun H hs w' hm=>uF (hrd H w' hs hm) (by omega);have hel:((Lr.flatMap aw).drop (i*2)).take 2=aw Lr[i]:=cj bS Lr i hlt;generalize hae:Lr[i]=a at hrec hel;have hov:=Ml a;have hloop:=hrec;by_cases hv:a.valid=true
  ·rw [if_pos hv] at hov;rw [if_neg (by rw [hv];simp)] at hrec;by_cases hmem:a∈K
   ·obtain ⟨hpk,hpg⟩:=pg hKn hmem;rw [if_neg (fun h=>h hmem)] at hrec;have hlk:=fun z=>y5 hKn hpk z;rw [hpg] at hlk;generalize hpe:iz K a=p at hrec hpk hlk;have hb1:=bV (f:=ck G) hpk
    cases hcir:ck G p with
    |true=>
      rw [hcir,if_pos rfl] at hrec;rw [hcir] at hb1;have he3:iA G Lr=13:=by rw [haE,hrec]
      have hn:=haN (by rw [he3];decide);rw [he3,hn];repeat' (first|apply ai (d:=34);exact rfl;apply aa (j:=i);exact rfl;exact rfl;exact hlt|apply ai (d:=35);exact rfl;apply da (off:=i*2);intro w' hm;exact hcl _ (hFs _ _ _ _ _ _ _) w' hm;exact rfl;exact hel;exact rfl|apply ai (d:=40);exact rfl;apply jc (enc:=bJ) (k:=a);exact rfl;exact rfl;exact pK;exact hlk _|apply ag;exact rfl;exact rfl;intro w hm;exact s5 a w|apply ag (f:=36);exact rfl;exact rfl;intro w' hm;exact lh _ w';rw [hov]|apply ai (d:=54);exact rfl;apply aa (j:=p);exact rfl;exact rfl;exact hpk|apply ai (d:=55);exact rfl;apply aq;exact rfl;exact pK;exact hb1|refine zZA ?_|refine sM fun _=>?_|refine sC ?_ ?_<;>intro hb<;>try omega|fail)
      all_goals first
       |omega
       |exact dm (H' := .own none 35 2 0 0 []::F) eIO rfl rfl rfl (MSub.pick pK (MSub.trans hFZ mS)) ⟨none,0,rfl,rfl⟩
    |false=>
      rw [hcir,if_neg (by simp)] at hrec;rw [hcir] at hb1;have hct:=fun (w' :World) (H:List Blk) (hm:Mem w0 w' H) (hin:In (.own A3 3 1 S.length c3 (nzC S)) H)=>uI S p (by omega) (sl A3 S.length c3) w' (Reads.of_own hm hin);by_cases hpS:p∈S
      ·rw [if_pos hpS] at hrec;rw [decide_eq_true hpS] at hct;have he3:iA G Lr=8:=by rw [haE,hrec]
       have hn:=haN (by rw [he3];decide);rw [he3,hn];repeat' (first|apply ai (d:=34);exact rfl;apply aa (j:=i);exact rfl;exact rfl;exact hlt|apply ai (d:=35);exact rfl;apply da (off:=i*2);intro w' hm;exact hcl _ (hFs _ _ _ _ _ _ _) w' hm;exact rfl;exact hel;exact rfl|apply ai (d:=40);exact rfl;apply jc (enc:=bJ) (k:=a);exact rfl;exact rfl;exact pK;exact hlk _|apply ag;exact rfl;exact rfl;intro w hm;exact s5 a w|apply ag (f:=36);exact rfl;exact rfl;intro w' hm;exact lh _ w';rw [hov]|apply ai (d:=54);exact rfl;apply aa (j:=p);exact rfl;exact rfl;exact hpk|apply ai (d:=55);exact rfl;apply aq;exact rfl;exact pK;exact hb1|apply ag (f:=49);exact rfl;exact rfl;intro w' hm;exact hct w' _ hm pK|refine zZA ?_|refine sM fun _=>?_|refine sC ?_ ?_<;>intro hb<;>try omega|fail)
       all_goals first
        |omega
        |exact dm (H' := .own none 35 2 0 0 []::F) eIO rfl rfl rfl (MSub.pick pK (MSub.trans hFZ mS)) ⟨none,0,rfl,rfl⟩
      ·rw [if_neg hpS] at hrec;rw [decide_eq_false hpS] at hct;have hS2:=hsnoc S p hS (by omega) hcir hpS;have hone:nzC S++ [.int .i64 (p:Int)]=nzC (S++ [p]):=by simp [nzC]
       repeat' first|apply ai (d:=34);exact rfl;apply aa (j:=i);exact rfl;exact rfl;exact hlt|apply ai (d:=35);exact rfl;apply da (off:=i*2);intro w' hm;exact hcl _ (hFs _ _ _ _ _ _ _) w' hm;exact rfl;exact hel;exact rfl|apply ai (d:=40);exact rfl;apply jc (enc:=bJ) (k:=a);exact rfl;exact rfl;exact pK;exact hlk _|apply ag;exact rfl;exact rfl;intro w hm;exact s5 a w|apply ag (f:=36);exact rfl;exact rfl;intro w' hm;exact lh _ w';rw [hov]|apply ai (d:=54);exact rfl;apply aa (j:=p);exact rfl;exact rfl;exact hpk|apply ai (d:=55);exact rfl;apply aq;exact rfl;exact pK;exact hb1|apply ag (f:=49);exact rfl;exact rfl;intro w' hm;exact hct w' _ hm pK|apply aG;(iterate 3 exact rfl);exact pK;exact pK;exact rfl;simp [Value.oneCell'];omega;simp only [maxLen];omega;intro g8 c8|refine zZA ?_|refine sM fun _=>?_|refine sC ?_ ?_<;>intro hb<;>try omega|fail
       all_goals first
        |omega
        |refine ⟨(i+1,S++ [p],some g8,c8),⟨hlt,hS2,hrec⟩,by dsimp only;omega,by dsimp only;rw [List.length_append];exact sB,by exact sB,by dsimp only;rw [List.length_append,← hone];exact mS⟩;done
   ·rw [if_pos hmem] at hrec;have hlk:=fun z=>wz hmem z;have he3:iA G Lr=6:=by rw [haE,hrec]
    have hn:=haN (by rw [he3];decide);rw [he3,hn];repeat' (first|apply ai (d:=34);exact rfl;apply aa (j:=i);exact rfl;exact rfl;exact hlt|apply ai (d:=35);exact rfl;apply da (off:=i*2);intro w' hm;exact hcl _ (hFs _ _ _ _ _ _ _) w' hm;exact rfl;exact hel;exact rfl|apply ai (d:=40);exact rfl;apply jc (enc:=bJ) (k:=a);exact rfl;exact rfl;exact pK;exact hlk _|apply ag;exact rfl;exact rfl;intro w hm;exact s5 a w|apply ag (f:=36);exact rfl;exact rfl;intro w' hm;exact lh _ w';rw [hov]|refine zZA ?_|refine sM fun _=>?_|refine sC ?_ ?_<;>intro hb<;>try omega|fail)
    all_goals first
     |omega
     |exact dm (H' := .own none 35 2 0 0 []::F) eIO rfl rfl rfl (MSub.pick pK (MSub.trans hFZ mS)) ⟨none,0,rfl,rfl⟩
  ·rw [if_neg hv] at hov;rw [if_pos (by simpa using hv)] at hrec;have hlkx: ∃ t:Int × Bool,∀ z,(match co a (iR K) 0 with|some (_,v)=>Value.tuple #[v,.bool true]|none=> .tuple #[z,.bool false])= .tuple #[if t.2=true then .int .i64 t.1 else z,.bool t.2]:=by
    by_cases hmem:a∈K
    ·obtain ⟨hpk,hpg⟩:=pg hKn hmem;refine ⟨((iz K a:Nat),true),fun z=> ?_⟩;have h1:=y5 hKn hpk z;rw [hpg] at h1;exact h1
    ·exact ⟨(0,false),fun z=>wz hmem z⟩
   obtain ⟨⟨ti,tb⟩,hlk⟩:=hlkx;have he3:iA G Lr=3:=by rw [haE,hrec]
   have hn:=haN (by rw [he3];decide);rw [he3,hn];repeat' (first|apply ai (d:=34);exact rfl;apply aa (j:=i);exact rfl;exact rfl;exact hlt|apply ai (d:=35);exact rfl;apply da (off:=i*2);intro w' hm;exact hcl _ (hFs _ _ _ _ _ _ _) w' hm;exact rfl;exact hel;exact rfl|apply ai (d:=40);exact rfl;apply jc (enc:=bJ) (k:=a);exact rfl;exact rfl;exact pK;exact hlk _|apply ag;exact rfl;exact rfl;intro w hm;exact s5 a w|apply ag (f:=36);exact rfl;exact rfl;intro w' hm;exact lh _ w';rw [hov]|refine zZA ?_|refine sM fun _=>?_|refine sC ?_ ?_<;>intro hb<;>try omega|fail)
   all_goals first
    |omega
    |exact dm (H' := .own none 35 2 0 0 []::F) eIO rfl rfl rfl (MSub.pick pK (MSub.trans hFZ mS)) ⟨none,0,rfl,rfl⟩
 ·have hi2:i=Lr.length:=by omega
  subst hi2;rw [V8,mA] at hrec;have he0:iA G Lr=0:=by rw [haE,hrec]
  have hR0:=haR he0;rw [hrec] at hR0;dsimp only at hR0;rw [he0,hR0];have hok:=hS.ok;have hSL:=(dZ S).length_eq;have hsrt:=fun R=>x7 S A3 c3 (by omega) R w0;rw [← hSL] at hsrt hSl ⊢;generalize fB S=l at*;have hsub:=hok.sub;have hoe:=hok.eq;have hlt:=hok.lt;repeat' (first|apply ak (f:=50);exact rfl;exact rfl;exact FnIn.msub (hsrt _) (MSub.pick pK (MSub.refl _));rintro _ _ ⟨rfl,rfl⟩|apply dK (c:=l.length);(iterate 3 exact rfl);omega;simp only [maxLen];omega;intro gx;(try simp only [og])|refine zZA ?_|refine sM fun _=>?_|refine sC ?_ ?_<;>intro hb<;>try omega|fail)
  all_goals try omega
  have hpA: ∀ (J L:List Blk),MSub (L++(J++Z)) (J++(L++Z)):=fun J L=>MSub.of_perm (Xb J L Z);refine kI (.own (some gx) 104 1 l.length l.length (dr (ub l.length) (fX l.length)):: .own A3 3 1 l.length c3 (nzC l):: .box g6 101 [sl A K.length c,.map (some gm),.slice (some ⟨A2,0,none⟩) K.length K.length]:: .own A 35 2 K.length c (K.flatMap aw):: .own (some A2) 104 1 K.length K.length vs::Z) mS ?_;refine lB 3 l.length ?_;rw [← GM,← yg l.length (fun p=>gM G l p l.length)];refine ay [6,8,13,70,71] rfl (fun z:Nat × JA × List Blk=> [(72,.int .i64 (z.1:Int))]) (fun z=> .own (some gx) 104 1 l.length l.length (dr (cW l.length (fun p=>gM G l p l.length) z.1 []) z.2.1):: .own A3 3 1 l.length c3 (nzC l):: .box g6 101 [sl A K.length c,.map (some gm),.slice (some ⟨A2,0,none⟩) K.length K.length]:: .own A 35 2 K.length c (K.flatMap aw):: .own (some A2) 104 1 K.length K.length vs::z.2.2) (fun z=>z.1≤l.length∧z.2.1.length=l.length∧(jT (cW l.length (fun p=>gM G l p l.length) z.1 []) z.2.1++Z).Perm z.2.2) (fun z=>l.length - z.1) (0,fX l.length,jT (cW l.length (fun p=>gM G l p l.length) 0 []) (fX l.length)++Z) ⟨Vt _,Xo,.refl _⟩ sB (hpA _ [_,_,_,_,_]) ?_;clear hpA;rintro ⟨n,As,Zg⟩ ⟨hn,hAl,hZ⟩;dsimp only at hn hAl hZ ⊢;by_cases hnl:n<l.length
  ·have hel:=dh hnl;have hq:=hlt _ (dM hnl);have hqK:atN l n<K.length:=by omega
   have hZs: ∀ (b1 b2 b3 b4 b5:Blk),MSub Z (b1::b2::b3::b4::b5::Zg):=fun _ _ _ _ _=>MSub.trans (MSub.trans (MSub.appR _ _) (MSub.of_perm hZ.symm)) mS;have hreq:=hre (atN l n) hqK;have hamg: ∀ m,gM G l n m=(List.range m).filter fun q=>aQ G G.length (atN l n) (atN l q):=fun m=>rfl;refine ba (A:=A3) pK (by omega) fun g3 hA=> ?_;subst hA;generalize atN l n=q at hel hqK hreq hamg;repeat' (first|apply ai (d:=75);exact rfl;apply aa (j:=n);exact rfl;exact rfl;exact hnl|apply ai (d:=76);exact rfl;apply aq;exact rfl;exact pK;exact hel|apply aJ (f:=51);exact rfl;exact rfl;intro w' hm;exact hreq w' _ (MSub.pick pK (MSub.trans (MSub.trans (MSub.appR _ _) (MSub.of_perm hZ.symm)) mS)) hm;rintro _ _ ⟨g16,rfl,rfl⟩;simp only [ig]|refine zZA ?_|refine sM fun _=>?_|refine sC ?_ ?_<;>intro hb<;>try omega|fail)
   all_goals try omega
   have hz0:gM G l n 0= []:=rfl;refine ay [6,8,13,14,16,70,71,72,80,81] rfl (fun z:Nat × JA × List Blk=> [(82,.int .i64 (z.1:Int))]) (fun z=> .own (some g16) 4 1 K.length K.length (aH K.length (aQ G G.length q)):: .own (some gx) 104 1 l.length l.length (dr (cW l.length (fun p=>gM G l p l.length) n (gM G l n z.1)) z.2.1):: .own (some g3) 3 1 l.length c3 (nzC l):: .box g6 101 [sl A K.length c,.map (some gm),.slice (some ⟨A2,0,none⟩) K.length K.length]:: .own A 35 2 K.length c (K.flatMap aw):: .own (some A2) 104 1 K.length K.length vs::z.2.2) (fun z=>z.1≤l.length∧z.2.1.length=l.length∧(jT (cW l.length (fun p=>gM G l p l.length) n (gM G l n z.1)) z.2.1++Z).Perm z.2.2) (fun z=>l.length - z.1) (0,As,Zg) ⟨Nat.zero_le _,hAl,hZ⟩ sB (by dsimp only;rw [hz0];exact mS) ?_;clear hZ hAl hZs;rintro ⟨m,As,Zg⟩ ⟨hm,hAl,hZ⟩;dsimp only at hm hAl hZ ⊢;by_cases hlm:m<l.length
   ·have hem:=dh hlm;have hkK:atN l m<K.length:=by have:=hlt _ (dM hlm);omega
    have hb1:=bV (f:=aQ G G.length q) hkK;have hts:=gZ (n:=m) fun x=>aQ G G.length q (atN l x);rw [← hamg,← hamg] at hts;have hX:=lF l.length (fun p=>gM G l p l.length) n (gM G l n m);have hcell:=jw (X:=cW l.length (fun p=>gM G l p l.length) n (gM G l n m)) (As:=As) (i:=n) (by omega) (by omega);obtain ⟨Rs,hR1,hR2⟩:=oo (X:=cW l.length (fun p=>gM G l p l.length) n (gM G l n m)) (As:=As) (i:=n) (by omega) (by omega);have hvset:=fun r a=>oh (X:=cW l.length (fun p=>gM G l p l.length) n (gM G l n m)) (As:=As) (i:=n) r a (by omega);have hvl:=l9 (X:=cW l.length (fun p=>gM G l p l.length) n (gM G l n m)) (As:=As) (by omega);rw [Fx hnl] at hcell hR1;simp only [BH] at hR2 hvset;rcases hak:As[n] with ⟨a1,a2⟩;rw [hak] at hcell hR1;dsimp only at hcell hR1;have hcell:(dr (cW l.length (fun p=>gM G l p l.length) n (gM G l n m)) As)[0+n*1]? =some (sl a1 (gM G l n m).length a2):=by rw [VD,Wd];exact hcell
    have hZ2:=hZ.symm.trans (hR1.append_right Z);have hbl:(gM G l n m).length≤1000:=VR (nQ _) (by omega)
    cases hap:aQ G G.length q (atN l m) with
    |true=>
      rw [hap] at hb1;rw [if_pos hap] at hts;refine kI (.own a1 3 1 (gM G l n m).length a2 (nzC (gM G l n m)):: .own (some g16) 4 1 K.length K.length (aH K.length (aQ G G.length q)):: .own (some gx) 104 1 l.length l.length (dr (cW l.length (fun p=>gM G l p l.length) n (gM G l n m)) As):: .own (some g3) 3 1 l.length c3 (nzC l):: .box g6 101 [sl A K.length c,.map (some gm),.slice (some ⟨A2,0,none⟩) K.length K.length]:: .own A 35 2 K.length c (K.flatMap aw):: .own (some A2) 104 1 K.length K.length vs::(Rs++Z)) (MSub.trans (by exact mS:MSub _ (.own (some g16) 4 1 K.length K.length (aH K.length (aQ G G.length q)):: .own (some gx) 104 1 l.length l.length (dr (cW l.length (fun p=>gM G l p l.length) n (gM G l n m)) As):: .own (some g3) 3 1 l.length c3 (nzC l):: .box g6 101 [sl A K.length c,.map (some gm),.slice (some ⟨A2,0,none⟩) K.length K.length]:: .own A 35 2 K.length c (K.flatMap aw):: .own (some A2) 104 1 K.length K.length vs:: .own a1 3 1 (gM G l n m).length a2 (nzC (gM G l n m))::(Rs++Z))) (MSub.of_perm ((((((hZ2.cons _).cons _).cons _).cons _).cons _).cons _))) ?_;generalize atN l m=k at hem hkK hb1;clear hak hX;generalize gM G l n m=Fr at*;have hone:nzC Fr++ [.int .i64 (m:Int)]=nzC (Fr++ [m]):=by simp [nzC]
      have hol:(Fr++ [m]).length=Fr.length+1:=by simp
      repeat' first|apply ai (d:=85);exact rfl;apply aa (j:=m);exact rfl;exact rfl;exact hlm|apply ai (d:=86);exact rfl;apply aq;exact rfl;exact pK;exact hem|apply ai (d:=89);exact rfl;apply aa (j:=k);exact rfl;exact rfl;exact hkK|apply ai (d:=90);exact rfl;apply aq;exact rfl;exact pK;exact hb1|apply ai (d:=95);exact rfl;apply aa (j:=n);exact rfl;exact rfl;exact hnl|apply ai (d:=96);exact rfl;apply aq;exact rfl;exact pK;exact hcell|apply aG;(iterate 3 exact rfl);exact pK;exact pK;exact rfl;simp [Value.oneCell'];omega;simp only [maxLen];omega;intro g8 c8|apply ai (d:=100);exact rfl;apply aa (j:=n);exact rfl;exact rfl;exact hnl|apply aW (g:=gx);exact rfl;exact rfl;exact pK;exact rfl;rw [hvl,lF];omega;rw [VD,Wd]|refine zZA ?_|refine sM fun _=>?_|refine sC ?_ ?_<;>intro hb<;>try omega|fail
      all_goals first
       |omega
       | (have hv1 := hvset (Fr ++ [m]) (some g8, c8)
          have hr1:=(hR2 (Fr++ [m]) (some g8,c8)).append_right Z;refine ⟨(m+1,As.set n (some g8,c8),.own (some g8) 3 1 (Fr++ [m]).length c8 (nzC (Fr++ [m]))::(Rs++Z)),⟨hlm,by dsimp only;rw [List.length_set];exact hAl,by dsimp only;rw [hts];exact hr1⟩,by dsimp only;omega,by exact sB,by exact sB,?_⟩;dsimp only;rw [hts,hv1,hol,← hone];exact mS)
    |false=>
      rw [hap] at hb1;rw [if_neg (by rw [hap];simp)] at hts;generalize atN l m=k at hem hkK hb1;repeat' (first|apply ai (d:=85);exact rfl;apply aa (j:=m);exact rfl;exact rfl;exact hlm|apply ai (d:=86);exact rfl;apply aq;exact rfl;exact pK;exact hem|apply ai (d:=89);exact rfl;apply aa (j:=k);exact rfl;exact rfl;exact hkK|apply ai (d:=90);exact rfl;apply aq;exact rfl;exact pK;exact hb1|refine zZA ?_|refine sM fun _=>?_|refine sC ?_ ?_<;>intro hb<;>try omega|fail)
      all_goals first
       |omega
       |refine ⟨(m+1,As,Zg),⟨hlm,hAl,by dsimp only;rw [hts];exact hZ⟩,by dsimp only;omega,by exact sB,by exact sB,by dsimp only;rw [hts];exact mS⟩;done
   ·have hm2:m=l.length:=by omega
    subst hm2;rw [oQ l.length (fun p=>gM G l p l.length)] at hZ;rw [oQ l.length (fun p=>gM G l p l.length)];repeat' (first|refine zZA ?_|refine sM fun _=>?_|refine sC ?_ ?_<;>intro hb<;>try omega|fail)
    all_goals first
     |omega
     |refine ⟨(n+1,As,Zg),⟨hnl,hAl,hZ⟩,by dsimp only;omega,by exact sB,by exact sB,by exact mS⟩;done
  ·have hn2:n=l.length:=by omega
   subst hn2;rw [oR,Hz] at hZ;rw [oR,Hz];have hYl:(cG (aQ G G.length) l).length=l.length:=hsub.len;have hJY:JIn Zg (dr (cG (aQ G G.length) l) As) (cG (aQ G G.length) l):=(DF (X:=cG (aQ G G.length) l) (As:=As) (by rw [hYl];exact hAl)).mono (MSub.trans (MSub.appL _ _) (MSub.of_perm hZ.symm));have hFZg:MSub F Zg:=MSub.trans (MSub.trans hFZ (MSub.appR _ _)) (MSub.of_perm hZ.symm);have hYr: ∀ i,(ax (cG (aQ G G.length) l) i).length≤1000:=fun i=>by
    unfold ax cG;rw [VG];by_cases h:i<l.length
    ·rw [V7 h];exact VR (nQ _) (by omega)
    ·rw [VJ (by simpa using h)];exact Vt _
   have hTo: ∀ (w' :World) (H:List Blk),MSub (.own (some gx) 104 1 l.length l.length (dr (cG (aQ G G.length) l) As)::Zg) H→Mem w0 w' H→FnAt Tryz.prog 52 [.slice (some ⟨gx,0,none⟩) l.length l.length] w' fun u H=> ∃ A c Z,u= .tuple #[sl A (cV (cG (aQ G G.length) l)).length c,.int .i64 0]∧H= .own A 3 1 (cV (cG (aQ G G.length) l)).length c (nzC (cV (cG (aQ G G.length) l)))::Z:=fun w' H hs hm=>by
    have h1:=hs.use hm;rw [← hYl] at h1 ⊢;exact KW (cG (aQ G G.length) l) (fun p q hq=>by rw [hYl];exact hsub.ok p q hq) (by omega) hYr (fun p hp=>hsub.acy p (by omega)) _ w' (hJY.rd h1)
   have hperm:=hsub.topo.2;have hTl:(cV (cG (aQ G G.length) l)).length=l.length:=by rw [hperm.length_eq,We]
   have hTm: ∀ x∈cV (cG (aQ G G.length) l),x<l.length:=fun x hx=>VT.1 (hperm.mem_iff.1 hx);have hfinal:bQ K ((cV (cG (aQ G G.length) l)).map (atN l))=bQ K (dP G l):=by
    rw [← hoe]
    rfl
   generalize cV (cG (aQ G G.length) l)=T at*;repeat' (first|apply aJ (f:=52);exact rfl;exact rfl;intro w' hm;exact hTo w' _ mS hm;rintro _ _ ⟨A7,c7,Z7,rfl,rfl⟩;refine kU (_::_) (MSub.pick .hd (MSub.appR _ Z7)) ?_|refine zZA ?_|refine sM fun _=>?_|refine sC ?_ ?_<;>intro hb<;>try omega|fail)
   all_goals try omega
   refine aI 35 2 ?_;refine ay [6,8,20,108,109] rfl (fun y:Nat × Option Nat × Nat=> [(21,sl y.2.1 y.1 y.2.2),(110,.int .i64 (y.1:Int))]) (fun y=> .own y.2.1 35 2 y.1 y.2.2 ((bQ K ((T.take y.1).map (atN l))).flatMap aw):: .own A7 3 1 T.length c7 (nzC T):: .own A3 3 1 l.length c3 (nzC l):: .box g6 101 [sl A K.length c,.map (some gm),.slice (some ⟨A2,0,none⟩) K.length K.length]:: .own A 35 2 K.length c (K.flatMap aw)::Zg) (fun y=>y.1≤T.length) (fun y=>T.length - y.1) (0,none,0) (Vt _) sB mS ?_;rintro ⟨t,A9,c9⟩ ht;dsimp only at ht ⊢;by_cases htl:t<T.length
   ·have hel:=dh htl;have hpl:=hTm _ (dM htl);have hst:(T.take (t+1)).map (atN l)=(T.take t).map (atN l)++ [atN l (atN T t)]:=by rw [Vu htl,eE htl,Wj];rfl
    generalize atN T t=p at hel hpl hst;have hl1:=dh hpl;have hil:=hlt _ (dM hpl);have hiK:atN l p<K.length:=by omega
    have hcc:=Rx hiK;rw [← lW hiK] at hcc;have hns:bQ K ((T.take (t+1)).map (atN l))=bQ K ((T.take t).map (atN l))++ [jq K (atN l p)]:=by rw [hst,lG]
    generalize atN l p=q at hl1 hiK hcc hns;generalize jq K q=a at hcc hns;refine ba (A:=A7) pK (by omega) fun g7 hA=> ?_;subst hA;refine ba (A:=A3) pK (by omega) fun g3 hA=> ?_;subst hA;refine ba (A:=A) pK (by omega) fun ga hA=> ?_;subst hA;repeat' (first|apply ai (d:=112);exact rfl;apply aa (j:=t);exact rfl;exact rfl;exact htl|apply ai (d:=113);exact rfl;apply aq;exact rfl;exact pK;exact hel|refine zZA ?_|refine sM fun _=>?_|refine sC ?_ ?_<;>intro hb<;>try omega|fail)
    all_goals try omega
    refine oJ (id:=38) [9,10] [.own (some g3) 3 1 l.length c3 (nzC l),.box g6 101 [sl (some ga) K.length c,.map (some gm),.slice (some ⟨A2,0,none⟩) K.length K.length],.own (some ga) 35 2 K.length c (K.flatMap aw)] 12 rfl rfl mS ?_;repeat' (first|apply cD (i:=5);(iterate 4 exact rfl);(iterate 3 decide+kernel);apply aa (j:=p);exact rfl;exact rfl;exact hpl|apply cD (i:=6);(iterate 4 exact rfl);(iterate 3 decide+kernel);apply aq;exact rfl;exact pK;exact hl1|apply cD (i:=7);(iterate 4 exact rfl);(iterate 3 decide+kernel);apply aa (j:=q);exact rfl;exact rfl;exact hiK|apply cD (i:=8);(iterate 4 exact rfl);(iterate 3 decide+kernel);apply aD (ys:=aw a);exact rfl;exact pK;exact hcc;exact rfl|apply cD (i:=0);(iterate 4 exact rfl);(iterate 3 decide+kernel);exact vC|apply cD (i:=1);(iterate 4 exact rfl);(iterate 3 decide+kernel);exact vC|apply cD (i:=2);(iterate 4 exact rfl);(iterate 3 decide+kernel);exact vC|apply cD (i:=3);(iterate 4 exact rfl);(iterate 3 decide+kernel);exact vC|apply cD (i:=4);(iterate 4 exact rfl);(iterate 3 decide+kernel);exact vC|apply cD (i:=11);(iterate 4 exact rfl);(iterate 3 decide+kernel);apply xS;exact rfl|apply ep (i:=9);(iterate 3 exact rfl);decide+kernel|apply ep (i:=10);(iterate 3 exact rfl);decide+kernel|apply oI;decide+kernel|apply Ht;(focus (exact mS;done))|apply aG;(iterate 3 exact rfl);exact pK;exact pK;exact rfl;simp [aw,Value.oneCell'];omega;simp only [maxLen];omega;intro g8 c8|refine zZB ?_|refine sM fun _=>?_|refine sC ?_ ?_<;>intro hb<;>try omega|fail)
    repeat' first|refine zZA ?_|refine sM fun _=>?_|refine sC ?_ ?_<;>intro hb<;>try omega|fail
    all_goals first
     |omega
     | (refine ⟨(t + 1, some g8, c8), htl, by dsimp only; omega, by exact sB, by exact sB, ?_⟩
        dsimp only;rw [hns,VF,WZ];exact mS)
   ·have ht2:t=T.length:=by omega
    subst ht2;rw [V1,hfinal];have hol2:(bQ K (dP G l)).length=T.length:=by rw [← hfinal,cQ,VK]
    repeat' first|refine zZA ?_|refine sM fun _=>?_|refine sC ?_ ?_<;>intro hb<;>try omega|fail
    all_goals first
     |omega
     |exact dm (H' := .own A9 35 2 (bQ K (dP G l)).length c9 ((bQ K (dP G l)).flatMap aw)::F) eIO rfl rfl rfl (by rw [hol2];exact MSub.pick pK (MSub.trans hFZg mS)) ⟨A9,c9,by rw [hol2],rfl⟩
theorem PE {w:World} (hW:Words w) (w' :World) (H:List Blk) (tv:Value) (hm:Mem w w' H) (ht:Reads w' tv exL.length (exL.flatMap rK)):FnAt Tryz.prog 33 [tv] w' fun v H=> ∃ gg gm E clock R,v= .tuple #[.pointer (some ⟨gg,0,none⟩),.int .i64 0]∧H=gB gg gm (E.map En.m) clock++R∧GOk R E clock exG:=by
 have h1:=Qf exL tv w' ht (by decide) (hW.next hm);rw [PB] at h1;exact h1
theorem KL:GrOk G9:=DS.set _ _
theorem PF:G9.length≤900:=by decide+kernel
theorem qA {gg:Nat} {G:Gr} {B:List Blk} {w0:World} (hc:Cyr gg G B w0) {F:List Blk} (hB:MSub B F) {Lr M:List Rf} {e:Int} (h:lA G Lr=M∧iA G Lr=e) (hl:Lr.length≤1000) (lv:Value) (hrd: ∀ H w,MSub F H→Mem w0 w H→Reads w lv Lr.length (Lr.flatMap aw)):
 FnIn Tryz.prog 13 [.pointer (some ⟨gg,0,none⟩),lv] w0 F fun v H=> ∃ A c,v= .tuple #[sl A M.length c,.int .i64 e]∧H= .own A 35 2 M.length c (M.flatMap aw)::F:=by
 have h1:=z6 hc F hB Lr hl lv hrd;rw [h.1,h.2] at h1;exact h1
theorem sr {F:List Blk} {A:Option Nat} {n c:Nat} {xs:List Value} {w0:World} (hi:In (.own A 35 2 n c xs) F): ∀ H w,MSub F H→Mem w0 w H→Reads w (sl A n c) n xs:=fun H w hs hm=>Reads.of_own (hs.use hm) hi
theorem Oz {F:List Blk} {w0:World}: ∀ H w,MSub F H→Mem w0 w H→Reads w (.slice none 0 0) ([]:List Rf).length (([]:List Rf).flatMap aw):=fun _ _ _ _=>⟨none,0,rfl,VA _,Vt _,fun h=>absurd h (Xr _)⟩
theorem sY (w:World) (hW:Words w):aF Tryz.prog 18 [] w (.bool true):=by
 refine aA Tryz.func18 rfl Tryz.ntmps18 rfl ?_;repeat' (first|apply aJ (f:=65);exact rfl;exact rfl;intro w' hm;exact JX w';rintro _ _ ⟨ge,rfl,rfl⟩|apply aJ (f:=33);exact rfl;exact rfl;intro w' hm;exact PE hW w' _ _ hm (Reads.of_own (A:=some _) hm pK);rintro _ _ ⟨gg,gm,E,clock,R,rfl,rfl,hG⟩;refine kU (gB gg gm (E.map En.m) clock++R) (MSub.appL _ _) ?_|apply ag;exact rfl;exact rfl;intro w hm;exact LX _ _ w|apply ak (d:=24);exact rfl;exact rfl;exact Kk (hG.cyr DS (by decide) gg gm w) _ mS UL UN UJ _ _ _ Oz Oz (sr (A:=some _) pK);rintro _ _ ⟨rfl,rfl⟩|apply ak (d:=32);exact rfl;exact rfl;exact qA (hG.cyr DS (by decide) gg gm w) mS Vk (by decide) _ (sr (A:=some _) pK);rintro _ _ ⟨A1,c1,rfl,rfl⟩|apply ak (d:=40);exact rfl;exact rfl;exact qA (hG.cyr DS (by decide) gg gm w) mS Vj (by decide) _ (sr (A:=some _) pK);rintro _ _ ⟨A2,c2,rfl,rfl⟩|apply ag (d:=54);exact rfl;exact rfl;intro w' hm;exact eG rfl (Reads.of_own (A:=A1) (c:=c1) hm pK) (Reads.of_own (A:=some _) hm pK)|apply ag (d:=62);exact rfl;exact rfl;intro w' hm;exact eG rfl (Reads.of_own (A:=A2) (c:=c2) hm pK) (Reads.of_own (A:=some _) hm pK)|apply ak (f:=41);exact rfl;exact rfl;exact hG.set_to gg gm [] mS hW TG;rintro _ _ ⟨rfl,E1,k1,R1,rfl,hG1⟩;rw [Vq]|apply ak (d:=75);exact rfl;exact rfl;exact qA (hG1.cyr KL PF gg gm w) mS Vi (by decide) _ (sr (A:=some _) pK);rintro _ _ ⟨A3,c3,rfl,rfl⟩|apply ak (d:=90);exact rfl;exact rfl;exact Kk (hG1.cyr KL PF gg gm w) _ mS UK UM UI _ _ _ (sr (A:=some _) pK) (sr (A:=some _) pK) (sr (A:=some _) pK);rintro _ _ ⟨rfl,rfl⟩|refine zZB ?_|refine sM fun _=>?_|refine sC ?_ ?_<;>intro hb<;>try omega|fail)
 all_goals first
  |omega
  |(refine rT1 ?_);rfl
end Go.SL
