/-
  Lemmas and walks, put together: Zs Zt Zu Zx.
-/
import Derived.Test.YtfeicpjdgjflaaaGreatDoorKv39
set_option linter.unusedSimpArgs false
set_option linter.unusedVariables false
set_option maxRecDepth 20000
set_option maxHeartbeats 16000000
namespace Go.SL
open Go Go.Proofs Go.RowKit
attribute [local irreducible] W WL WQ WG WA WX WLI WR WT WC WE VOp RW thn blk bg scp aS aV bi FnAt FnIn FnP ceP
def yU (M:Nat→Nat→Bool) (lf:Nat→Bool) (i k:Nat):Bool:=lf i && (List.range k).all fun q=> !(lf q && M i q)
theorem Mz (M:Nat→Nat→Bool) (lf:Nat→Bool) (i k:Nat):yU M lf i (k+1)=(yU M lf i k && !(lf k && M i k)):=by
 unfold yU;rw [XP,List.all_append];simp [Bool.and_assoc]
theorem My (M:Nat→Nat→Bool) (lf:Nat→Bool) (i:Nat):yU M lf i 0=lf i:=by simp [yU]
theorem OH {M:Nat→Nat→Bool} {n:Nat} {lf:Nat→Bool} {p:Nat} (h:tP M n lf=some p):p<n∧yU M lf p n=true∧ ∀ j,j<p→yU M lf j n=false:=by
 unfold tP at h;rw [YR] at h
 exact ⟨VT.1 h.2.1,h.1,fun j hj=>by
  have:=h.2.2 j hj
  cases hc:yU M lf j n with
  |false=>rfl
  |true=>unfold yU at hc;rw [hc] at this;simp at this⟩
theorem MY (i:Nat) (f:Nat→Bool):mq (i+1) f=if f i=true then mq i f+1 else mq i f:=by
 unfold mq;rw [XP,List.countP_append,Y2];split<;>rfl
theorem yf (g:Nat) (A:Option Nat) (cap:Nat) (L:List En) (G:Gr) (F:List Blk) (w0:World) (hlen:L.length≤1000) (hbx:Blk.box g 113 [sl A L.length cap]∈F) (hro:Blk.own A 200 4 L.length cap (L.flatMap cy)∈F)
 (hkey:L.map En.at_=au G) (hGL:L.length=G.length) (A5:Option Nat) (c5:Nat) (As:List Nat) (hM:MatIn F L.length A5 c5 As (aQ G G.length)) (l:List Nat) (hl:SomeOk G l) (gl:Nat):
 FnIn Tryz.prog 46 [.pointer (some ⟨g,0,none⟩),sl A5 L.length c5,.slice (some ⟨gl,0,none⟩) L.length L.length] w0 (.own (some gl) 4 1 L.length L.length (aH L.length (iT l []))::F) fun v H=> ∃ A' c',v=sl A' (bQ (au G) (dP G l)).length c' ∧H= .own A' 35 2 (bQ (au G) (dP G l)).length c' ((bQ (au G) (dP G l)).flatMap aw)::F:=by
 refine bE Tryz.func46 rfl Tryz.ntmps46 rfl ?_;obtain ⟨lf,hlf0,hlf⟩:=hl.steps;have hcnt:=hl.count;have hsl:=hl.sort_len;have hnl:=cQ (au G) (dP G l);have hll:l.length≤G.length:=by rw [← hcnt];exact ra _ _
 generalize aQ G G.length=M at hM hlf;rw [← hGL] at hcnt hlf hll;rw [← hlf0] at hcnt ⊢;have hki: ∀ j (hj:j<L.length),jq (au G) j=L[j].at_:=fun j hj=>by
  unfold jq;rw [← hkey,VG,Vo hj]
  rfl
 have hcl0: ∀ p,p<L.length→((L.flatMap cy).drop (0+p*4+0)).take 2=aw (jq (au G) p):=fun p hp=>by rw [hki p hp];exact lI hp
 clear hki hkey;generalize hsq:dP G l=Q at*;generalize hn:L.length=n at*;repeat' (first|refine zZB ?_|refine sM fun _=>?_|refine sC ?_ ?_<;>intro hb<;>try omega|fail)
 refine ay [0,1,2] rfl (fun i:Nat=> [(8,.int .i64 (i:Int)),(7,.int .i64 ((mq i (lf 0):Nat):Int))]) (fun _=> .own (some gl) 4 1 n n (aH n (lf 0))::F) (fun i=>i≤n) (fun i=>n - i) 0 (Vt _) sB mS ?_;rintro i hi;by_cases hlt:i<n
 ·have hb1:=bV (f:=lf 0) hlt;have hcs:=MY i (lf 0);have hcl:=ra i (lf 0)
  cases hv:lf 0 i with
  |true=>
    rw [hv] at hb1;rw [if_pos hv] at hcs;repeat' (first|apply ai (d:=18);exact rfl;apply eQ;exact rfl;exact .tl (In.of_mem hbx);exact rfl|apply ai (d:=25);exact rfl;apply aa (j:=i);exact rfl;exact rfl;exact hlt|apply ai (d:=26);exact rfl;apply aq;exact rfl;exact pK;exact hb1|refine zZA ?_|refine sM fun _=>?_|refine sC ?_ ?_<;>intro hb<;>try omega|fail)
    all_goals first
     |omega
     |refine ⟨i+1,hlt,by omega,by (try dsimp only);rw [hcs];exact sB,by exact sB,by exact mS⟩;done
  |false=>
    rw [hv] at hb1;rw [if_neg (by rw [hv];simp)] at hcs;repeat' (first|apply ai (d:=18);exact rfl;apply eQ;exact rfl;exact .tl (In.of_mem hbx);exact rfl|apply ai (d:=25);exact rfl;apply aa (j:=i);exact rfl;exact rfl;exact hlt|apply ai (d:=26);exact rfl;apply aq;exact rfl;exact pK;exact hb1|refine zZA ?_|refine sM fun _=>?_|refine sC ?_ ?_<;>intro hb<;>try omega|fail)
    all_goals first
     |omega
     |refine ⟨i+1,hlt,by omega,by (try dsimp only);rw [hcs];exact sB,by exact sB,by exact mS⟩;done
 ·have e:i=n:=by omega
  subst e;rw [hcnt];refine aI 35 2 ?_;repeat' (first|apply ai (d:=18);exact rfl;apply eQ;exact rfl;exact .tl (.tl (In.of_mem hbx));exact rfl|refine zZA ?_|refine sM fun _=>?_|refine sC ?_ ?_<;>intro hb<;>try omega|fail)
  all_goals try omega
  refine ay [0,1,2,7] rfl (fun y:Nat × Option Nat × Nat=> [(9,sl y.2.1 y.1 y.2.2)]) (fun y=> .own y.2.1 35 2 y.1 y.2.2 ((bQ (au G) (Q.take y.1)).flatMap aw):: .own (some gl) 4 1 i i (aH i (lf y.1))::F) (fun y=>y.1≤l.length) (fun y=>l.length - y.1) (0,none,0) (Vt _) sB mS ?_;rintro ⟨t,A9,c9⟩ ht;dsimp only at ht ⊢;by_cases htl:t<l.length
  ·obtain ⟨hpk,hnx⟩:=hlf t htl;obtain ⟨hpn,hpm,hpj⟩:=OH hpk;have hst:bQ (au G) (Q.take (t+1))=bQ (au G) (Q.take t)++ [jq (au G) (atN Q t)]:=by
    rw [Vu (by omega),lG,eE (by omega)]
   generalize atN Q t=p at hpk hnx hpn hpm hpj hst;have hset:=fk (n:=i) (f:=lf t) (k:=p) (v:=false);rw [← hnx] at hset;have hcell:=hcl0 p hpn;generalize jq (au G) p=a at hst hcell;generalize lf t=lt at*;repeat' (first|refine zZA ?_|refine sM fun _=>?_|refine sC ?_ ?_<;>intro hb<;>try omega|fail)
   all_goals try omega
   refine ay [0,1,2,7,9] rfl (fun y:Nat × Int=> [(11,.int .i64 (y.1:Int)),(10,.int .i64 y.2)]) (fun _=> .own A9 35 2 t c9 ((bQ (au G) (Q.take t)).flatMap aw):: .own (some gl) 4 1 i i (aH i lt)::F) (fun y=>(y.1≤p∧y.2= -1)∨(y.1=p+1∧y.2=(p:Int))) (fun y=>p+1 - y.1) (0, -1) (.inl ⟨Vt _,rfl⟩) sB mS ?_;rintro ⟨j,fi⟩ hj;dsimp only at hj ⊢;rcases hj with ⟨hjp,rfl⟩|⟨rfl,rfl⟩
   ·have hjn:j<i:=by omega
    have hb1:=bV (f:=lt) hjn;rw [← My M lt j] at hb1;repeat' (first|apply ai (d:=37);exact rfl;apply eQ;exact rfl;exact .tl (.tl (In.of_mem hbx));exact rfl|apply ai (d:=48);exact rfl;apply aa (j:=j);exact rfl;exact rfl;exact hjn|apply ai (d:=49);exact rfl;apply aq;exact rfl;exact pK;exact hb1|refine zZA ?_|refine sM fun _=>?_|refine sC ?_ ?_<;>intro hb<;>try omega|fail)
    all_goals try omega
    obtain ⟨gj,hcj,hrj⟩:=hM.cell hjn;have ho:=hM.out;refine ay [0,1,2,7,9,10,11] rfl (fun k:Nat=> [(13,.int .i64 (k:Int)),(12,.bool (yU M lt j k))]) (fun _=> .own A9 35 2 t c9 ((bQ (au G) (Q.take t)).flatMap aw):: .own (some gl) 4 1 i i (aH i lt)::F) (fun k=>k≤i) (fun k=>i - k) 0 (Vt _) sB mS ?_;rintro k hk;by_cases hlk:k<i
    ·refine ba (A:=A5) (.tl (.tl (In.of_mem ho))) (by omega) fun ga hA=> ?_;subst hA;have hb2:=bV (f:=lt) hlk;have hb3:=bV (f:=M j) hlk;have hms:=Mz M lt j k;generalize yU M lt j k=pp at hms;generalize lt k=qq at hb2 hms;generalize M j k=rr at hb3 hms;cases pp<;>cases qq;all_goals simp only [Wp,WI,Bool.not_false,WO] at hms
     all_goals (
      repeat' first|apply ai (d:=54);exact rfl;apply eQ;exact rfl;exact .tl (.tl (In.of_mem hbx));exact rfl|apply ai (d:=63);exact rfl;apply aa (j:=k);exact rfl;exact rfl;exact hlk|apply ai (d:=64);exact rfl;apply aq;exact rfl;exact pK;exact hb2|apply ai (d:=68);exact rfl;apply aa (j:=j);exact rfl;exact rfl;exact hjn|apply ai (d:=69);exact rfl;apply aq;exact rfl;exact .tl (.tl (In.of_mem ho));exact hcj|apply ai (d:=71);exact rfl;apply aa (j:=k);exact rfl;exact rfl;exact hlk|apply ai (d:=72);exact rfl;apply aq;exact rfl;exact .tl (.tl (In.of_mem hrj));exact hb3|refine zZA ?_|refine sM fun _=>?_|refine sC ?_ ?_<;>intro hb<;>try omega|fail
      all_goals first
       |omega
       |refine ⟨k+1,hlk,by omega,by (try dsimp only);rw [hms];exact sB,by exact sB,by exact mS⟩;done
       )
    ·have e2:k=i:=by omega
     subst e2;by_cases hjq:j=p
     ·subst hjq;rw [hpm];repeat' (first|apply ai (d:=54);exact rfl;apply eQ;exact rfl;exact .tl (.tl (In.of_mem hbx));exact rfl|refine zZA ?_|refine sM fun _=>?_|refine sC ?_ ?_<;>intro hb<;>try omega|fail)
      all_goals first
       |omega
       |refine ⟨(j+1,(j:Int)),.inr ⟨rfl,rfl⟩,by dsimp only;omega,by exact sB,by exact sB,by exact mS⟩;done
     ·rw [hpj j (by omega)];repeat' (first|apply ai (d:=54);exact rfl;apply eQ;exact rfl;exact .tl (.tl (In.of_mem hbx));exact rfl|refine zZA ?_|refine sM fun _=>?_|refine sC ?_ ?_<;>intro hb<;>try omega|fail)
      all_goals first
       |omega
       |refine ⟨(j+1, -1),.inl ⟨by dsimp only;omega,rfl⟩,by dsimp only;omega,by exact sB,by exact sB,by exact mS⟩;done
   ·refine ba (A:=A) (.tl (.tl (In.of_mem hro))) (by omega) fun gf hA=> ?_;subst hA;repeat' (first|apply ai (d:=37);exact rfl;apply eQ;exact rfl;exact .tl (.tl (In.of_mem hbx));exact rfl|apply ai (d:=80);exact rfl;apply aa (j:=p);exact rfl;exact rfl;exact hpn|apply aW (g:=gl);exact rfl;exact rfl;exact pK;exact rfl;rw [eM];omega;rw [hset]|apply ai (d:=85);exact rfl;apply eQ;exact rfl;(first|exact .tl (.tl (In.of_mem hbx))|exact .tl (In.of_mem hbx));exact rfl|apply ai (d:=87);exact rfl;apply aa (j:=p);exact rfl;exact rfl;exact hpn|apply ai (d:=89);exact rfl;apply aD (ys:=aw a);exact rfl;exact .tl (.tl (In.of_mem hro));exact hcell;exact rfl|apply aG;(iterate 3 exact rfl);exact pK;exact pK;exact rfl;simp [aw,Value.oneCell'];omega;simp only [maxLen];omega;intro g8 c8|refine zZA ?_|refine sM fun _=>?_|refine sC ?_ ?_<;>intro hb<;>try omega|fail)
    all_goals first
     |omega
     | (refine ⟨(t + 1, some g8, c8), htl, by dsimp only; omega, by exact sB, by exact sB, ?_⟩
        dsimp only;rw [hst,VF,WZ];exact mS)
  ·have e2:t=l.length:=by omega
   subst e2;have htq:Q.take l.length=Q:=by rw [← hsl,V1]
   rw [htq];repeat' (first|refine zZA ?_|refine sM fun _=>?_|refine sC ?_ ?_<;>intro hb<;>try omega|fail)
   all_goals first
    |omega
    |exact bp (H' := .own A9 35 2 (bQ (au G) Q).length c9 ((bQ (au G) Q).flatMap aw)::F) eIO rfl rfl (by rw [hnl,hsl];exact mS) ⟨A9,c9,by rw [hnl,hsl],rfl⟩
theorem DD {n:Nat} {As:List Nat} (hA:As.length=n) (M:Nat→Nat→Bool) (A:Option Nat) (c:Nat) (F1 R:List Blk):MatIn (.own A 95 1 n c (As.map (jd n))::(F1++(R++gA n As M 0))) n A c As M:=
 ⟨hA,Vr,fun i hi=>Vv _ (V9 _ (V9 _ (O5 As M hi)))⟩
theorem KU (G:Gr):(fun j=>(aQ G G.length j j||(List.range G.length).any fun a=>aQ G G.length j a && aQ G G.length a a))=ck G:=rfl
def wT (b:Nat→Bool) (i:Nat):Nat→Bool:=fun j=>if j<i then !b j else b j
theorem Mr (b:Nat→Bool) (i n:Nat):aH n (fun j=>if j=i then !b i else wT b i j)=aH n (wT b (i+1)):=aO fun j _=>by
 unfold wT;by_cases e:j=i
 ·subst e;simp
 ·rw [if_neg e];by_cases h:j<i
  ·rw [if_pos h,if_pos (by omega)]
  ·rw [if_neg h,if_neg (by omega)]
theorem RG (b:Nat→Bool) (i:Nat):wT b i i=b i:=by simp [wT]
theorem Mq (b:Nat→Bool) (n:Nat):aH n b=aH n (wT b 0):=aO fun j _=>by simp [wT]
theorem Ms (b:Nat→Bool) (n:Nat):aH n (wT b n)=aH n fun j=> !b j:=aO fun j h=>by simp [wT,h]
theorem FX (g:Nat) (A:Option Nat) (cap:Nat) (L:List En) (G:Gr) (R:List Blk) (w0:World) (hR:RGOk R L G) (hG:GrOk G) (hlen:L.length≤1000):
 FnIn Tryz.prog 11 [.pointer (some ⟨g,0,none⟩)] w0 (rgB g A cap L++R) fun v H=> ∃ A' c',v= .tuple #[sl A' (iq G).length c',.int .i64 0]∧H= .own A' 35 2 (iq G).length c' ((iq G).flatMap aw)::(rgB g A cap L++R):=by
 refine bE Tryz.func11 rfl Tryz.ntmps11 rfl ?_;have hAll:=KZ g A cap L G R w0 hR hG hlen;have hGn:=hR.len;have hst:=fun F hb hr A5 c5 As hM gl=>yf g A cap L G F w0 hlen hb hr hR.keys hGn A5 c5 As hM (frC G) (nu G) gl;have hox:iq G=bQ (au G) (dP G (frC G)):=rfl;rw [hox];have hfl:aH G.length (fun j=> !ck G j)=aH G.length (iT (frC G) []):=aO fun j hj=>(Py hj).symm;have hrg:rgB g A cap L= [.box g 113 [sl A G.length cap],.own A 200 4 G.length cap (L.flatMap cy)]:=by unfold rgB;rw [hGn]
 rw [hrg] at hAll ⊢;rw [hGn] at hAll hlen hst;repeat' (first|apply ak (f:=44);exact rfl;exact rfl;exact hAll;rintro _ _ ⟨A5,c5,As,_,hAl,rfl,rfl⟩|apply ak (f:=45);exact rfl;exact rfl;exact FR G.length hlen A5 c5 As (aQ G G.length) _ (DD hAl _ _ _ _ _) w0;rintro _ _ ⟨gb,rfl,rfl⟩;rw [KU]|refine zZB ?_|refine sM fun _=>?_|refine sC ?_ ?_<;>intro hb<;>try omega|fail)
 all_goals try omega
 have hM:=DD hAl (aQ G G.length) A5 c5 [.box g 113 [sl A G.length cap],.own A 200 4 G.length cap (L.flatMap cy)] R;simp only [ig,Vz,Vp,Vq] at hM ⊢;have hbx:Blk.box g 113 [sl A G.length cap]∈(Blk.own A5 95 1 G.length c5 (As.map (jd G.length))::Blk.box g 113 [sl A G.length cap]::Blk.own A 200 4 G.length cap (L.flatMap cy)::(R++gA G.length As (aQ G G.length) 0)):=by simp
 have hro:Blk.own A 200 4 G.length cap (L.flatMap cy)∈(Blk.own A5 95 1 G.length c5 (As.map (jd G.length))::Blk.box g 113 [sl A G.length cap]::Blk.own A 200 4 G.length cap (L.flatMap cy)::(R++gA G.length As (aQ G G.length) 0)):=by simp
 have hsub:MSub (Blk.box g 113 [sl A G.length cap]::Blk.own A 200 4 G.length cap (L.flatMap cy)::R) (Blk.own A5 95 1 G.length c5 (As.map (jd G.length))::Blk.box g 113 [sl A G.length cap]::Blk.own A 200 4 G.length cap (L.flatMap cy)::(R++gA G.length As (aQ G G.length) 0)):=MSub.pick pK (MSub.pick pK (MSub.drop .hd (MSub.appL _ _)));generalize (Blk.own A5 95 1 G.length c5 (As.map (jd G.length))::Blk.box g 113 [sl A G.length cap]::Blk.own A 200 4 G.length cap (L.flatMap cy)::(R++gA G.length As (aQ G G.length) 0))=F at hM hbx hro hsub ⊢;refine ay [0,4,5] rfl (fun i:Nat=> [(6,.int .i64 (i:Int))]) (fun i=> .own (some gb) 4 1 G.length G.length (aH G.length (wT (ck G) i))::F) (fun i=>i≤G.length) (fun i=>G.length - i) 0 (Vt _) sB (by rw [← Mq];exact mS) ?_;rintro i hi;by_cases hlt:i<G.length
 ·have hb1:=bV (f:=wT (ck G) i) hlt;rw [RG] at hb1;have hset:=fk (n:=G.length) (f:=wT (ck G) i) (k:=i) (v:= !ck G i);rw [Mr] at hset;repeat' (first|apply ai (d:=23);exact rfl;apply aa (j:=i);exact rfl;exact rfl;exact hlt|apply ai (d:=24);exact rfl;apply aq;exact rfl;exact pK;exact hb1|apply ai (d:=26);exact rfl;apply aa (j:=i);exact rfl;exact rfl;exact hlt|apply aW (g:=gb);exact rfl;exact rfl;exact pK;exact rfl;rw [eM];omega;rw [hset]|refine zZA ?_|refine sM fun _=>?_|refine sC ?_ ?_<;>intro hb<;>try omega|fail)
  all_goals first
   |omega
   |refine ⟨i+1,hlt,by omega,by exact sB,by exact sB,by exact mS⟩;done
 ·have e:i=G.length:=by omega
  subst e;rw [Ms,hfl];have hso:=hst F hbx hro A5 c5 As hM gb;repeat' (first|apply ak (f:=46);exact rfl;exact rfl;exact hso;rintro _ _ ⟨A9,c9,rfl,rfl⟩|refine zZA ?_|refine sM fun _=>?_|refine sC ?_ ?_<;>intro hb<;>try omega|fail)
  all_goals first
   |omega
   |exact dm eIO rfl rfl rfl (MSub.pick .hd hsub) ⟨A9,c9,rfl,rfl⟩
theorem RQ {L:List En} {K:List Rf} (hk:L.map En.at_=K) (hn:K.Nodup) {a:Rf} (h:a∈K):AK L a=((iz K a:Nat):Int):=by
 obtain ⟨hi,hg⟩:=pg hn h;have hL: ∀ j (hj:j<L.length),L[j].at_=K[j]'(by rw [← hk,VK];exact hj):=fun j hj=>by subst hk;simp
 have hKL:K.length=L.length:=by rw [← hk,VK]
 have hi' :iz K a<L.length:=by omega
 refine KI hi' (by rw [hL _ hi'];exact hg) fun j hj hlt e=> ?_;rw [hL j hj,← hg] at e;have:=(Yl hn).1 e;omega
theorem Pq {L:List En} {K:List Rf} (hk:L.map En.at_=K) {a:Rf} (h:a∉K):AK L a= -1:=
 KH fun j hj e=>h (by rw [← hk,← e];exact VM.2 ⟨_,VL hj,rfl⟩)
theorem Jf (S:List Nat) (p n:Nat):aH n (fun j=>if j=p then true else fC S j)=aH n (fC (S++ [p])):=aO fun j _=>by
 unfold fC;by_cases e:j=p
 ·subst e;rw [if_pos rfl,decide_eq_true (V9 _ (Vx.2 rfl))]
 ·rw [if_neg e,decide_eq_decide,VH,Vx];exact ⟨.inl,fun h=>h.resolve_right e⟩
theorem FZ (g:Nat) (A:Option Nat) (cap:Nat) (L:List En) (G:Gr) (R:List Blk) (w0:World) (hR:RGOk R L G) (hG:GrOk G) (hlen:L.length≤1000) (Lr:List Rf) (hLr:Lr.length≤1000) (lv:Value) (hrd: ∀ H w,MSub (rgB g A cap L++R) H→Mem w0 w H→Reads w lv Lr.length (Lr.flatMap aw)):
 FnIn Tryz.prog 14 [.pointer (some ⟨g,0,none⟩),lv] w0 (rgB g A cap L++R) fun v H=> ∃ A' c',v= .tuple #[sl A' (lA G Lr).length c',.int .i64 (iA G Lr)]∧H= .own A' 35 2 (lA G Lr).length c' ((lA G Lr).flatMap aw)::(rgB g A cap L++R):=by
 refine bE Tryz.func14 rfl Tryz.ntmps14 rfl ?_;have hAll:=KZ g A cap L G R w0 hR hG hlen;have hGn:=hR.len;have hst:=fun F hb hr A5 c5 As hM l hl gl=>yf g A cap L G F w0 hlen hb hr hR.keys hGn A5 c5 As hM l hl gl;have hIa:=fun a (H' :List Blk) (hs:MSub (rgB g A cap L) H') (w' :World) (hm:Mem w0 w' H')=>ve g _ cap L a w' (RGm.of hs hm) (by omega);have hrg:rgB g A cap L= [.box g 113 [sl A G.length cap],.own A 200 4 G.length cap (L.flatMap cy)]:=by unfold rgB;rw [hGn]
 rw [hrg] at hAll hIa hrd ⊢;rw [hGn] at hAll hlen hst;have hKn:=hG.sort.nodup;have hKl:(au G).length=G.length:=cC G;have hqi:=fun a (h:a∈au G)=>RQ hR.keys hKn h;have hqo:=fun a (h:a∉au G)=>Pq hR.keys h;have haE:iA G Lr=(mA (au G) (ck G) Lr []).2:=rfl;have haR:iA G Lr=0→lA G Lr=bQ (au G) (dP G (fB (mA (au G) (ck G) Lr []).1)):=fun h=>if_pos h;have haN:iA G Lr≠0→lA G Lr= []:=fun h=>if_neg h;refine NI (fun w' hm=>hrd _ w' (MSub.refl _) hm) fun Al cl hlv=> ?_;subst hlv;repeat' (first|apply ak (f:=44);exact rfl;exact rfl;exact hAll;rintro _ _ ⟨A5,c5,As,_,hAl,rfl,rfl⟩;simp only [Vz,Vp,Vq]|apply ak (f:=45);exact rfl;exact rfl;exact FR G.length hlen A5 c5 As (aQ G G.length) _ (DD hAl _ _ _ [_,_] _) w0;rintro _ _ ⟨gb,rfl,rfl⟩;rw [KU];simp only [ig]|apply dK (c:=G.length);(iterate 3 exact rfl);omega;simp only [maxLen];omega;intro gl;(try simp only [jX])|refine zZB ?_|refine sM fun _=>?_|refine sC ?_ ?_<;>intro hb<;>try omega|fail)
 all_goals try omega
 have hM:=DD hAl (aQ G G.length) A5 c5 [.box g 113 [sl A G.length cap],.own A 200 4 G.length cap (L.flatMap cy)] R;simp only [Vz,Vp,Vq] at hM hrd ⊢;have hbx:Blk.box g 113 [sl A G.length cap]∈(Blk.own A5 95 1 G.length c5 (As.map (jd G.length))::Blk.box g 113 [sl A G.length cap]::Blk.own A 200 4 G.length cap (L.flatMap cy)::(R++gA G.length As (aQ G G.length) 0)):=by simp
 have hro:Blk.own A 200 4 G.length cap (L.flatMap cy)∈(Blk.own A5 95 1 G.length c5 (As.map (jd G.length))::Blk.box g 113 [sl A G.length cap]::Blk.own A 200 4 G.length cap (L.flatMap cy)::(R++gA G.length As (aQ G G.length) 0)):=by simp
 have hsub:MSub (Blk.box g 113 [sl A G.length cap]::Blk.own A 200 4 G.length cap (L.flatMap cy)::R) (Blk.own A5 95 1 G.length c5 (As.map (jd G.length))::Blk.box g 113 [sl A G.length cap]::Blk.own A 200 4 G.length cap (L.flatMap cy)::(R++gA G.length As (aQ G G.length) 0)):=MSub.pick pK (MSub.pick pK (MSub.drop .hd (MSub.appL _ _)));generalize (Blk.own A5 95 1 G.length c5 (As.map (jd G.length))::Blk.box g 113 [sl A G.length cap]::Blk.own A 200 4 G.length cap (L.flatMap cy)::(R++gA G.length As (aQ G G.length) 0))=F at hM hbx hro hsub ⊢;have hIb:=fun a (H' :List Blk) (hs:MSub F H') (w' :World) (hm:Mem w0 w' H')=>hIa a H' (MSub.trans (MSub.trans (MSub.pick .hd (MSub.pick .hd (MSub.nil _))) hsub) hs) w' hm;have hrb:=fun (H' :List Blk) (hs:MSub F H') (w' :World) (hm:Mem w0 w' H')=>hrd H' w' (MSub.trans hsub hs) hm;generalize hF1:(Blk.box g 113 [sl A G.length cap]::Blk.own A 200 4 G.length cap (L.flatMap cy)::R)=F1 at hsub ⊢;refine aI 35 2 ?_
 refine ay [0,1,6,7,8] rfl (fun y:Nat × List Nat=> [(9,.int .i64 (y.1:Int))]) (fun y=> .own (some gl) 4 1 G.length G.length (aH G.length (fC y.2)):: .own (some gb) 4 1 G.length G.length (aH G.length (ck G)):: .own none 35 2 0 0 []::F) (fun y=>y.1≤Lr.length∧AmgI G y.2∧mA (au G) (ck G) Lr []=mA (au G) (ck G) (Lr.drop y.1) y.2) (fun y=>Lr.length - y.1) (0,[]) ⟨Vt _,AmgI.nil G,rfl⟩ sB (by
  rw [show aH G.length (fC [])=aH G.length fun _=>false from aO fun v _=>by simp [fC]];exact mS) ?_
 rintro ⟨i,S⟩ ⟨hi,hS,hrec⟩;dsimp only at hi hS hrec ⊢;have hSl:=hS.len;by_cases hlt:i<Lr.length
 ·rw [Vy hlt,mA] at hrec;refine J6 (m:=Lr.length) (fun w' hm=>hrb _ mS w' hm) (by omega) fun gr orr cr hlv=> ?_;cases hlv;have hcl: ∀ (H:List Blk),MSub F H→ ∀ w',Mem w0 w' H→Cells w' gr orr (Lr.flatMap aw):=fun H hs w' hm=>uF (hrb H hs w' hm) (by omega);have hel:((Lr.flatMap aw).drop (i*2)).take 2=aw Lr[i]:=cj bS Lr i hlt;generalize Lr[i]=a at hrec hel;have hV: ∀ w',aF Tryz.prog 53 [.agg (aw a).toArray] w' (.bool a.valid):=fun w' =>kB a.col a.row w';have hI:=hIb a;by_cases hv:a.valid=true
  ·rw [hv] at hV;rw [if_neg (by rw [hv];simp)] at hrec;by_cases hmem:a∈au G
   ·obtain ⟨hpk,_⟩:=pg hKn hmem;rw [if_neg (fun h=>h hmem)] at hrec;rw [hqi a hmem] at hI;generalize iz (au G) a=p at hrec hpk hI;rw [hKl] at hpk;have hb1:=bV (f:=ck G) hpk
    cases hcir:ck G p with
    |true=>
     rw [hcir,if_pos rfl] at hrec;rw [hcir] at hb1;have he3:iA G Lr=13:=by rw [haE,hrec]
     have hn:=haN (by rw [he3];decide);rw [he3,hn];repeat' (first|apply ai (d:=31);exact rfl;apply aa (j:=i);exact rfl;exact rfl;exact hlt|apply ai (d:=32);exact rfl;apply da (off:=i*2);intro w' hm;exact hcl _ mS w' hm;exact rfl;exact hel;exact rfl|apply ag (f:=53);exact rfl;exact rfl;intro w' hm;exact hV w'|apply ai (d:=38);exact rfl;apply aa (j:=i);exact rfl;exact rfl;exact hlt|apply ai (d:=39);exact rfl;apply da (off:=i*2);intro w' hm;exact hcl _ mS w' hm;exact rfl;exact hel;exact rfl|apply ag (f:=54);exact rfl;exact rfl;intro w' hm;exact hI _ mS w' hm|apply ai (d:=47);exact rfl;apply aa (j:=p);exact rfl;exact rfl;exact hpk|apply ai (d:=48);exact rfl;apply aq;exact rfl;exact pK;exact hb1|refine zZA ?_|refine sM fun _=>?_|refine sC ?_ ?_<;>intro hb<;>try omega|fail)
     all_goals first
      |omega
      |exact dm (H' := .own none 35 2 0 0 []::F1) eIO rfl rfl rfl (MSub.pick pK (MSub.trans hsub mS)) ⟨none,0,rfl,rfl⟩
    |false=>
     rw [hcir,if_neg (by simp)] at hrec;rw [hcir] at hb1;have hb2:=bV (f:=fC S) hpk;by_cases hpS:p∈S
     ·rw [if_pos hpS] at hrec;rw [show fC S p=true from decide_eq_true hpS] at hb2;have he3:iA G Lr=8:=by rw [haE,hrec]
      have hn:=haN (by rw [he3];decide);rw [he3,hn];repeat' (first|apply ai (d:=31);exact rfl;apply aa (j:=i);exact rfl;exact rfl;exact hlt|apply ai (d:=32);exact rfl;apply da (off:=i*2);intro w' hm;exact hcl _ mS w' hm;exact rfl;exact hel;exact rfl|apply ag (f:=53);exact rfl;exact rfl;intro w' hm;exact hV w'|apply ai (d:=38);exact rfl;apply aa (j:=i);exact rfl;exact rfl;exact hlt|apply ai (d:=39);exact rfl;apply da (off:=i*2);intro w' hm;exact hcl _ mS w' hm;exact rfl;exact hel;exact rfl|apply ag (f:=54);exact rfl;exact rfl;intro w' hm;exact hI _ mS w' hm|apply ai (d:=47);exact rfl;apply aa (j:=p);exact rfl;exact rfl;exact hpk|apply ai (d:=48);exact rfl;apply aq;exact rfl;exact pK;exact hb1|apply ai (d:=52);exact rfl;apply aa (j:=p);exact rfl;exact rfl;exact hpk|apply ai (d:=53);exact rfl;apply aq;exact rfl;exact pK;exact hb2|refine zZA ?_|refine sM fun _=>?_|refine sC ?_ ?_<;>intro hb<;>try omega|fail)
      all_goals first
       |omega
       |exact dm (H' := .own none 35 2 0 0 []::F1) eIO rfl rfl rfl (MSub.pick pK (MSub.trans hsub mS)) ⟨none,0,rfl,rfl⟩
     ·rw [if_neg hpS] at hrec;rw [show fC S p=false from decide_eq_false hpS] at hb2;have hS2:=hS.snoc hpk hcir hpS;have hset:=fk (n:=G.length) (f:=fC S) (k:=p) (v:=true);rw [Jf] at hset;repeat' (first|apply ai (d:=31);exact rfl;apply aa (j:=i);exact rfl;exact rfl;exact hlt|apply ai (d:=32);exact rfl;apply da (off:=i*2);intro w' hm;exact hcl _ mS w' hm;exact rfl;exact hel;exact rfl|apply ag (f:=53);exact rfl;exact rfl;intro w' hm;exact hV w'|apply ai (d:=38);exact rfl;apply aa (j:=i);exact rfl;exact rfl;exact hlt|apply ai (d:=39);exact rfl;apply da (off:=i*2);intro w' hm;exact hcl _ mS w' hm;exact rfl;exact hel;exact rfl|apply ag (f:=54);exact rfl;exact rfl;intro w' hm;exact hI _ mS w' hm|apply ai (d:=47);exact rfl;apply aa (j:=p);exact rfl;exact rfl;exact hpk|apply ai (d:=48);exact rfl;apply aq;exact rfl;exact pK;exact hb1|apply ai (d:=52);exact rfl;apply aa (j:=p);exact rfl;exact rfl;exact hpk|apply ai (d:=53);exact rfl;apply aq;exact rfl;exact pK;exact hb2|apply ai (d:=56);exact rfl;apply aa (j:=p);exact rfl;exact rfl;exact hpk|apply aW (g:=gl);exact rfl;exact rfl;exact pK;exact rfl;rw [eM];omega;rw [hset]|refine zZA ?_|refine sM fun _=>?_|refine sC ?_ ?_<;>intro hb<;>try omega|fail)
      all_goals first
       |omega
       |refine ⟨(i+1,S++ [p]),⟨hlt,hS2,hrec⟩,by dsimp only;omega,by exact sB,by exact sB,by exact mS⟩;done
   ·rw [if_pos hmem] at hrec;rw [hqo a hmem] at hI;have he3:iA G Lr=6:=by rw [haE,hrec]
    have hn:=haN (by rw [he3];decide);rw [he3,hn];repeat' (first|apply ai (d:=31);exact rfl;apply aa (j:=i);exact rfl;exact rfl;exact hlt|apply ai (d:=32);exact rfl;apply da (off:=i*2);intro w' hm;exact hcl _ mS w' hm;exact rfl;exact hel;exact rfl|apply ag (f:=53);exact rfl;exact rfl;intro w' hm;exact hV w'|apply ai (d:=38);exact rfl;apply aa (j:=i);exact rfl;exact rfl;exact hlt|apply ai (d:=39);exact rfl;apply da (off:=i*2);intro w' hm;exact hcl _ mS w' hm;exact rfl;exact hel;exact rfl|apply ag (f:=54);exact rfl;exact rfl;intro w' hm;exact hI _ mS w' hm|refine zZA ?_|refine sM fun _=>?_|refine sC ?_ ?_<;>intro hb<;>try omega|fail)
    all_goals first
     |omega
     |exact dm (H' := .own none 35 2 0 0 []::F1) eIO rfl rfl rfl (MSub.pick pK (MSub.trans hsub mS)) ⟨none,0,rfl,rfl⟩
  ·have hvf:a.valid=false:=by simpa using hv
   rw [hvf] at hV;rw [if_pos hvf] at hrec;have he3:iA G Lr=3:=by rw [haE,hrec]
   have hn:=haN (by rw [he3];decide);rw [he3,hn];repeat' (first|apply ai (d:=31);exact rfl;apply aa (j:=i);exact rfl;exact rfl;exact hlt|apply ai (d:=32);exact rfl;apply da (off:=i*2);intro w' hm;exact hcl _ mS w' hm;exact rfl;exact hel;exact rfl|apply ag (f:=53);exact rfl;exact rfl;intro w' hm;exact hV w'|refine zZA ?_|refine sM fun _=>?_|refine sC ?_ ?_<;>intro hb<;>try omega|fail)
   all_goals first
    |omega
    |exact dm (H' := .own none 35 2 0 0 []::F1) eIO rfl rfl rfl (MSub.pick pK (MSub.trans hsub mS)) ⟨none,0,rfl,rfl⟩
 ·have hi2:i=Lr.length:=by omega
  subst hi2;rw [V8,mA] at hrec;have he0:iA G Lr=0:=by rw [haE,hrec]
  have hR0:=haR he0;rw [hrec] at hR0;dsimp only at hR0;rw [he0,hR0];have hlm:aH G.length (fC S)=aH G.length (iT (fB S) []):=aO fun j _=>by
   rw [vv];unfold fC;rw [decide_eq_decide];exact (dZ S).mem_iff.symm
  rw [hlm];have hso:=hst F hbx hro A5 c5 As hM (fB S) hS.ok gl;repeat' (first|apply ak (f:=46);exact rfl;exact rfl;exact FnIn.msub hso mS;rintro _ _ ⟨A9,c9,rfl,rfl⟩|refine zZA ?_|refine sM fun _=>?_|refine sC ?_ ?_<;>intro hb<;>try omega|fail)
  all_goals first
   |omega
   |exact dm eIO rfl rfl rfl (MSub.pick .hd hsub) ⟨A9,c9,rfl,rfl⟩
theorem Gp.rorder26 (x:Gp) {G:Gr} (h:x.ok G) {H:List Blk} (hs:MSub x.H H) (w0:World) (hl:G.length≤900):
 FnIn Tryz.prog 11 [x.pb] w0 H fun v H' => ∃ A cap,v= .tuple #[sl A (iq G).length cap,.int .i64 0]∧H' = .own A 35 2 (iq G).length cap ((iq G).flatMap aw)::H:=by
 refine nk (B:=rgB x.gr x.A x.cap x.Q++x.R) (φ:=fun v A cap=>v= .tuple #[sl A (iq G).length cap,.int .i64 0]) (fun F=> ?_) (MSub.trans x.subB hs);have h1:=FX x.gr x.A x.cap x.Q G (x.R++F) w0 (h.b.sub (MSub.appL x.R F)) h.g (by rw [h.b.len];omega);rw [VC];exact h1
theorem Gp.ramong26 (x:Gp) {G:Gr} (h:x.ok G) {H:List Blk} (hs:MSub x.H H) (w0:World) (hl:G.length≤900) (Lr:List Rf) (hLr:Lr.length≤1000) (lv:Value) (hrd: ∀ H' w,MSub H H' →Mem w0 w H' →Reads w lv Lr.length (Lr.flatMap aw)):
 FnIn Tryz.prog 14 [x.pb,lv] w0 H fun v H' => ∃ A cap,v= .tuple #[sl A (lA G Lr).length cap,.int .i64 (iA G Lr)]∧H' = .own A 35 2 (lA G Lr).length cap ((lA G Lr).flatMap aw)::H:=by
 obtain ⟨F,hp⟩:=MSub.trans x.subB hs;have h1:=FZ x.gr x.A x.cap x.Q G (x.R++F) w0 (h.b.sub (MSub.appL x.R F)) h.g (by rw [h.b.len];omega) Lr hLr lv (fun H' w hs' hm=>hrd H' w (MSub.trans (MSub.of_perm (by rw [← VC];exact hp.symm)) hs') hm);rw [← VC] at h1;refine (h1.msub (MSub.of_perm hp)).re ?_;rintro v H' ⟨A,cap,hv,rfl⟩;exact ⟨_,MSub.of_perm (hp.symm.cons _),A,cap,hv,rfl⟩
end Go.SL
