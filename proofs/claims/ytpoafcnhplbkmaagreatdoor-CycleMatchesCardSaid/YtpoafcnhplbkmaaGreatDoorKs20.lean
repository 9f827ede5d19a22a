/-
  Lemmas and walks, put together: Cj Q10 D12 Ex L3 Sl29 Rq Ro Ri Rf Za.
-/
import Derived.Test.YtpoafcnhplbkmaaGreatDoorKs16
import Derived.Test.YtpoafcnhplbkmaaGreatDoorKs17
set_option linter.unusedSimpArgs false
set_option linter.unusedVariables false
set_option maxRecDepth 20000
set_option maxHeartbeats 16000000
namespace Go.SL
open Go
def iA (K:List Rf) (a:Rf):Nat:=(K.findIdx? fun b=>decide (b=a)).getD 0
theorem Hs {K:List Rf} (hn:K.Nodup) {i:Nat} (h:i<K.length):iA K K[i]=i:=by
 unfold iA
 rw [RU.2 ⟨h,by simp,fun j hj=>by
  have hne:K[j]'(by omega)≠K[i]:=fun e=>by
   have:=(UG hn).1 e;omega
  simpa using hne⟩]
 rfl
def fY (K:List Rf) (E:List (Rf × Rf)) (i:Nat):List Nat:=(E.filter fun x=>decide (iA K x.1=i)).map fun x=>iA K x.2
theorem FN (K:List Rf) (E:List (Rf × Rf)) (x:Rf × Rf) (i:Nat):fY K (E++ [x]) i=if iA K x.1=i then fY K E i++ [iA K x.2] else fY K E i:=by
 unfold fY;rw [TL,Sh];by_cases h:iA K x.1=i
 ·rw [if_pos h];simp [h]
 ·rw [if_neg h];simp [h]
theorem AP {α:Type} (L:List α) (p:α→Bool) (d:α):L.filter p=((List.range L.length).filter fun k=>p ((L[k]?).getD d)).map fun k=>(L[k]?).getD d:=by
 have h:L=(List.range L.length).map fun k=>(L[k]?).getD d:=by
  apply List.ext_getElem
  ·simp
  ·intro i h1 h2;simp [h1]
 conv=>lhs;rw [h]
 rw [Ut]
 rfl
theorem DL {α β:Type} {L:List α} {f:α→List β} {p:β→Bool}:(L.flatMap f).filter p=L.flatMap fun a=>(f a).filter p:=by
 induction L with
 |nil=>rfl
 |cons a l ih=>rw [Rl,Rl,TL,ih]
theorem DG {α β:Type}: ∀ {L:List α} {f:α→List β} {i:Nat} (h:i<L.length),(∀ j (hj:j<L.length),j≠i→f L[j]= [])→L.flatMap f=f L[i]
 | [],_,_,h,_=>absurd h (TF _)
 |a::l,f,0,_,hf=>by
  have:l.flatMap f= []:=by
   rw [List.flatMap_eq_nil_iff];intro x hx;obtain ⟨j,hj,rfl⟩:=SM.1 hx;exact hf (j+1) (by simpa using hj) (by omega)
  rw [Rl,this,Rc];rfl
 |a::l,f,i+1,h,hf=>by
  have h0:f a= []:=hf 0 (by simp) (by omega);have hi:i<l.length:=by simpa using h
  rw [Rl,h0,QW];exact DG hi fun j hj hne=>hf (j+1) (by simpa using hj) (by omega)
theorem Dj {G:Gr} (hG:GrOk G) {i:Nat} (hi:i<G.length):fY (aA G) (bW G) i=au (aM G) i:=by
 have hn:=hG.sort.nodup;have hkl:(aA G).length=G.length:=by rw [aA,RA]
 have hk: ∀ j (h:j<G.length),(aA G)[j]'(by omega)=(G[j]).1:=fun j h=>by simp [aA]
 have hidx: ∀ j (h:j<G.length),iA (aA G) (G[j]).1=j:=fun j h=>by rw [← hk j h];exact Hs hn (by omega)
 unfold fY bW;rw [DL,DG (i:=i) hi fun j hj hne=> ?_]
 ·have h1:(((G.filter fun f=>gJ (G[i]).2.2 f.1).map fun f=>((G[i]).1,f.1)).filter fun x=>decide (iA (aA G) x.1=i))=(G.filter fun f=>gJ (G[i]).2.2 f.1).map fun f=>((G[i]).1,f.1):=by
   rw [List.filter_eq_self];intro x hx;obtain ⟨f,_,rfl⟩:=RG.1 hx;exact decide_eq_true (hidx i hi)
  rw [h1,SZ];have hr:=AP G (fun f=>gJ (G[i]).2.2 f.1) (G[i]);rw [hr,SZ];have hs:au (aM G) i=(List.range G.length).filter fun k=>kF G i k:=by simp [au,aM,hi]
  rw [hs];have hp:((List.range G.length).filter fun k=>gJ (G[i]).2.2 ((G[k]?).getD (G[i])).1)=(List.range G.length).filter fun k=>kF G i k:=by
   apply US;intro k hk';have hkl' :k<G.length:=RH.1 hk';rw [QU hkl',TJ];have hu:dF G (G[i]).1=(G[i]).2.2:=by
    unfold dF;rw [(kQ hG.sort).2 (show ((G[i]).1,(G[i]).2)∈G from RL hi)];rfl
   have ht:kF G i k=dW (dF G (G[i]).1) (kN (G[k]).1.col (G[k]).1.row):=by
    unfold kF;rw [QU (by omega),QU (by omega),hk i hi,hk k hkl']
   rw [ht,hu];exact rk (hG.ent _ (RL hi)).rect (Jq hG (RG.2 ⟨_,RL hkl',rfl⟩))
  rw [hp];conv=>rhs;rw [← List.map_id ((List.range G.length).filter fun k=>kF G i k)]
  apply Sx;intro k hk';have hkl' :k<G.length:=RH.1 (ST.1 hk').1;simp only [Function.comp,QU hkl',TJ,id];exact hidx k hkl'
 ·rw [List.filter_eq_nil_iff];intro x hx;obtain ⟨f,_,rfl⟩:=RG.1 hx;simp only [decide_eq_true_eq];rw [hidx j hj];exact hne
end Go.SL
namespace Go.SL
open Go Go.Proofs
attribute [local irreducible] W WL WQ WG WA WX WLI WR WT WC VOp RW thn blk bH scp aV bz bP FnAt FnIn FnP ceP
def cz (e:En):List Value:= [.int .i64 e.at_.col,.int .i64 e.at_.row,e.tv,e.uv]
theorem xu (e:En):(cz e).length=4:=rfl
def rgB (g:Nat) (A:Option Nat) (cap:Nat) (L:List En):List Blk:= [.box g 126 [sl A L.length cap],.own A 172 4 L.length cap (L.flatMap cz)]
structure RGOk (R:List Blk) (L:List En) (G:Gr):Prop where
 en: ∀ e∈L,EnOk R e
 rel:L.map En.abs=G
theorem RGOk.sub {R R' :List Blk} {L:List En} {G:Gr} (h:RGOk R L G) (hs:MSub R R'):RGOk R' L G:=⟨fun e he=>(h.en e he).sub hs,h.rel⟩
theorem RGOk.len {R:List Blk} {L:List En} {G:Gr} (h:RGOk R L G):L.length=G.length:=by rw [← h.rel,RA]
def DB (L:List En) (a:Rf):Int:=match L.findIdx? (fun e=>decide (e.at_=a)) with|some i=>(i:Int)|none=> -1
theorem NH {L:List En} {a:Rf} {i:Nat} (h:i<L.length) (ha:L[i].at_=a) (hno: ∀ j (h:j<L.length),j<i→L[j].at_≠a):DB L a=(i:Int):=by
 unfold DB;rw [RU.2 ⟨h,by simpa using ha,fun j hj=>by simpa using hno j (by omega) hj⟩]
theorem NG {L:List En} {a:Rf} (hno: ∀ j (h:j<L.length),L[j].at_≠a):DB L a= -1:=by
 unfold DB;rw [Sy.2];intro e he;obtain ⟨j,hj,rfl⟩:=Tb he;simpa using hno j hj
structure RGm (w:World) (g:Nat) (Al:Option Addr) (cl:Nat) (L:List En):Prop where
 box:Ro w g 0 [.slice Al L.length cl]
 row:0<L.length→ ∃ gl ol,Al=some ⟨gl,ol,none⟩∧Ro w gl ol (L.flatMap cz)
theorem RGm.of {g:Nat} {A:Option Nat} {cap:Nat} {L:List En} {H:List Blk} {w0 w:World} (hH:MSub (rgB g A cap L) H) (hm:Mem w0 w H):RGm w g (A.map fun g=>⟨g,0,none⟩) cap L:=by
 have hm' :=hH.use hm;refine ⟨Ro.of_box hm' .hd,fun hpos=> ?_⟩;obtain ⟨Al,cl,hv,_,_,hl3⟩:=Reads.of_own hm' (.tl .hd);unfold sl at hv;injection hv with hv1 hv2 hv3;rw [hv1];exact hl3 hpos
theorem yT (g:Nat) (Al:Option Addr) (cl:Nat) (L:List En) (a:Rf) (w:World) (hr:RGm w g Al cl L) (hlen:L.length≤1000000):
 aC Tryz.prog 66 [.pointer (some ⟨g,0,none⟩),dm a] w (.int .i64 (DB L a)):=by
 obtain ⟨hr,hl3⟩:=hr;refine ay Tryz.func66 rfl Tryz.ntmps66 rfl ?_;repeat' (first|refine zZB ?_|refine sM fun _=>?_|(refine sC ?_ ?_<;>intro hb<;>try omega)|fail)
 rename_i g3;refine aw [0,3] rfl (fun i:Nat=> [(5,.int .i64 (i:Int))]) (fun _=> [.box g3 28 (aB a)]) (fun i=>i≤L.length∧ ∀ j (h:j<L.length),j<i→L[j].at_≠a) (fun i=>L.length - i) 0 ⟨by omega,fun j _ h=>by omega⟩ sB mS ?_;rintro i ⟨hi,hno⟩;by_cases hlt:i<L.length
 ·obtain ⟨gl,ol,rfl,hrl⟩:=hl3 (by omega);have he:=hrl.elem xu i hlt
  have hno1 := fun (h : L[i].at_ ≠ a) (j : Nat) (hj : j < L.length) (hji : j < i + 1) => (show L[j].at_ ≠ a from by
   rcases (by omega:j<i∨j=i) with h1|rfl
   ·exact hno j hj h1
   ·exact h)
  have hat:=fun h=>NH hlt h hno;generalize L[i]=e at he hno1 hat;obtain ⟨c,hc⟩: ∃ c,decide (e.at_=a)=c:=⟨_,rfl⟩;repeat' (first|(apply ai (d:=10);exact rfl;apply aN (o:=0) (off:=0);exact hr;exact rfl;exact rfl)|(apply aZ (d:=18);exact rfl;apply aN (o:=0) (off:=0);exact hr;exact rfl;exact rfl)|(apply aZ (d:=20);exact rfl;apply ag (j:=i);exact rfl;exact rfl;exact hlt)|(apply aZ (d:=22);exact rfl;apply cD (off:=0) (ys:=aB e.at_) he;(iterate 3 exact rfl))|(apply aZ (d:=24);exact rfl;apply Ib;exact hc;exact rfl;exact rfl)|refine zZH ?_|refine sM fun _=>?_|(refine sC ?_ ?_<;>intro hb<;>try omega)|(refine sCQ ?_ ?_<;>intro hb<;>try omega)|fail)
  all_goals try (exfalso;omega)
  ·refine bJ eIO rfl rfl (.nil _) ?_;rw [hat (by simp_all)]
  ·refine ⟨i+1,?_,(by first|omega|(dsimp only;omega)),sB,sB,mS⟩;exact ⟨hlt,hno1 (by simp_all)⟩
 ·have e2:i=L.length:=by omega
  subst e2;repeat' (first|(apply ai (d:=10);exact rfl;apply aN (o:=0) (off:=0);exact hr;exact rfl;exact rfl)|refine zZA ?_|refine sM fun _=>?_|(refine sC ?_ ?_<;>intro hb<;>try omega)|fail)
  all_goals first
   |(exfalso;omega)
   | (refine bJ eIO rfl rfl (.nil _) ?_
      rw [NG fun j hj=>hno j hj hj])
theorem tI (e:En) (r:Rct) (w:World) (ht:Reads w e.uv e.uses.length (e.uses.flatMap cP)) (hlen:e.uses.length≤1000000):
 aC Tryz.prog 99 [.agg (cz e).toArray,.agg (jp r).toArray] w (.bool (dW e.uses r)):=by
 obtain ⟨Al,cl,hv,hl1,hl2,hl3⟩:=ht;refine ay Tryz.func99 rfl Tryz.ntmps99 rfl ?_;have he:cz e= [.int .i64 e.at_.col,.int .i64 e.at_.row,e.tv,.slice Al e.uses.length cl]:=by rw [← hv];rfl
 rw [he];generalize e.tv=tv;generalize e.uses=L at hl1 hl3 hlen;repeat' (first|refine zZB ?_|refine sM fun _=>?_|(refine sC ?_ ?_<;>intro hb<;>try omega)|fail)
 rename_i g2 g3;refine aw [2,3] rfl (fun i:Nat=> [(5,.int .i64 (i:Int))]) (fun _=> [.box g3 61 (jp r),.box g2 172 [.int .i64 e.at_.col,.int .i64 e.at_.row,tv,.slice Al L.length cl]]) (fun i=>i≤L.length∧dW L r=dW (L.drop i) r) (fun i=>L.length - i) 0 ⟨by omega,rfl⟩ sB mS ?_;rintro i ⟨hi,hrec⟩;by_cases hlt:i<L.length
 ·obtain ⟨gl,ol,rfl,hrl⟩:=hl3 (by omega);have hu:=hrl.elem kW i hlt;rw [Rn hlt] at hrec;unfold dW at hrec;rw [List.any_cons] at hrec;unfold dW;generalize L[i]=u at hu hrec;have hM:=fun w=>Fm u.rect r w;unfold vH at hrec;generalize y4 u.rect r=mr at hM hrec;obtain ⟨m1,m2⟩:=mr;dsimp only at hM;repeat' (first|refine zZA ?_|refine sM fun _=>?_|(refine sC ?_ ?_<;>intro hb<;>try omega)|fail)
  all_goals try (exfalso;omega)
  refine aI 0 0 ?_
  refine vk (id:=4) (fun|11=>some fun g=> .pointer (some ⟨g.2,0,none⟩)|_=>none)
   (fun (D:f9) (q:Nat→Gh)=>(bif D 11 then Blk.box (q 11).2 61 (bif D 12 then jp m1 else [.int .i64 0,.int .i64 0,.int .i64 0,.int .i64 0]) else Pz):: .box g3 61 (jp r):: .box g2 172 [.int .i64 e.at_.col,.int .i64 e.at_.row,tv,.slice (some ⟨gl,ol,none⟩) L.length cl]:: []) ?_ ?_ ?_ ?_
  ·kernel_rfl
  ·kernel_rfl
  ·intro γ;exact mS
  intro γ;repeat' (first|(apply zF (d:=19);(iterate 3 exact rfl);(intro D ht;apply ag (j:=i);exact rfl;exact rfl;exact hlt);exact fun _=>rfl)|(apply zF (d:=21);(iterate 3 exact rfl);(intro D ht;apply cD (off:=0) (ys:=jp u.rect) hu;(iterate 3 exact rfl));exact fun _=>rfl)|(apply uV (f:=159);(iterate 3 exact rfl);(decide+kernel);exact rfl;(intro D ht w hm;exact hM w);exact fun _=>rfl)|refine zZL ?_|refine sM fun _=>?_|(refine sC ?_ ?_<;>intro hb<;>try omega)|(refine sCX ?_ ?_<;>intro hb<;>try omega)|fail)
  refine uU rfl rfl rfl (fun D ht=> ?_) ?_
  ·have n10:D 11=false:=ht.not;have n11:D 12=false:=ht.late (j:=12) (f:=60) (by decide+kernel);(simp only [gat,put,upd,Nat.reduceEqDiff,Nat.reduceAdd,reduceIte,n10,n11,cond_true,cond_false,QW,QV,SD,SQ,Ss,SG]);(with_reducible apply BB);exact rfl;intro g;refine pV ⟨rfl,(none,g),rfl,?_⟩;(simp only [gat,put,upd,Nat.reduceEqDiff,Nat.reduceAdd,reduceIte,n10,n11,cond_true,cond_false,QW,QV,SD,SQ,Ss,SG]);exact mS
  refine OI (T:=61) (vs:=jp m1) rfl rfl rfl rfl rfl rfl rfl (fun D ht=> ?_) ?_
  ·have n11:D 12=false:=ht.not;have n10:D 11=true:=ht.early (i:=11) (f:=60) (by decide+kernel);(simp only [gat,put,upd,Nat.reduceEqDiff,Nat.reduceAdd,reduceIte,n10,n11,cond_true,cond_false,QW,QV,SD,SQ,Ss,SG]);refine ⟨_,_,.hd,?_,?_⟩
   ·exact UY rfl
   ·exact mS
  repeat' (first|refine zZL ?_|refine sM fun _=>?_|(refine sC ?_ ?_<;>intro hb<;>try omega)|(refine sCX ?_ ?_<;>intro hb<;>try omega)|fail)
  intro D hD;have n10:=hD 11 (by decide);have n11:=hD 12 (by decide);(simp only [gat,put,upd,Nat.reduceEqDiff,Nat.reduceAdd,reduceIte,n10,n11,cond_true,cond_false,QW,QV,SD,SQ,Ss,SG]);cases m2
  ·repeat' (first|refine zZA ?_|refine sM fun _=>?_|(refine sC ?_ ?_<;>intro hb<;>try omega)|fail)
   refine ⟨i+1,⟨hlt,hrec⟩,by omega,?_,?_,?_⟩
   ·exact sB
   ·exact sB
   ·exact mS
  ·repeat' (first|refine zZA ?_|refine sM fun _=>?_|(refine sC ?_ ?_<;>intro hb<;>try omega)|fail)
   refine bJ eIO rfl rfl (.nil _) ?_;rw [show L.any (vH r)=true from hrec]
 ·have e2:i=L.length:=by omega
  subst e2;rw [Sn] at hrec;rw [hrec];repeat' (first|refine zZA ?_|refine sM fun _=>?_|(refine sC ?_ ?_<;>intro hb<;>try omega)|fail)
  all_goals first
   |(exfalso;omega)
   |exact bJ eIO rfl rfl (.nil _) rfl
structure Et where
 at_:Rf
 input:ByteArray
def pP (e:Et):List Value:= [.int .i64 e.at_.col,.int .i64 e.at_.row,.string e.input]
theorem kz (e:Et):(pP e).length=3:=rfl
def kg (b:Option Rf) (e:Et):Int:=if e.at_.valid=false then 3 else if (match b with|some p=>bo p e.at_|none=>true)=false then 12 else if e.input=ax then 2 else (ofP e.input).2.2
def fF:Nat→Option Rf→List Et→Int × Int
 |_,_,[]=>(0,0)
 |i,b,e::r=>if kg b e≠0 then ((i:Int),kg b e) else fF (i+1) (some e.at_) r
def ik (L:List Et):Int × Int:=fF 0 none L
def jI (L:List Et) (i:Nat):Option Rf:=if i=0 then none else (L[i - 1]?).map Et.at_
theorem yd (L:List Et) (tv:Value) (w:World) (ht:Reads w tv L.length (L.flatMap pP)) (hlen:L.length≤1000000) (hW:Words w):
 aC Tryz.prog 43 [tv] w (.tuple #[.int .i64 (ik L).1,.int .i64 (ik L).2]):=by
 obtain ⟨Al,cl,rfl,hl1,hl2,hl3⟩:=ht;refine ay Tryz.func43 rfl Tryz.ntmps43 rfl ?_;repeat' (first|refine zZB ?_|refine sM fun _=>?_|(refine sC ?_ ?_<;>intro hb<;>try omega)|fail)
 refine aw [0,2,3,9,10] rfl (fun i:Nat=> [(11,.int .i64 (i:Int))]) (fun _=> []) (fun i=>i≤L.length∧ik L=fF i (jI L i) (L.drop i)) (fun i=>L.length - i) 0 ⟨by omega,rfl⟩ sB (.refl _) ?_;rintro i ⟨hi,hck⟩;by_cases hlt:i<L.length
 ·obtain ⟨gl,ol,rfl,hrl⟩:=hl3 (by omega);have he:=hrl.elem kz i hlt;have hprev: ∀ h:0<i,Ro w gl (ol+(i - 1)*3) (pP L[i - 1]):=fun h=>hrl.elem kz (i - 1) (by omega);have hbef: ∀ h:0<i,jI L i=some L[i - 1].at_:=fun h=>by unfold jI;rw [if_neg (by omega),QU (by omega)];rfl
  have hbef0:i=0→jI L i=none:=fun h=>by unfold jI;rw [if_pos h]
  have hnext:jI L (i+1)=some L[i].at_:=by unfold jI;rw [if_neg (by omega),TZ,QU hlt];rfl
  rw [Rn hlt,fF,← hnext] at hck;generalize L[i]=e at he hck;have hV: ∀ w',aC Tryz.prog 44 [.agg (aB e.at_).toArray] w' (.bool e.at_.valid):=fun w' =>nO e.at_.col e.at_.row w';have hO:=fun (w' :World) (H' :List Blk) (hm:Mem w w' H')=>OG e.input w' (hW.next hm);by_cases h0:0<i
  ·have hp:=hprev h0;rw [hbef h0] at hck;generalize L[i - 1]=b at hp hck;have hL:=fun w' =>Oo b.at_ e.at_ w';unfold kg at hck;simp only at hck;have hofV: ∀ (A:Option Nat) (cap:Nat),ofV A cap (ofP e.input)= .tuple #[.agg (AY (ofP e.input).1 (sl A (ofP e.input).1.tree.length cap)).toArray,.int .i64 (ofP e.input).2.1,.int .i64 (ofP e.input).2.2]:=fun _ _=>rfl;simp only [hofV] at hO;generalize ofP e.input=o at hO hck;obtain ⟨⟨f1,f2,f3⟩,oa,oe⟩:=o;simp only [AY] at hO;simp only at hck;generalize e.at_.valid=vd at hV hck;generalize bo b.at_ e.at_=ls at hL hck;repeat' (first|(apply ai (d:=14);exact rfl;apply ag;exact rfl;exact rfl;exact hlt)|(apply ai (d:=15);exact rfl;apply bO;exact rfl;exact he;exact rfl)|(apply fq (d:=29);(iterate 3 exact rfl);apply cD (o:=ol+(i - 1)*3) (off:=0) hp (ys:=aB b.at_);(iterate 3 exact rfl))|(apply aa;exact rfl;exact rfl;(intro w hm;exact hV w))|(apply (lZ (id:=6) [11] []);kernel_rfl;kernel_rfl;kernel_rfl)|(apply fq;(iterate 3 exact rfl);apply ag (j:=i - 1);exact rfl;exact rfl;omega)|(apply aa (f:=87);exact rfl;exact rfl;(intro w' hm;exact hL w'))|(apply aK (f:=45);exact rfl;exact rfl;(intro w' hm;exact hO w' _ hm);rintro _ _ ⟨A,cap,rfl,rfl⟩)|refine zZK ?_|refine sM fun _=>?_|(refine sC ?_ ?_<;>intro hb<;>try omega)|(refine sCW ?_ ?_<;>intro hb<;>try omega)|fail)
   all_goals clear hofV
   all_goals first
    |(refine dB eIO rfl rfl rfl (.nil _) ?_;rw [hck];simp_all [ax];done)
    | (refine ⟨i + 1, ⟨hlt, ?_⟩, by omega, ?_, ?_, .nil _⟩
       ·rw [hck];simp_all [ax]
       ·exact sB
       ·exact sB)
  ·have h00:i=0:=by omega
   rw [hbef0 h00] at hck;unfold kg at hck;simp only at hck;have hofV: ∀ (A:Option Nat) (cap:Nat),ofV A cap (ofP e.input)= .tuple #[.agg (AY (ofP e.input).1 (sl A (ofP e.input).1.tree.length cap)).toArray,.int .i64 (ofP e.input).2.1,.int .i64 (ofP e.input).2.2]:=fun _ _=>rfl;simp only [hofV] at hO;generalize ofP e.input=o at hO hck;obtain ⟨⟨f1,f2,f3⟩,oa,oe⟩:=o;simp only [AY] at hO;simp only at hck;generalize e.at_.valid=vd at hV hck;repeat' (first|(apply ai (d:=14);exact rfl;apply ag;exact rfl;exact rfl;exact hlt)|(apply ai (d:=15);exact rfl;apply bO;exact rfl;exact he;exact rfl)|(apply aa;exact rfl;exact rfl;(intro w hm;exact hV w))|(apply (lZ (id:=6) [11] []);kernel_rfl;kernel_rfl;kernel_rfl)|(apply aK (f:=45);exact rfl;exact rfl;(intro w' hm;exact hO w' _ hm);rintro _ _ ⟨A,cap,rfl,rfl⟩)|refine zZK ?_|refine sM fun _=>?_|(refine sC ?_ ?_<;>intro hb<;>try omega)|(refine sCW ?_ ?_<;>intro hb<;>try omega)|fail)
   all_goals clear hofV
   all_goals first
    |(refine dB eIO rfl rfl rfl (.nil _) ?_;rw [hck];simp_all [ax];done)
    | (refine ⟨i + 1, ⟨hlt, ?_⟩, by omega, ?_, ?_, .nil _⟩
       ·rw [hck];simp_all [ax]
       ·exact sB
       ·exact sB)
 ·have e2:i=L.length:=by omega
  subst e2;rw [Sn,fF] at hck;repeat' (first|refine zZB ?_|refine sM fun _=>?_|(refine sC ?_ ?_<;>intro hb<;>try omega)|fail)
  all_goals (refine dB eIO rfl rfl rfl (.nil _) ?_;rw [hck])
def yc:Gr→List Et→Option Gr × Int
 |G,[]=>(some G,0)
 |G,e::r=>if (fN G e.at_ e.input).2≠0 then (none,(fN G e.at_ e.input).2) else yc (fN G e.at_ e.input).1 r
def Dk (L:List Et):Option Gr × Int:=if (ik L).2≠0 then (none,(ik L).2) else yc [] L
def QS (r:Option Gr × Int) (v:Value) (H:List Blk):Prop:=match r with
 |(none,e)=>v= .tuple #[.pointer none,.int .i64 e]∧H= []
 |(some G,_)=> ∃ gg gm E clock R,v= .tuple #[.pointer (some ⟨gg,0,none⟩),.int .i64 0]∧H=gB gg gm (E.map En.m) clock++R∧GOk R E clock G
theorem Mt (L:List Et) (tv:Value) (w:World) (ht:Reads w tv L.length (L.flatMap pP)) (hlen:L.length≤1000000) (hW:Words w):
 FnAt Tryz.prog 13 [tv] w (QS (Dk L)):=by
 have hC:=fun (w' :World) (H:List Blk) (hm:Mem w w' H)=>yd L tv w' (ht.of_w0 hm) hlen (hW.next hm);obtain ⟨Al,cl,rfl,hl1,hl2,hl3⟩:=ht;refine ay Tryz.func13 rfl Tryz.ntmps13 rfl ?_;unfold Dk;generalize ik L=c at hC;obtain ⟨ci,ce⟩:=c;dsimp only at hC ⊢;by_cases hce:ce≠0
 ·rw [if_pos hce];repeat' (first|(apply aa (f:=43);exact rfl;exact rfl;(intro w' hm;exact hC w' _ hm))|refine zZB ?_|refine sM fun _=>?_|(refine sC ?_ ?_<;>intro hb<;>try omega)|fail)
  all_goals exact dB eIO rfl rfl rfl (.nil _) ⟨rfl,rfl⟩
 rw [if_neg hce];have hce0:ce=0:=by omega
 subst hce0;repeat' (first|(apply aa (f:=43);exact rfl;exact rfl;(intro w' hm;exact hC w' _ hm))|(apply mQ (enc:=dm);exact rfl;intro gm)|refine zZB ?_|refine sM fun _=>?_|(refine sC ?_ ?_<;>intro hb<;>try omega)|fail)
 rename_i gg;refine aw [6,21,22] rfl (fun x:Nat × List En × Nat × Gr × List Blk=> [(23,.int .i64 (x.1:Int))]) (fun x=>gB gg gm (x.2.1.map En.m) x.2.2.1++x.2.2.2.2) (fun x=>x.1≤L.length∧GOk x.2.2.2.2 x.2.1 x.2.2.1 x.2.2.2.1∧yc [] L=yc x.2.2.2.1 (L.drop x.1)) (fun x=>L.length - x.1) (0,[],0,[],[]) ⟨by simp,NL [],rfl⟩ sB (by unfold gB;exact mS) ?_;rintro ⟨i,E,clock,G,R⟩ ⟨hi,hG,hnew⟩;dsimp only at hi hG hnew ⊢;by_cases hlt:i<L.length
 ·obtain ⟨gl,ol,rfl,hrl⟩:=hl3 (by omega);have he:=hrl.elem kz i hlt;rw [Rn hlt,yc] at hnew;generalize L[i]=e at he hnew;have hS:=PO gg gm clock E G e.at_ e.input R w hG hW;generalize fN G e.at_ e.input=sg at hS hnew;obtain ⟨G',se⟩:=sg;dsimp only at hS hnew;repeat' (first|(apply ai (d:=25);exact rfl;apply ag;exact rfl;exact rfl;exact hlt)|(apply ai (d:=26);exact rfl;apply bO;exact rfl;exact he;exact rfl)|(apply ak (f:=15);exact rfl;exact rfl;exact FnIn.msub hS (by unfold gB;exact mS);rintro _ _ ⟨rfl,E',clock',R',rfl,hsub,hG'⟩)|refine zZA ?_|refine sM fun _=>?_|(refine sC ?_ ?_<;>intro hb<;>try omega)|fail)
  ·rw [hnew,if_pos (by assumption)];exact dB eIO rfl rfl rfl (.nil _) ⟨rfl,rfl⟩
  ·rw [if_neg (by assumption)] at hnew;refine ⟨(i+1,E',clock',G',R'),⟨hlt,hG',hnew⟩,(by dsimp only;omega),sB,sB,?_⟩;unfold gB;exact mS
 ·have e2:i=L.length:=by omega
  subst e2;rw [Sn,yc] at hnew;rw [hnew];repeat' (first|refine zZB ?_|refine sM fun _=>?_|(refine sC ?_ ?_<;>intro hb<;>try omega)|fail)
  all_goals exact dB eIO rfl rfl rfl (MSub.refl _) ⟨gg,gm,E,clock,R,rfl,rfl,hG⟩
end Go.SL
namespace Go.SL
open Go
def inA:ByteArray:=⟨#[53]⟩
def inB:ByteArray:=⟨#[61,65,49,43,66,49]⟩
def inC:ByteArray:=⟨#[61,68,83,85,77,40,66,49,58,66,51,41]⟩
def inD:ByteArray:=⟨#[61,73,70,69,82,82,79,82,40,65,51,44,48,41,43,49]⟩
def exL:List Et:= [⟨⟨1,1⟩,inA⟩,⟨⟨1,2⟩,inB⟩,⟨⟨1,3⟩,inC⟩,⟨⟨1,4⟩,inD⟩]
def Pe (c r:Int):Nd:=⟨2,bK,kN c r,0,0,0⟩
def exG:Gr:= [
 (⟨1,2⟩,[Pe 1 1,Pe 2 1,dY 6 1],[⟨kN 1 1, -1,0⟩,⟨kN 2 1, -1,0⟩]),
 (⟨1,3⟩,[⟨3,bK,⟨2,1,2,3⟩,0,0,0⟩,⟨7,bK,aS,0,46,1⟩],[⟨⟨2,1,2,3⟩,1,46⟩]),
 (⟨1,4⟩,[Pe 1 3,⟨1,⟨1,0,ax⟩,aS,0,0,0⟩,⟨7,bK,aS,0,25,2⟩,⟨1,⟨1,10000,ax⟩,aS,0,0,0⟩,dY 6 1],[⟨kN 1 3, -1,0⟩])]
theorem LR:Dk exL=(some exG,0):=by decide+kernel
theorem AR:GrOk exG:=by
 have h: ∀ (L:List Et) (G:Gr),GrOk G→ ∀ G',yc G L=(some G',0)→GrOk G' :=by
  intro L
  induction L with
  |nil=>intro G hG G' h;cases h;exact hG
  |cons e r ih=>
   intro G hG G' h;rw [yc] at h;split at h
   ·cases h
   ·exact ih _ (hG.set _ _) G' h
 have h2:=LR;unfold Dk at h2;split at h2
 ·cases h2
 ·exact h exL [] wW exG h2
end Go.SL
namespace Go.SL
open Go Go.Proofs
attribute [local irreducible] W WL WQ WG WA WX WLI WR WT WC VOp RW thn blk bH scp aV bz bP FnAt FnIn FnP ceP
theorem GOk.set_to {R:List Blk} {E:List En} {clock:Nat} {G:Gr} (h:GOk R E clock G) (gg gm:Nat) (F:List Blk) {H:List Blk} (hs:MSub (F++(gB gg gm (E.map En.m) clock++R)) H) {w0:World} (hW:Words w0) {c:Rf} {i:ByteArray} {G' :Gr} {e:Int} (he:fN G c i=(G',e)):
 FnIn Tryz.prog 15 [.pointer (some ⟨gg,0,none⟩),dm c,.string i] w0 H fun v H' =>v= .int .i64 e∧ ∃ E' clock' R',H' =F++(gB gg gm (E'.map En.m) clock' ++R')∧GOk R' E' clock' G' :=by
 have h1:=Bf gg gm clock E G c i R F w0 h hW;rw [he] at h1;have hp: ∀ (A B:List Blk),(A++(B++F)).Perm (F++(A++B)):=fun A B=>by
  rw [← Rx];exact RO
 refine (h1.msub (MSub.trans (MSub.of_perm (hp _ _).symm) hs)).re ?_;rintro v H' ⟨hv,E',clock',R',rfl,_,hG⟩;exact ⟨_,MSub.of_perm (hp _ _),hv,E',clock',R',rfl,hG⟩
theorem GF (w:World):FnAt Tryz.prog 14 [] w fun v H=> ∃ g,v= .slice (some ⟨g,0,none⟩) 4 4∧H= [.own (some g) 87 3 4 4 (exL.flatMap pP)]:=by
 refine ay Tryz.func14 rfl Tryz.ntmps14 rfl ?_;repeat' (first|refine zZB ?_|refine sM fun _=>?_|(refine sC ?_ ?_<;>intro hb<;>try omega)|fail)
 all_goals exact bJ eIO rfl rfl (MSub.refl _) ⟨_,rfl,rfl⟩
end Go.SL
namespace Go.SL
open Go Go.RowKit
section
variable {P:Program} {ops:Array Oper} {es ps:List Nat} {C:World→Prop}
theorem ug {Q:Act→World→Prop} {i:Nat} {oi:Oper} (hi:ops[i]? =some oi) (hsel: ∀ (j:Nat) (o:Oper) cs b,ops[j]? =some o→o.op≠ .select cs b)
 (hnb: ∀ x∈es,∀ y,y∈es∨y∈ps→x≠y→(x=i∨y=i)→uS ops x y):
 ∀ (f:Nat) (L:Array Bool) (a:Act) (w:World),ClosedL ops L→C w→
  (∀ j oj,ops[j]? =some oj→j≠i→L.getD j true=false→(∀ e∈oj.after,Region.binds .any e=true→e.on≠i)→oi.apart ops oj=true)→
  i∈Region.ready .any ops L→EOp P ops es ps C (AnyE P ops es ps C Q f (L.setIfInBounds i true)) i oi a w→AnyE P ops es ps C Q (f+1) L a w
 |0,L,a,w,hcl,hC,_,hr,hy=>⟨hC,fun h=>(by rw [h] at hr;cases hr),fun j hj=>by
   by_cases hji:j=i
   ·subst hji;exact ⟨oi,hi,hy⟩
   ·exfalso;have hne:=ready_mono hj hji;have hE: ∃ a' w',AnyE P ops es ps C Q 0 (L.setIfInBounds i true) a' w' :=by
     cases hy with
     |pass _ hk=>exact ⟨_,_,hk⟩
     |quiet _ _ _ _ _ hk=>exact ⟨_,_,hk⟩
     |eff _ _ hk=>obtain ⟨v,w',h⟩:=hk.ex;exact ⟨_,_,h⟩
    obtain ⟨a',w',_,h0,_⟩:=hE;rw [h0] at hne;cases hne⟩
 |f+1,L,a,w,hcl,hC,hfree,hr,hy=>⟨hC,fun h=>(by rw [h] at hr;cases hr),fun j hj=>by
   by_cases hji:j=i
   ·subst hji;exact ⟨oi,hi,hy⟩
   ·have hj' :=ready_mono hj hji;obtain ⟨hjun,oj,hoj,hall⟩:=mem_ready.1 hj;have hnot: ∀ e∈oj.after,Region.binds .any e=true→e.on≠i:=fun e he hb heq=>by
     have h1:=hall e he hb;have h0:=(mem_ready.1 hr).1;rw [heq] at h1;rcases SW i L.size with h' |h'
     ·simp [h'] at h0 h1;rw [h0] at h1;cases h1
     ·simp [TI h'] at h1
    have hap:=hfree j oj hoj hji hjun hnot;obtain ⟨h1,h2,h3⟩:=Oper.apart_spec hap;have hsi:=fun cs b=>hsel i oi cs b hi;have hsj:=fun cs b=>hsel j oj cs b hoj;have hej: ∀ v,execOp (a.put oi.dst v).eval oj=execOp a.eval oj:=fun v=>execOp_put oj hsj a oi.dst v h1;have hwj: ∀ v,Region.wanted oj (yielded ops (a.put oi.dst v).tmps)=Region.wanted oj (yielded ops a.tmps):=fun v=>wanted_put oj a oi.dst v h1;have hcomm: ∀ v u,(a.put oi.dst v).put oj.dst u=(a.put oj.dst u).put oi.dst v:=fun v u=>Act.put_comm a v u h2;have hset:(L.setIfInBounds i true).setIfInBounds j true=(L.setIfInBounds j true).setIfInBounds i true:=Um _ _ (Ne.symm hji)
    have hfree' : ∀ k ok,ops[k]? =some ok→k≠i→(L.setIfInBounds j true).getD k true=false→
     (∀ e∈ok.after,Region.binds .any e=true→e.on≠i)→oi.apart ops ok=true:=fun k ok hk hki hun hno=>by
     refine hfree k ok hk hki ?_ hno;by_cases hjk:j=k
     ·subst hjk;exact hjun
     ·rw [getD_set_ne true hjk] at hun;exact hun
    have ih:=ug (Q:=Q) hi hsel hnb f (L.setIfInBounds j true);have hcl' :=hcl.set hj;have hr' :=ready_mono hr (Ne.symm hji)
    -- what comes of j behind an outcome of i
    have hJ: ∀ v w',AnyE P ops es ps C Q (f+1) (L.setIfInBounds i true) (a.put oi.dst v) w' →EOp P ops es ps C (AnyE P ops es ps C Q f ((L.setIfInBounds j true).setIfInBounds i true)) j oj (a.put oi.dst v) w' :=fun v w' h=>by
     obtain ⟨o,ho,hE⟩:=h.2.2 j hj';have e:o=oj:=Option.some.inj (ho.symm.trans hoj);subst e;rw [hset] at hE;exact hE
    refine ⟨oj,hoj,?_⟩
    have hstill:(∃ v,AnyE P ops es ps C Q (f+1) (L.setIfInBounds i true) (a.put oi.dst v) w∧ ∀ (u:Value) (w2:World) (K' :Act→World→Prop),C w2→(i∈ps→w2=w)→K' ((a.put oj.dst u).put oi.dst v) w2→EOp P ops es ps C K' i oi (a.put oj.dst u) w2)∨
     (Region.wanted oi (yielded ops a.tmps)=true∧i∈es∧NormUp P (fun v w' =>AnyE P ops es ps C Q (f+1) (L.setIfInBounds i true) (a.put oi.dst v) w') ((execOp a.eval oi).run P w)):=by
     cases hy with
     |pass hw hk=>exact .inl ⟨undef,hk,fun u w2 K' _ _ hk' => .pass ((wanted_put oi a oj.dst u h3).trans hw) hk'⟩
     |quiet hw hies v hrun hst hk=>
      refine .inl ⟨v,hk,fun u w2 K' hC2 hps hk' => ?_⟩;have he:=execOp_put oi hsi a oj.dst u h3;have hrun2:(execOp a.eval oi).run P w2= .ok (.value v) w2:=by
       rcases hst with h|h
       ·rw [hps h];exact hrun
       ·exact h w2 hC2
      exact .quiet ((wanted_put oi a oj.dst u h3).trans hw) hies v (by rw [he];exact hrun2) (by rw [he];exact hst) hk'
     |eff hw hies hk=>exact .inr ⟨hw,hies,hk⟩
    rcases hstill with ⟨v,hk,hS⟩|⟨hw,hies,hk⟩
    ·cases hJ v w hk with
     |pass hwj' hkj=>exact .pass ((hwj v).symm.trans hwj') (ih _ w hcl' hC hfree' hr' (hS undef w _ hC (fun _=>rfl) (by rw [← hcomm];exact hkj)))
     |quiet hwj' hjes u hrun hst hkj=>
      rw [hej] at hrun hst;exact .quiet ((hwj v).symm.trans hwj') hjes u hrun hst (ih _ w hcl' hC hfree' hr' (hS u w _ hC (fun _=>rfl) (by rw [← hcomm];exact hkj)))
     |eff hwj' hjes hkj=>
      rw [hej] at hkj;exact .eff ((hwj v).symm.trans hwj') hjes (hkj.mono fun u w2 hk2=>ih _ w2 hcl' hk2.inC hfree' hr' (hS u w2 _ hk2.inC (fun hps=>(hnb j hjes i (.inr hps) hji (.inr rfl) L hcl hj hr).elim) (by rw [← hcomm];exact hk2)))
    ·obtain ⟨v0,w1,h0⟩:=hk.ex
     cases hJ v0 w1 h0 with
     |pass hwj' hkj=>
      have hwa:=(hwj v0).symm.trans hwj';refine .pass hwa (ih _ w hcl' hC hfree' hr' (EOp.of_put hap hsi (.eff hw hies hk) fun v w' h=> ?_))
      cases hJ v w' h with
      |pass _ h' =>rw [← hcomm];exact h'
      |quiet hw2 _ _ _ _ _=>rw [hwj,hwa] at hw2;cases hw2
      |eff hw2 _ _=>rw [hwj,hwa] at hw2;cases hw2
     |quiet hwj' hjes u hrun hst hkj=>
      have hwa:=(hwj v0).symm.trans hwj';have hst2: ∀ w1,C w1→(execOp a.eval oj).run P w1= .ok (.value u) w1:=by
       rcases hst with h|h
       ·exact (hnb i hies j (.inr h) (Ne.symm hji) (.inl rfl) L hcl hr hj).elim
       ·rw [hej] at h;exact h
      refine .quiet hwa hjes u (hst2 w hC) (.inr hst2) (ih _ w hcl' hC hfree' hr' (EOp.of_put hap hsi (.eff hw hies hk) fun v w' h=> ?_))
      cases hJ v w' h with
      |pass hw2 _=>rw [hwj,hwa] at hw2;cases hw2
      |eff _ hjes2 _=>exact absurd hjes2 hjes
      |quiet _ _ u' hr2 hst' h' =>
       have hst3:(execOp a.eval oj).run P w= .ok (.value u') w:=by
        rcases hst' with h|h
        ·exact (hnb i hies j (.inr h) (Ne.symm hji) (.inl rfl) L hcl hr hj).elim
        ·have:=h w hC;rw [hej] at this;exact this
       rw [hst2 w hC] at hst3;injection hst3 with h4;injection h4 with h4;subst h4;rw [← hcomm];exact h'
     |eff hwj' hjes hkj=>exact (hnb i hies j (.inl hjes) (Ne.symm hji) (.inl rfl) L hcl hr hj).elim⟩
end
section
variable {P:Program} {n:Fr} {w0:World} {Q:bS} {s:az} {H S:List Blk} {l:List Oper} {ty:TypeId} {p:String} {af:Array Edge} {es:List Nat} {gu:Option (Nat × Bool)} {f:Nat} {L:Array Bool}
def WE (P:Program) (n:Fr) (w0:World) (l:List Oper) (S:List Blk) (es:List Nat) (Q:bS) (f:Nat) (L:Array Bool) (s:az) (H:List Blk):Prop:=
 ∀ a w,St n s a→Mem w0 w H→Mem w0 w S→ClosedL l.toArray L→AnyE P l.toArray es [] (fun w=>Mem w0 w S) (post n w0 Q .normal) f L a w
theorem mT {id:Nat} (es:List Nat) (S:List Blk) (N:Nat) (hN:l.length=N) (hm:P.follows .mixedOrders=true) (hS:MSub S H)
 (h:WE P n w0 l S es Q N (Array.replicate N false) s H):W P n w0 (.region id l.toArray true) Q s H:=by
 intro a w hs hmem;subst hN;refine wp_region_any hm (gT (es:=es) (ps:= []) (C:=fun w=>Mem w0 w S) (Q:=post n w0 Q .normal) (fun _ _ h=>h) _ _ _ _ ?_);have hcl:ClosedL l.toArray (Array.replicate l.length false):=fun i o _ hi=>by
  rw [RZ,Un] at hi;split at hi<;>cases hi
 have:=h a _ hs hmem.drew (hS.use hmem.drew) hcl;simpa using this
theorem mR (hr:Region.ready .any l.toArray L= []) (h:Q .normal s H):WE P n w0 l S es Q f L s H:=by
 intro a w hs hm hS hcl
 cases f with
 |zero=>exact ⟨hS,hr,s,H,hs,hm,h⟩
 |succ f=>exact ⟨hS,fun _=>⟨s,H,hs,hm,h⟩,fun i hi=>by rw [hr] at hi;cases hi⟩
theorem bU {i:Nat} {op:Op} {d:Nat} {v:Value} (hi:l[i]? =some ⟨some d,op,ty,p,af,gu⟩) (hn:Nat.blt d n.sz=true) (hg:gok l s gu=some true) (hk:es.contains i=false) (hsel:Region.noSelect l.toArray=true)
 (hr:(Region.ready .any l.toArray L).contains i=true) (hf:Region.free .any l.toArray L i=true) (hv:VOp P w0 s S op ty v) (h:WE P n w0 l S es Q f (L.setIfInBounds i true) ((d,v)::s) H):WE P n w0 l S es Q (f+1) L s H:=by
 intro a w hs hm hS hcl;have hi' :l.toArray[i]? =some ⟨some d,op,ty,p,af,gu⟩:=by simpa using hi
 have hr' :i∈Region.ready .any l.toArray L:=by simpa using hr
 have hk' :i∉es:=by simpa using hk
 refine ug hi' (Region.noSelect_spec hsel) (fun x hx y hy _ hxy=> ?_) f L a w hcl hS (Region.free_spec hi' hf) hr'
  (.quiet (dZ rfl hg hs) hk' v (hv a.eval w (some d) p af gu hs.eval hS) (.inr fun w1 h1=>hv a.eval w1 (some d) p af gu hs.eval h1) (h _ _ (hs.put (Sa ▸ hn) v) hm hS (hcl.set hr')))
 rcases hxy with rfl|rfl
 ·exact (hk' hx).elim
 ·rcases hy with hy|hy
  ·exact (hk' hy).elim
  ·cases hy
theorem zP {i:Nat} {op:Op} {dst:Option Tmp} (hi:l[i]? =some ⟨dst,op,ty,p,af,gu⟩) (hg:gok l s gu=some true) (hk:es.contains i=true) (hr:(Region.ready .any l.toArray L).contains i=true)
 (h:WL P n w0 #[] [⟨dst,op,ty,p,af,none⟩] (ceP S (WE P n w0 l S es Q f (L.setIfInBounds i true))) s H) (a:Act) (w:World) (hs:St n s a) (hm:Mem w0 w H) (hcl:ClosedL l.toArray L):
 EOp P l.toArray es [] (fun w=>Mem w0 w S) (AnyE P l.toArray es [] (fun w=>Mem w0 w S) (post n w0 Q .normal) f (L.setIfInBounds i true)) i ⟨dst,op,ty,p,af,gu⟩ a w:=by
 have hr' :i∈Region.ready .any l.toArray L:=by simpa using hr
 refine .eff (dZ rfl hg hs) (by simpa using hk) ?_;have h1:=h a w hs hm;unfold wpList at h1;simp only [Region.wanted,if_true] at h1;replace h1:=h1.elim id fun ⟨_,a0,w1,s',H'',_,_,he,_⟩=>by cases he
 have hexec:execOp a.eval ⟨dst,op,ty,p,af,gu⟩=execOp a.eval ⟨dst,op,ty,p,af,none⟩:=rfl;rw [hexec];have nxt: ∀ (a' :Act) (w' :World),wpList P #[] (post n w0 (ceP S (WE P n w0 l S es Q f (L.setIfInBounds i true)))) [] a' w' →AnyE P l.toArray es [] (fun w=>Mem w0 w S) (post n w0 Q .normal) f (L.setIfInBounds i true) a' w' :=by
  rintro a' w' ⟨s',H',hs',hm',_,hSub,hK⟩;exact hK a' w' hs' hm' (hSub.use hm') (hcl.set hr')
 unfold Oper.wp at h1;generalize (execOp a.eval ⟨dst,op,ty,p,af,none⟩).run P w=r at h1 ⊢
 cases r with
 |ok x w' =>
  cases x<;>simp only [Oper.upon] at h1<;>simp only [NormUp]
  case value u=>exact nxt _ _ h1
  case skip=>exact nxt _ _ h1
  case defer dd=>
   obtain ⟨s',H'',hs',_⟩:=h1;have h2:=congrArg List.length (hs'.defers.trans hs.defers.symm);cases dst<;>simp [Act.put] at h2
  case enter f args=>
   refine h1.mono fun e w'' he=> ?_
   cases e with
   |returned v=>exact ⟨v,rfl,nxt _ _ he⟩
   |panicked c=>
    obtain ⟨s',H'',_,_,he',_⟩:=he;cases he'
   |outgrown=>
    obtain ⟨a0,w1,s',H'',_,_,he',_⟩:=he;cases he'
  case row f args=>exact Rows.mono h1 fun u w'' he=>nxt _ _ he
 |halt x w' =>
  cases x<;>simp only [Oper.upon] at h1
  all_goals
   obtain ⟨s',H'',_,_,he',_⟩:=h1;cases he'
theorem dI {i:Nat} {op:Op} {dst:Option Tmp} (hi:l[i]? =some ⟨dst,op,ty,p,af,gu⟩) (hg:gok l s gu=some true) (hk:es.contains i=true) (hr:Region.ready .any l.toArray L= [i])
 (h:WL P n w0 #[] [⟨dst,op,ty,p,af,none⟩] (ceP S (WE P n w0 l S es Q f (L.setIfInBounds i true))) s H):WE P n w0 l S es Q (f+1) L s H:=by
 intro a w hs hm hS hcl;refine ⟨hS,fun h0=>(by rw [hr] at h0;cases h0),fun j hj=> ?_⟩;rw [hr] at hj;have e:j=i:=by simpa using hj
 subst e;exact ⟨_,by simpa using hi,zP hi hg hk (by rw [hr];simp) h a w hs hm hcl⟩
theorem ve {i j:Nat} {op op' :Op} {dst dst' :Option Tmp} {ty' :TypeId} {p' :String} {af' :Array Edge} {gu' :Option (Nat × Bool)} (hi:l[i]? =some ⟨dst,op,ty,p,af,gu⟩) (hj:l[j]? =some ⟨dst',op',ty',p',af',gu'⟩) (hg:gok l s gu=some true) (hg' :gok l s gu' =some true)
 (hk:es.contains i=true) (hk' :es.contains j=true) (hr:Region.ready .any l.toArray L= [i,j])
 (h:WL P n w0 #[] [⟨dst,op,ty,p,af,none⟩] (ceP S (WE P n w0 l S es Q f (L.setIfInBounds i true))) s H)
 (h' :WL P n w0 #[] [⟨dst',op',ty',p',af',none⟩] (ceP S (WE P n w0 l S es Q f (L.setIfInBounds j true))) s H):WE P n w0 l S es Q (f+1) L s H:=by
 intro a w hs hm hS hcl;refine ⟨hS,fun h0=>(by rw [hr] at h0;cases h0),fun k hk0=> ?_⟩;rw [hr] at hk0;rcases RF.1 hk0 with e|hk0
 ·subst e;exact ⟨_,by simpa using hi,zP hi hg hk (by rw [hr];simp) h a w hs hm hcl⟩
 ·have e:k=j:=by simpa using hk0
  subst e;exact ⟨_,by simpa using hj,zP hj hg' hk' (by rw [hr];simp) h' a w hs hm hcl⟩
end
end Go.SL
namespace Go.SL
open Go Go.Proofs
attribute [local irreducible] W WL WQ WG WA WX WLI WR WT WC WE VOp RW thn blk bH scp aV bz bP FnAt FnIn FnP ceP
theorem In.of_mem {b:Blk}: ∀ {H:List Blk},b∈H→In b H
 | [],h=>by cases h
 |a::H,h=>by
  by_cases e:b=a
  ·subst e;exact .hd
  ·exact .tl (In.of_mem (by rcases RF.1 h with h|h;exact absurd h e;exact h))
structure Rdr (gg:Nat) (G:Gr) (B:List Blk) (w0:World):Prop where
 g:GrOk G
 l:G.length≤900
 ur: ∀ r H,MSub B H→FnIn Tryz.prog 31 [.pointer (some ⟨gg,0,none⟩),.agg (jp r).toArray] w0 H fun v H' => ∃ A cap,v=sl A (EQ G r).length cap∧H' = .own A 28 2 (EQ G r).length cap ((EQ G r).flatMap aB)::H
 fm: ∀ H,MSub B H→FnIn Tryz.prog 29 [.pointer (some ⟨gg,0,none⟩)] w0 H fun v H' => ∃ A cap,v=sl A (aA G).length cap∧H' = .own A 28 2 (aA G).length cap ((aA G).flatMap aB)::H
 us: ∀ d H,MSub B H→FnIn Tryz.prog 59 [.pointer (some ⟨gg,0,none⟩),dm d] w0 H fun v H' => ∃ A cap,v=sl A (dF G d).length cap∧H' = .own A 121 6 (dF G d).length cap ((dF G d).flatMap cP)::H
theorem H8 {P:Program} {w0:World} {s:az} {H:List Blk} {ty t e lo m c sz g:Nat} {x xl:Operand} [ht:Und P t (.slice e)] [hz:Size P e sz] (hx:ev s x=some (.slice (some ⟨g,0,none⟩) m c)) (hxl:ev s xl=some (.int .i64 (lo:Nat))) (h1:lo<m) (h2:m≤c):
 VOp P w0 s H (.slice t x (some xl) none none) ty (.slice (some ⟨g,lo*sz,none⟩) (m - lo) (c - lo)):=by
 have h:=mU (P:=P) (w0:=w0) (s:=s) (H:=H) (ty:=ty) (t:=t) (lo:=lo) (hi:=m) (x:=x) (xl:=some xl) (xh:=none) hx ⟨_,hxl⟩ rfl (by omega) h2;rw [if_neg (show ¬ c=lo by omega)] at h;have ha:(⟨g,0,none⟩:Addr).add (lo*sz)=⟨g,lo*sz,none⟩:=by unfold Addr.add;split<;>simp_all
 rw [Sq,ha] at h;exact h
theorem yu {P:Program} {w0:World} {s:az} {H:List Blk} {ty t e hi m c sz:Nat} {A:Option Addr} {x xh:Operand} [ht:Und P t (.slice e)] [hz:Size P e sz] (hx:ev s x=some (.slice A m c)) (hxh:ev s xh=some (.int .i64 (hi:Nat))) (h2:hi≤c):
 VOp P w0 s H (.slice t x none (some xh) none) ty (.slice A hi c):=by
 have h:=mU (P:=P) (w0:=w0) (s:=s) (H:=H) (ty:=ty) (t:=t) (lo:=0) (hi:=hi) (x:=x) (xl:=none) (xh:=some xh) hx rfl ⟨_,hxh⟩ (by omega) h2;have ha:(if c=0 then A else A.map (·.add (0*sz)))=A:=by
  split
  ·rfl
  ·cases A with
   |none=>rfl
   |some a=>rw [UA];simp [Addr.add]
 rw [ha] at h;exact h
end Go.SL
namespace Go.SL
open Go Go.Proofs
theorem P0 {P:Program} {n:Fr} {w0:World} {Q:bS} {s:az} {H:List Blk} {c:Code} {A:Option Nat} {t sz m cap:Nat} {xs:List Value} (hi:In (.own A t sz m cap xs) H) (h:m≤cap→W P n w0 c Q s H):W P n w0 c Q s H:=fun a w hs hmem=>
 h (hmem.on _ hi.mem).1.2.1 a w hs hmem
attribute [local irreducible] W WL WQ WG WA WX WLI WR WT WC WE VOp RW thn blk bH scp aV bz bP FnAt FnIn FnP ceP
theorem Qu.pop_v (q:Qu) (sz:Nat):Value.slice (if q.c - q.k=1 then some ⟨q.g,q.off,none⟩ else (some (⟨q.g,q.off,none⟩:Addr)).map (·.add (1*sz))) (q.n - q.k - 1) (q.c - q.k - 1)=(q.pop sz).v:=by
 simp only [Qu.v,Qu.pop];rw [Nat.sub_sub,Nat.sub_sub];split
 ·rfl
 ·have h:(⟨q.g,q.off,none⟩:Addr).add (1*sz)=⟨q.g,q.off+1*sz,none⟩:=by unfold Addr.add;split<;>simp_all
  rw [Sq,h]
theorem Ox {P:Program} {w0:World} {s:az} {H:List Blk} {ty t e sz:Nat} {x:Operand} [ht:Und P t (.slice e)] [hz:Size P e sz] (q:Qu) (hx:ev s x=some q.v) (h1:1≤q.n - q.k) (h2:q.n≤q.c):
 VOp P w0 s H (.slice t x (some (.const (.int .i64 1))) none none) ty (q.pop sz).v:=by
 rw [← Qu.pop_v];exact mU (lo:=1) (hi:=q.n - q.k) hx ⟨_,rfl⟩ rfl h1 (by omega)
theorem Qu.ok.head {α:Type} {q:Qu} {enc:α→List Value} {sz:Nat} {a:α} {L:List α} (h:q.ok enc sz (a::L)) (he:(enc a).length=sz) (hc:q.n≤q.c):(q.ys.drop (q.off+0*sz)).take sz=enc a:=by
 have hl:=h.len;rw [Rk] at hl;rw [h.off (by omega),UA,Tw,h.cells,Rl,← he,TQ]
end Go.SL
namespace Go.SL
open Go Go.Proofs Go.Sort Go.Shelf
attribute [local irreducible] W WL WQ WG WA WX WLI WR WT WC WE VOp RW thn blk bH scp aV bz bP FnAt FnIn FnP ceP
def nzC (l:List Nat):List Value:=l.map fun i:Nat=>Value.int .i64 (i:Int)
theorem lB (l:List Nat):(nzC l).length=l.length:=by simp [nzC]
theorem wB (l:List Nat):(nzC l).length=l.length*1:=by simp [nzC]
theorem Af (l:List Nat): ∀ u∈nzC l,u.oneCell' =true:=by
 intro u hu;obtain ⟨n,_,rfl⟩:=RG.1 hu
 rfl
theorem Ag (l m:List Nat):nzC (l++m)=nzC l++nzC m:=by simp [nzC]
theorem sn {l:List Nat} {k:Nat} (h:k<l.length):(nzC l)[k]? =some (.int .i64 ((atN l k:Nat):Int)):=by
 simp [nzC,atN,h]
theorem cG {l:List Nat} {k:Nat} (h:k<l.length):(nzC l)[0+k*1]? =some (.int .i64 ((atN l k:Nat):Int)):=by
 rw [Rv,RV];exact sn h
theorem lA {l:List Nat} {k x:Nat}:(nzC l).set (0+k*1) (.int .i64 ((x:Nat):Int))=nzC (l.set k x):=by
 rw [Rv,RV];simp [nzC,List.map_set]
theorem Dc (n:Nat):((List.range (n*1)).map fun i=> [Value.int .i64 0][i % [Value.int .i64 0].length]!)=nzC (List.replicate n 0):=by
 simp [nzC,Nat.mod_one,List.map_const']
theorem Lb (l:List Nat) (k:Nat):(nzC l).drop k=nzC (l.drop k):=by simp [nzC]
theorem wA (l:List Nat) (k:Nat):(nzC l).take k=nzC (l.take k):=by simp [nzC]
theorem dN {l:List Nat} {k:Nat} (h:k<l.length):atN l k=l[k]:=by simp [atN,h]
theorem db {l:List Nat} {k:Nat} (h:k<l.length):atN l k∈l:=by rw [dN h];exact RL h
theorem Ro.natN {w:World} {g o:Nat} {l:List Nat} (h:Ro w g o (nzC l)) (i:Nat) (hi:i<l.length):Ro w g (o+i*1) [.int .i64 ((atN l i:Nat):Int)]:=h.cellV i (sn hi)
def AH (l:List Nat) (x:Nat):Int:=match l.findIdx? fun b=>decide (b=x) with|some i=>(i:Int)|none=> -1
theorem LL (l:List Nat) (x:Nat):decide (0≤AH l x)=decide (x∈l):=by
 rw [decide_eq_decide];unfold AH
 cases h:l.findIdx? fun b=>decide (b=x) with
 |none=>
  rw [Sy] at h;exact ⟨fun hh=>by simp at hh,fun hm=>by have:=h x hm;simp at this⟩
 |some i=>
  obtain ⟨h1,h2,_⟩:=RU.1 h;refine ⟨fun _=> ?_,fun _=>by simp⟩;have:l[i]=x:=by simpa using h2
  rw [← this];exact RL h1
theorem LM {A B:List Nat} {x:Nat} (h:x∉A):AH (A++x::B) x=(A.length:Int):=by
 have hlt:A.length<(A++x::B).length:=by simp
 unfold AH;rw [RU.2 ⟨hlt,by simp,fun j hj=> ?_⟩];rw [List.getElem_append_left hj];have:A[j]≠x:=fun e=>h (e ▸ RL hj);simp [this]
theorem zC (l:List Nat) (x:Nat) (hlen:l.length≤1000000) (tv:Value) (w:World) (ht:Reads w tv l.length (nzC l)):
 aC Tryz.prog 84 [tv,.int .i64 (x:Int)] w (.int .i64 (AH l x)):=by
 obtain ⟨Al,cl,rfl,hl1,hl2,hl3⟩:=ht;refine ay Tryz.func84 rfl Tryz.ntmps84 rfl ?_;repeat' (first|refine sT ?_|refine sM fun _=>?_|(refine sC ?_ ?_<;>intro hb<;>try omega)|fail)
 refine fR (fun i:Nat=> [(0,.slice Al l.length cl),(1,.int .i64 (x:Int)),(7,.int .i64 (l.length:Int)),(8,.int .i64 (i:Int))]) (fun _=> []) (fun i=>i≤l.length∧ ∀ j (h:j<l.length),j<i→l[j]≠x) (fun i=>l.length - i) 0 ⟨by omega,fun j _ h=>by omega⟩ sB (.refl _) ?_;rintro i ⟨hi,hno⟩;by_cases hlt:i<l.length
 ·obtain ⟨gl,ol,rfl,hrl⟩:=hl3 (by omega);have he:=hrl.natN i hlt;have hnext:(atN l i:Int)≠(x:Int)→ ∀ j (h:j<l.length),j<i+1→l[j]≠x:=fun h0 j h hj=>by
   by_cases e:j=i
   ·subst e;rw [dN hlt] at h0;exact fun e=>h0 (by rw [e])
   ·exact hno j h (by omega)
  have hres:(atN l i:Int)=(x:Int)→AH l x=(i:Int):=fun h0=>by
   rw [dN hlt] at h0;unfold AH;rw [RU.2 ⟨hlt,by simp;omega,fun j hj=>by have:=hno j (by omega) hj;simpa using this⟩]
  generalize atN l i=u at he hnext hres;repeat' (first|(apply ai;exact rfl;apply ag (j:=i);exact rfl;exact rfl;exact hlt)|(apply ai;exact rfl;apply bp;exact rfl;exact he)|refine sT ?_|refine sN ?_|refine sM fun _=>?_|(refine sC ?_ ?_<;>intro hb<;>try omega)|fail)
  all_goals first
   |(refine bJ eIO rfl rfl (.nil _) ?_;rw [hres (by omega)];done)
   |(refine ⟨i+1,⟨hlt,hnext (by omega)⟩,by omega,?_,.nil _⟩;exact sB;done)
 ·have e:i=l.length:=by omega
  subst e;have hres:AH l x= -1:=by
   unfold AH
   rw [Sy.2 fun y hy=>by
    obtain ⟨j,hj,rfl⟩:=Tb hy;have:=hno j hj hj;simpa using this]
  repeat' (first|refine sT ?_|refine sM fun _=>?_|(refine sC ?_ ?_<;>intro hb<;>try omega)|fail)
  all_goals first
   |(refine bJ eIO rfl rfl (.nil _) ?_;rw [hres];done)
theorem rI (l:List Nat) (x:Nat) (hlen:l.length≤1000000) (tv:Value) (w:World) (ht:Reads w tv l.length (nzC l)):
 aC Tryz.prog 40 [tv,.int .i64 (x:Int)] w (.bool (decide (x∈l))):=by
 refine ay Tryz.func40 rfl Tryz.ntmps40 rfl ?_;have hI:=fun (w' :World) (H:List Blk) (hm:Mem w w' H)=>zC l x hlen tv w' (ht.of_w0 hm);have hres:=LL l x;repeat' (first|(apply aa (f:=84);exact rfl;exact rfl;(intro w' hm;exact hI w' _ hm))|refine sT ?_|refine sM fun _=>?_|(refine sC ?_ ?_<;>intro hb<;>try omega)|fail)
 all_goals first
  |(refine bJ eIO rfl rfl (.nil _) ?_;rw [hres];done)
theorem J3 (l:List Nat) (tv:Value) (w:World) (ht:Reads w tv l.length (nzC l)) (hlen:l.length≤1000000):
 FnAt Tryz.prog 117 [tv] w fun v H=> ∃ A cap,v=sl A l.length cap∧H= [.own A 3 1 l.length cap (nzC l)]:=by
 have ht' :=ht;obtain ⟨At,ct,rfl,ht1,ht2,ht3⟩:=ht;refine ay Tryz.func117 rfl Tryz.ntmps117 rfl ?_;refine aI 3 1 ?_;repeat' (first|(apply ai;exact rfl;apply vz;exact rfl)|(apply df;exact rfl;intro gb)|(apply eJ (n' :=0) (c:=0) (A:=some _) (m:=l.length);(iterate 3 exact rfl);exact pK;(intro w hm;exact ht'.of_w0 hm);exact wB l;exact Af l;omega;(simp only [maxLen];omega);intro A' cap' hA)|refine sT ?_|refine sM fun _=>?_|(refine sC ?_ ?_<;>intro hb<;>try omega)|fail)
 ·have e:l.length=0:=by
   rcases SY l.length with h|h
   ·exact h
   ·obtain ⟨g,o,rfl,_⟩:=ht3 h;cases hb
  have e' :l= []:=Sl e;subst e';exact bJ (.inl rfl) Tryz.results117 rfl (.refl _) ⟨none,0,rfl,rfl⟩
 ·exact bJ (.inl rfl) Tryz.results117 rfl (H' := [.own A' 3 1 (0+l.length) cap' ([]++nzC l)]) mS ⟨A',cap',by rw [Rv],by rw [Rv];rfl⟩
def gX (l:List Nat):List Nat:=l.mergeSort fun x y=>decide (x≤y)
theorem fU (l:List Nat):(gX l).Perm l:=TV _ _
theorem oS (l:List Nat):(gX l).Pairwise (· ≤ ·):=by
 have h:=List.pairwise_mergeSort (le:=fun x y:Nat=>decide (x≤y)) (fun a b c h1 h2=>by simp at*;omega) (fun a b=>by simp;omega) l;exact h.imp fun h=>by simpa using h
theorem Iv (l:List Nat):(qI (l.map fun i:Nat=>(i:Int))).map xR=nzC (gX l):=by
 unfold qI gX nzC;rw [← List.map_mergeSort (r:=fun x y:Nat=>decide (x≤y)) (fun a _ b _=>by rw [decide_eq_decide];omega),SZ]
 rfl
theorem vN (l:List Nat) (A:Option Nat) (cap:Nat) (hL:l.length≤1000000) (R:List Blk) (w0:World):
 FnIn Tryz.prog 41 [sl A l.length cap] w0 (.own A 3 1 l.length cap (nzC l)::R) fun v H=>v= .tuple #[]∧H= .own A 3 1 l.length cap (nzC (gX l))::R:=by
 have h:=Cp (l.map fun i:Nat=>(i:Int)) A cap (by rw [RA];exact hL) R w0;rw [RA,Iv,SZ] at h;exact h
def JRd (w:World) (v:Value) (X:Nx):Prop:= ∃ vs:List Value,vs.length=X.length∧Reads w v X.length vs∧ ∀ i,i<X.length→ ∃ u,vs[i]? =some u∧Reads w u (au X i).length (nzC (au X i))
theorem JRd.of_w0 {w0 w:World} {H:List Blk} {v:Value} {X:Nx} (hm:Mem w0 w H) (h:JRd w0 v X):JRd w v X:=by
 obtain ⟨vs,h1,h2,h3⟩:=h;exact ⟨vs,h1,h2.of_w0 hm,fun i hi=>by obtain ⟨u,h4,h5⟩:=h3 i hi;exact ⟨u,h4,h5.of_w0 hm⟩⟩
def JIn (Z:List Blk) (vs:List Value) (X:Nx):Prop:=vs.length=X.length∧ ∀ i,i<X.length→ ∃ u,vs[i]? =some u∧ ∀ {w1:World} (w:World),Mem w1 w Z→Reads w u (au X i).length (nzC (au X i))
theorem JIn.mono {Z Z' :List Blk} {vs:List Value} {X:Nx} (h:JIn Z vs X) (hs:MSub Z Z'):JIn Z' vs X:=
 ⟨h.1,fun i hi=>by obtain ⟨u,h1,h2⟩:=h.2 i hi;exact ⟨u,h1,fun w hm=>h2 w (hs.use hm)⟩⟩
theorem JIn.nil:JIn [] [] []:=⟨rfl,fun i hi=>absurd hi (TF _)⟩
theorem xV {X:Nx} {l:List Nat} {i:Nat} (h:i<X.length):au (X++ [l]) i=au X i:=by
 unfold au;rw [RC h]
theorem xW {X:Nx} {l:List Nat}:au (X++ [l]) X.length=l:=by
 unfold au;rw [RM (Rg _)];simp
theorem JIn.snoc {Z Z' :List Blk} {vs:List Value} {X:Nx} {u:Value} {l:List Nat} (h:JIn Z vs X) (hs:MSub Z Z') (hu: ∀ {w1:World} (w:World),Mem w1 w Z' →Reads w u l.length (nzC l)):JIn Z' (vs++ [u]) (X++ [l]):=by
 refine ⟨by rw [QT,QT,h.1];rfl,fun i hi=> ?_⟩;rw [QT,QX] at hi;by_cases e:i<X.length
 ·obtain ⟨u',h1,h2⟩:=h.2 i e;rw [xV e];exact ⟨u',by rw [RC (by rw [h.1];exact e)];exact h1,fun w hm=>h2 w (hs.use hm)⟩
 ·have e2:i=X.length:=by omega
  subst e2;rw [xW];exact ⟨u,by rw [← h.1,RM (Rg _)];simp,hu⟩
abbrev JA:=List (Option Nat × Nat)
def cK:Nx→JA→List Value
 |l::X,a::As=>sl a.1 l.length a.2::cK X As
 |_,_=> []
def jn:Nx→JA→List Blk
 |l::X,a::As=> .own a.1 3 1 l.length a.2 (nzC l)::jn X As
 |_,_=> []
theorem kS: ∀ {X:Nx} {As:JA},As.length=X.length→(cK X As).length=X.length
 | [],[],_=>rfl
 |l::X,a::As,h=>by rw [cK,Rk,kS (Nat.succ.inj h),Rk]
 | [],_::_,h=>by cases h
 |_::_,[],h=>by cases h
theorem iS: ∀ {X:Nx} {As:JA} {i:Nat} (h:As.length=X.length) (hi:i<X.length),(cK X As)[i]? =some (sl (As[i]'(by omega)).1 (au X i).length (As[i]'(by omega)).2)
 |l::X,a::As,0,_,_=>rfl
 |l::X,a::As,i+1,h,hi=>by
  have:=iS (X:=X) (As:=As) (i:=i) (Nat.succ.inj h) (Ux hi);rw [cK,Uq,this]
  rfl
 | [],_,_,_,hi=>absurd hi (TF _)
 |_::_,[],_,h,_=>by cases h
theorem wT: ∀ {X:Nx} {As:JA} {i:Nat} (h:As.length=X.length) (hi:i<X.length),∃ Rs,∀ (l:List Nat) (a:Option Nat × Nat),(jn (X.set i l) (As.set i a)).Perm (.own a.1 3 1 l.length a.2 (nzC l)::Rs)
 |l0::X,a0::As,0,_,_=>⟨jn X As,fun l a=> .refl _⟩
 |l0::X,a0::As,i+1,h,hi=>by
  obtain ⟨Rs,hR⟩:=wT (X:=X) (As:=As) (i:=i) (Nat.succ.inj h) (Ux hi);exact ⟨.own a0.1 3 1 l0.length a0.2 (nzC l0)::Rs,fun l a=>((hR l a).cons _).trans (.swap _ _ _)⟩
 | [],_,_,_,hi=>absurd hi (TF _)
 |_::_,[],_,h,_=>by cases h
theorem mD: ∀ {X:Nx} {As:JA} {i:Nat} (l:List Nat) (a:Option Nat × Nat),As.length=X.length→cK (X.set i l) (As.set i a)=(cK X As).set i (sl a.1 l.length a.2)
 | [],[],_,_,_,_=>rfl
 |l0::X,a0::As,0,_,_,_=>rfl
 |l0::X,a0::As,i+1,l,a,h=>by
  rw [UM,UM,cK,cK,UM,mD l a (Nat.succ.inj h)]
 | [],_::_,_,_,_,h=>by cases h
 |_::_,[],_,_,_,h=>by cases h
theorem qY: ∀ {X:Nx} {As:JA} {i:Nat} (h:As.length=X.length) (hi:i<X.length),Blk.own (As[i]'(by omega)).1 3 1 (au X i).length (As[i]'(by omega)).2 (nzC (au X i))∈jn X As
 |l0::X,a0::As,0,_,_=>QY
 |l0::X,a0::As,i+1,h,hi=>Rh _ (qY (X:=X) (As:=As) (i:=i) (Nat.succ.inj h) (Ux hi))
 | [],_,_,_,hi=>absurd hi (TF _)
 |_::_,[],_,h,_=>by cases h
theorem AB {X:Nx} {As:JA} (h:As.length=X.length):JIn (jn X As) (cK X As) X:=
 ⟨kS h,fun _ hi=>⟨_,iS h hi,fun _ hm=>Reads.of_own hm (In.of_mem (qY h hi))⟩⟩
def qZ (n:Nat):Nx:=List.replicate n []
def fA (n:Nat):JA:=List.replicate n (none,0)
theorem Qx (n:Nat):cK (qZ n) (fA n)=List.replicate n (.slice none 0 0):=by
 induction n with
 |zero=>rfl
 |succ n ih=>rw [qZ,fA,TU,TU,cK,TU,← ih];rfl
theorem DA (n:Nat):jn (qZ n) (fA n)=List.replicate n (.own none 3 1 0 0 []):=by
 induction n with
 |zero=>rfl
 |succ n ih=>rw [qZ,fA,TU,TU,jn,TU,← ih];rfl
theorem mC (n:Nat):((List.range (n*1)).map fun i=> [Value.slice none 0 0][i % [Value.slice none 0 0].length]!)=cK (qZ n) (fA n):=by
 rw [Qx];simp [Nat.mod_one,List.map_const']
theorem kq {P:Program} {n:Fr} {w0:World} {Q:bS} {s:az} {H:List Blk} {c:Code} (e:TypeId): ∀ m,W P n w0 c Q s (List.replicate m (.own none e 1 0 0 [])++H)→W P n w0 c Q s H
 |0,h=>h
 |m+1,h=>kq e m (aI e 1 h)
theorem JIn.rd {w0 w:World} {Z:List Blk} {vs:List Value} {X:Nx} {A:Option Nat} {t c:Nat} (h:JIn Z vs X) (hm:Mem w0 w (.own A t 1 X.length c vs::Z)):JRd w (sl A X.length c) X:=
 ⟨vs,h.1,Reads.of_own hm .hd,fun i hi=>by
  obtain ⟨u,h1,h2⟩:=h.2 i hi;exact ⟨u,h1,h2 w hm.tail⟩⟩
theorem l4 {P:Program} {w0:World} {s:az} {H:List Blk} {ty:TypeId} {x:Operand} {t g o off:Nat} {xs:List Value} {v:Value} [One P t] (hc: ∀ w,Mem w0 w H→Cells w g o xs) (hx:ev s x=some (.pointer (some ⟨g,o+off,none⟩))) (hv:xs[off]? =some v):
 VOp P w0 s H (.load t x) ty v:=by
 unfold VOp;intro ρ w _ _ _ _ hρ hm;have hc:w.cell? ⟨g,o+off,none⟩=some v:=hc w hm off v hv;simp [execOp,hρ x _ hx,Instr.loadAt,Instr.sureAddr,dK (P:=P) hc]
end Go.SL
