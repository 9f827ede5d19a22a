/-
  Lemmas and walks, put together: Q11 D8 Cj R7 Zd D12 Ex R8 L3 Sl29 Rq Rt Rf Ri.
-/
import Derived.Test.YtfeicpjdgjflaaaGreatDoorKv19
import Derived.Test.YtfeicpjdgjflaaaGreatDoorKv21
set_option linter.unusedSimpArgs false
set_option linter.unusedVariables false
set_option maxRecDepth 20000
set_option maxHeartbeats 16000000
namespace Go.SL
open Go Go.Proofs
attribute [local irreducible] W WL WQ WG WA WX WLI WR WT WC VOp RW thn blk bg scp aS aV bi FnAt FnIn FnP ceP
def fI (a:Rf) (x:En) (st:List En × Bool) (e:En):List En × Bool:=
 let st1:=if st.2=false∧bn a e.at_=true then (st.1++ [x],true) else st
 (if e.at_≠a then st1.1++ [e] else st1.1,st1.2)
def Jy (x:En) (st:List En × Bool):List En:=if st.2 then st.1 else st.1++ [x]
def AA (a:Rf) (x:En) (d:Bool) (L:List En):List En:=Jy x (L.foldl (fI a x) ([],d))
theorem zn (a:Rf) (x:En): ∀ (L:List En) (O:List En),L.foldl (fI a x) (O,true)=(O++L.filter (fun e=>decide (e.at_≠a)),true)
 | [],O=>by simp
 |e::r,O=>by
  rw [Wy];have:fI a x (O,true) e=(if e.at_≠a then O++ [e] else O,true):=by simp [fI]
  rw [this,zn a x r,XC];by_cases h:e.at_≠a
  ·simp [h]
  ·simp [h]
theorem Ol (a:Rf) (x:En) (L:List En):(AA a x true L).map En.abs=AP (L.map En.abs) a:=by
 unfold AA;rw [zn];simp only [Jy,if_true,Vq,AP,Ys]
 rfl
theorem zl {a:Rf} {x:En}: ∀ (L:List En) (O:List En),SortG (L.map En.abs)→
 Jy x (L.foldl (fI a x) (O,false))=O++(L.filter (fun e=>bn e.at_ a)++x::L.filter fun e=>bn a e.at_)
 | [],O,_=>by simp [Jy]
 |e::r,O,hs=>by
  rw [VU] at hs;obtain ⟨h1,h2⟩:=Wt.1 hs;rw [Wy,XC,XC]
  cases hl:bn a e.at_ with
  |true=>
   have hne:e.at_≠a:=(l7 hl).symm;have hge:bn e.at_ a=false:=kD hl;have hst:fI a x (O,false) e=(O++ [x]++ [e],true):=by simp [fI,hl,hne]
   have hall: ∀ f∈r,bn a f.at_=true:=fun f hf=>wB hl (h1 f.abs (VM.2 ⟨f,hf,rfl⟩));have e1:r.filter (fun f=>decide (f.at_≠a))=r:=List.filter_eq_self.2 fun f hf=>by simpa using (l7 (hall f hf)).symm
   have e2:r.filter (fun f=>bn f.at_ a)= []:=List.filter_eq_nil_iff.2 fun f hf=>by rw [kD (hall f hf)];simp
   have e3:r.filter (fun f=>bn a f.at_)=r:=List.filter_eq_self.2 hall;rw [hst,zn,hge,e1,e2,e3];simp [Jy]
  |false=>
   by_cases hne:e.at_=a
   ·have hst:fI a x (O,false) e=(O,false):=by simp [fI,hne,nY]
    have hle:bn e.at_ a=false:=by rw [hne];exact nY a
    rw [hst,zl r O h2,hle];simp
   ·have hst:fI a x (O,false) e=(O++ [e],false):=by simp [fI,hl,hne]
    have hle:bn e.at_ a=true:=by
     rcases GD hne with h|h
     ·exact h
     ·rw [hl] at h;cases h
    rw [hst,zl r _ h2,hle];simp
theorem Ok {a:Rf} {x:En} (hx:x.at_=a) {L:List En} (hs:SortG (L.map En.abs)):(AA a x false L).map En.abs=wV (L.map En.abs) a (x.tree,x.uses):=by
 unfold AA;rw [zl L [] hs,Vq,Wj,VU,wV,Ys,Ys];subst hx
 rfl
theorem LF {a:Rf} {x:En} {st:List En × Bool} {e f:En} (h:f∈(fI a x st e).1):f∈st.1∨f=x∨f=e:=by
 have h1: ∀ q:List En,f∈(if e.at_≠a then q++ [e] else q)→f∈q∨f=e:=by
  intro q hq;split at hq
  ·rcases VH.1 hq with hq|hq
   ·exact .inl hq
   ·exact .inr (Vx.1 hq)
  ·exact .inl hq
 unfold fI at h;dsimp only at h;rcases h1 _ h with h|h
 ·split at h
  ·rcases VH.1 h with h|h
   ·exact .inl h
   ·exact .inr (.inl (Vx.1 h))
  ·exact .inl h
 ·exact .inr (.inr h)
theorem zk {a:Rf} {x:En}: ∀ (L:List En) (st:List En × Bool) {f:En},f∈(L.foldl (fI a x) st).1→f∈st.1∨f=x∨f∈L
 | [],_,_,h=> .inl h
 |e::r,st,f,h=>by
  rw [Wy] at h;rcases zk r _ h with h|h|h
  ·rcases LF h with h|h|h
   ·exact .inl h
   ·exact .inr (.inl h)
   ·exact .inr (.inr (h ▸ Vr))
  ·exact .inr (.inl h)
  ·exact .inr (.inr (Vv _ h))
theorem Oj {a:Rf} {x:En} {d:Bool} {L:List En} {f:En} (h:f∈AA a x d L):f=x∨f∈L:=by
 unfold AA Jy at h;split at h
 ·rcases zk L _ h with h|h|h
  ·cases h
  ·exact .inl h
  ·exact .inr h
 ·rcases VH.1 h with h|h
  ·rcases zk L _ h with h|h|h
   ·cases h
   ·exact .inl h
   ·exact .inr h
  ·exact .inl (Vx.1 h)
theorem GP {l:List Int} {fin:Int}: ∀ n∈(bZ (bG bN l) fin).1,wfN n:=by
 have hnum:=v7 l;generalize bG bN l=x at hnum;unfold bZ;split
 ·exact fun _ h=>by cases h
 ·split
  ·exact fun _ h=>by cases h
  ·exact fun _ h=>by cases h
  ·rename_i n p hp;have hwf:=Dg _ _ _ _ _ _ hp (⟨hnum,fun _ h=>by cases h⟩:Wf ⟨x.1,[]⟩);split
   ·exact fun _ h=>by cases h
   ·split
    ·exact fun _ h=>by cases h
    ·exact hwf.2
theorem TQ (b:ByteArray): ∀ n∈(ofP b).1.tree,wfN n:=by
 rw [OP];unfold ofR;split
 ·exact fun _ h=>by cases h
 ·split
  ·exact fun _ h=>by cases h
  ·split
   ·exact fun _ h=>by cases h
   ·have h:=GP (l:=ap (sub b 1 b.size)) (fin:=((sub b 1 b.size).size:Int));generalize bZ (bG bN (ap (sub b 1 b.size))) ((sub b 1 b.size).size:Int)=r at h;obtain ⟨t,a,e⟩:=r;dsimp only at h ⊢;split
    ·exact fun _ h=>by cases h
    ·exact h
theorem Ep (gg gm clock:Nat) (E:List En) (G:Gr) (a:Rf) (b:ByteArray) (R F:List Blk) (w0:World) (hG:GOk R E clock G) (hW:Words w0):
 FnIn Tryz.prog 41 [.pointer (some ⟨gg,0,none⟩),bJ a,.string b] w0 (gB gg gm (E.map En.m) clock++(R++F)) fun v H=>v= .int .i64 (gL G a b).2∧ ∃ E' clock' R',H=gB gg gm (E'.map En.m) clock' ++(R' ++F)∧MSub R R' ∧GOk R' E' clock' (gL G a b).1:=by
 refine bE Tryz.func41 rfl Tryz.ntmps41 rfl ?_;have hV:=fun (w' :World) (H' :List Blk) (hm:Mem w0 w' H')=>(nH a.col a.row w' :aF Tryz.prog 90 [bJ a] w' (.bool (valid a.col a.row)));have hO:=fun (w' :World) (H' :List Blk) (hm:Mem w0 w' H')=>SX b w' (hW.next hm);unfold gB;unfold gL;by_cases hv:a.valid=false
 ·rw [if_pos hv];have hv' :valid a.col a.row=false:=hv;rw [hv'] at hV;repeat' (first|apply ag (f:=90);exact rfl;exact rfl;intro w' hm;exact hV w' _ hm|refine zZK ?_|refine sM fun _=>?_|refine sC ?_ ?_<;>intro hb<;>try omega|refine sCW ?_ ?_<;>intro hb<;>try omega|fail)
  all_goals exact bp eIO rfl rfl mS ⟨rfl,E,clock,R,rfl,MSub.refl _,hG⟩
 rw [if_neg hv];have hv' :valid a.col a.row=true:=by
  have:a.valid=valid a.col a.row:=rfl;rw [this] at hv;simpa using hv
 rw [hv'] at hV;have hlen:=Dt b;have htree:=yK (b:=b);generalize ofP b=r at hO hlen htree;obtain ⟨⟨fm,v,t⟩,at_,e⟩:=r;simp only [ofV,DX] at hO;dsimp only at hlen htree ⊢;by_cases he:e≠0
 ·rw [if_pos he];repeat' (first|apply ag (f:=90);exact rfl;exact rfl;intro w' hm;exact hV w' _ hm|apply aJ (f:=99);exact rfl;exact rfl;intro w' hm;exact hO w' _ hm;rintro _ _ ⟨A,cap,rfl,rfl⟩|refine zZK ?_|refine sM fun _=>?_|refine sC ?_ ?_<;>intro hb<;>try omega|refine sCW ?_ ?_<;>intro hb<;>try omega|fail)
  all_goals exact bp eIO rfl rfl mS ⟨rfl,E,clock,R,rfl,MSub.refl _,hG⟩
 rw [if_neg he];have he0:e=0:=by omega
 subst he0
 cases fm with
 |false=>
  obtain ⟨E',hE',hG'⟩:=hG.del a;rw [if_pos rfl];repeat' (first|apply ag (f:=90);exact rfl;exact rfl;intro w' hm;exact hV w' _ hm|apply aJ (f:=99);exact rfl;exact rfl;intro w' hm;exact hO w' _ hm;rintro _ _ ⟨A,cap,rfl,rfl⟩|refine zZK ?_|refine sM fun _=>?_|refine sC ?_ ?_<;>intro hb<;>try omega|refine sCW ?_ ?_<;>intro hb<;>try omega|fail)
  rename_i g4 g7;refine fa (id:=9) [5] [] [.box gg 141 [.map (some gm)],.box g4 35 (aw a)] (by kernel_rfl) (by kernel_rfl) (by kernel_rfl) mS ?_;repeat' (first|apply dC;(iterate 3 exact rfl);apply eO;exact rfl|apply Lb (enc:=bJ) (t:=139);(iterate 3 exact rfl);exact pK;rw [← hE']|refine zZK ?_|refine sM fun _=>?_|refine sC ?_ ?_<;>intro hb<;>try omega|refine sCW ?_ ?_<;>intro hb<;>try omega|fail)
  all_goals exact bp eIO rfl rfl mS ⟨rfl,E',clock,R,rfl,MSub.refl _,hG'⟩
 |true=>
  have hck:=htree rfl rfl;rw [if_neg (by simp)];have hU:=fun (w' :World) (A:Option Nat) (cap:Nat) (H' :List Blk) (hi:In (.own A 132 11 t.length cap (t.flatMap bu)) H') (hm:Mem w0 w' H')=>SA t (sl A t.length cap) w' (Reads.of_own hm hi) (by omega);have hue:jF t=(fp t,0):=by unfold jF;rw [hck];rfl
  have hul:(fp t).length≤256:=VR (gX t 0) hlen;rw [hue] at hU;repeat' (first|apply ag (f:=90);exact rfl;exact rfl;intro w' hm;exact hV w' _ hm|apply aJ (f:=99);exact rfl;exact rfl;intro w' hm;exact hO w' _ hm;rintro _ _ ⟨A,cap,rfl,rfl⟩|apply aJ (f:=100);exact rfl;exact rfl;intro w' hm;exact hU w' _ _ _ pK hm;rintro _ _ ⟨A2,cap2,rfl,rfl⟩|refine zZK ?_|refine sM fun _=>?_|refine sC ?_ ?_<;>intro hb<;>try omega|refine sCW ?_ ?_<;>intro hb<;>try omega|fail)
  rename_i g4 g7;have hGR:=hG.sub (R' := .own A 132 11 t.length cap (t.flatMap bu):: .own A2 128 6 (fp t).length cap2 ((fp t).flatMap cw)::R) mS;obtain ⟨E',hE',hG'⟩:=hGR.put ⟨a,A.map fun g=>⟨g,0,none⟩,cap,A2.map fun g=>⟨g,0,none⟩,cap2,t,fp t,0⟩ ⟨rdIn.own (A:=A) pK,rdIn.own (A:=A2) pK,by dsimp only;omega,by dsimp only;omega⟩;generalize hck2:(lr a (.agg #[sl A t.length cap,sl A2 (fp t).length cap2]) clock (E.map En.m))=kp;have hE2:E'.map En.m=kp.1:=hck2 ▸ hE';have hG2:GOk _ E' kp.2 (wV G a (t,fp t)):=hck2 ▸ hG';refine fa (id:=14) [9] [] [.box gg 141 [.map (some gm)],.box g4 35 (aw a),.box g7 191 [.bool true,.int .u8 v.kind,.int .i64 v.num,.string v.text,sl A t.length cap]] (by kernel_rfl) (by kernel_rfl) (by kernel_rfl) mS ?_;repeat' (first|apply dC;(iterate 3 exact rfl);apply eO;exact rfl|apply nD (enc:=bJ);(iterate 3 exact rfl);exact pK;rw [hck2,← hE2]|refine zZK ?_|refine sM fun _=>?_|refine sC ?_ ?_<;>intro hb<;>try omega|refine sCW ?_ ?_<;>intro hb<;>try omega|fail)
  all_goals exact bp eIO rfl rfl (H' :=gB gg gm (E'.map En.m) kp.2++((.own A 132 11 t.length cap (t.flatMap bu):: .own A2 128 6 (fp t).length cap2 ((fp t).flatMap cw)::R)++F)) (by unfold gB;simp only [Vz,Vp,Vq];exact mS) ⟨rfl,E',kp.2,_,rfl,mS,hG2⟩
theorem Uk (gg gm clock:Nat) (E:List En) (G:Gr) (a:Rf) (b:ByteArray) (R:List Blk) (w0:World) (hG:GOk R E clock G) (hW:Words w0):
 FnIn Tryz.prog 41 [.pointer (some ⟨gg,0,none⟩),bJ a,.string b] w0 (gB gg gm (E.map En.m) clock++R) fun v H=>v= .int .i64 (gL G a b).2∧ ∃ E' clock' R',H=gB gg gm (E'.map En.m) clock' ++R' ∧MSub R R' ∧GOk R' E' clock' (gL G a b).1:=by
 have h:=Ep gg gm clock E G a b R [] w0 hG hW;simp only [VB] at h;exact h
def iz (K:List Rf) (a:Rf):Nat:=(K.findIdx? fun b=>decide (b=a)).getD 0
theorem uh {K:List Rf} (hn:K.Nodup) {i:Nat} (h:i<K.length):iz K K[i]=i:=by
 unfold iz
 rw [V4.2 ⟨h,by simp,fun j hj=>by
  have hne:K[j]'(by omega)≠K[i]:=fun e=>by
   have:=(Yl hn).1 e;omega
  simpa using hne⟩]
 rfl
def gU (K:List Rf) (E:List (Rf × Rf)) (i:Nat):List Nat:=(E.filter fun x=>decide (iz K x.1=i)).map fun x=>iz K x.2
theorem Jc (K:List Rf) (E:List (Rf × Rf)) (x:Rf × Rf) (i:Nat):gU K (E++ [x]) i=if iz K x.1=i then gU K E i++ [iz K x.2] else gU K E i:=by
 unfold gU;rw [X6,Wj];by_cases h:iz K x.1=i
 ·rw [if_pos h];simp [h]
 ·rw [if_neg h];simp [h]
theorem DQ {α:Type} (L:List α) (p:α→Bool) (d:α):L.filter p=((List.range L.length).filter fun k=>p ((L[k]?).getD d)).map fun k=>(L[k]?).getD d:=by
 have h:L=(List.range L.length).map fun k=>(L[k]?).getD d:=by
  apply List.ext_getElem
  ·simp
  ·intro i h1 h2;simp [h1]
 conv=>lhs;rw [h]
 rw [Ys]
 rfl
theorem G0 {α β:Type} {L:List α} {f:α→List β} {p:β→Bool}:(L.flatMap f).filter p=L.flatMap fun a=>(f a).filter p:=by
 induction L with
 |nil=>rfl
 |cons a l ih=>rw [VE,VE,X6,ih]
theorem GU {α β:Type}: ∀ {L:List α} {f:α→List β} {i:Nat} (h:i<L.length),(∀ j (hj:j<L.length),j≠i→f L[j]= [])→L.flatMap f=f L[i]
 | [],_,_,h,_=>absurd h (Xr _)
 |a::l,f,0,_,hf=>by
  have:l.flatMap f= []:=by
   rw [List.flatMap_eq_nil_iff];intro x hx;obtain ⟨j,hj,rfl⟩:=WM.1 hx;exact hf (j+1) (by simpa using hj) (by omega)
  rw [VE,this,VB];rfl
 |a::l,f,i+1,h,hf=>by
  have h0:f a= []:=hf 0 (by simp) (by omega);have hi:i<l.length:=by simpa using h
  rw [VE,h0,Vq];exact GU hi fun j hj hne=>hf (j+1) (by simpa using hj) (by omega)
theorem Gm {G:Gr} (hG:GrOk G) {i:Nat} (hi:i<G.length):gU (au G) (cF G) i=ax (aP G) i:=by
 have hn:=hG.sort.nodup;have hkl:(au G).length=G.length:=by rw [au,VK]
 have hk: ∀ j (h:j<G.length),(au G)[j]'(by omega)=(G[j]).1:=fun j h=>by simp [au]
 have hidx: ∀ j (h:j<G.length),iz (au G) (G[j]).1=j:=fun j h=>by rw [← hk j h];exact uh hn (by omega)
 unfold gU cF;rw [G0,GU (i:=i) hi fun j hj hne=> ?_]
 ·have h1:(((G.filter fun f=>gC (G[i]).2.2 f.1).map fun f=>((G[i]).1,f.1)).filter fun x=>decide (iz (au G) x.1=i))=(G.filter fun f=>gC (G[i]).2.2 f.1).map fun f=>((G[i]).1,f.1):=by
   rw [List.filter_eq_self];intro x hx;obtain ⟨f,_,rfl⟩:=VM.1 hx;exact decide_eq_true (hidx i hi)
  rw [h1,Xl];have hr:=DQ G (fun f=>gC (G[i]).2.2 f.1) (G[i]);rw [hr,Xl];have hs:ax (aP G) i=(List.range G.length).filter fun k=>kJ G i k:=by simp [ax,aP,hi]
  rw [hs];have hp:((List.range G.length).filter fun k=>gC (G[i]).2.2 ((G[k]?).getD (G[i])).1)=(List.range G.length).filter fun k=>kJ G i k:=by
   apply YS;intro k hk';have hkl' :k<G.length:=VT.1 hk';rw [Vo hkl',XU];have hu:aU G (G[i]).1=(G[i]).2.2:=by
    unfold aU;rw [(l6 hG.sort).2 (show ((G[i]).1,(G[i]).2)∈G from VL hi)];rfl
   have ht:kJ G i k=bH (aU G (G[i]).1) (dU (G[k]).1.col (G[k]).1.row):=by
    unfold kJ;rw [Vo (by omega),Vo (by omega),hk i hi,hk k hkl']
   rw [ht,hu];exact uj (hG.ent _ (VL hi)).rect (qN hG (VM.2 ⟨_,VL hkl',rfl⟩))
  rw [hp];conv=>rhs;rw [← List.map_id ((List.range G.length).filter fun k=>kJ G i k)]
  apply Wu;intro k hk';have hkl' :k<G.length:=VT.1 (Wx.1 hk').1;simp only [Function.comp,Vo hkl',XU,id];exact hidx k hkl'
 ·rw [List.filter_eq_nil_iff];intro x hx;obtain ⟨f,_,rfl⟩:=VM.1 hx;simp only [decide_eq_true_eq];rw [hidx j hj];exact hne
def TokR (i:Nat) (o:Option (Tk × Nat)) (v:Value):Prop:=match o with
 |some (t,n)=>v= .tuple #[.agg (bw { t with at_:=(i:Int) }).toArray,.int .i64 ((i+n:Nat):Int),.bool true]
 |none=> ∃ (t:Tk) (e:Int),v= .tuple #[.agg (bw t).toArray,.int .i64 e,.bool false]
theorem jp {p:Int→Bool} {a:ByteArray} {i:Nat} (h:i<a.size):aK p ((ap a).drop i)=if p (bat a i) then aK p ((ap a).drop (i+1))+1 else 0:=by
 rw [bA h,aK]
theorem Fw {p:Int→Bool} {l:List Int} {n:Nat} (h:n=aK p l) {c:Int} (hc:c∈l.take n):p c=true:=by
 obtain ⟨k,hk,rfl⟩:=WJ hc;rw [VQ] at hk;rw [X9];exact lT l k _ (by omega) (Vo (by omega))
theorem Dj (a:ByteArray) (ha:a.size≤256) (i:Nat) (hi:i<a.size) (hdi:aL (bat a i)=true) (w:World):
 FnAt Tryz.prog 358 [.string a,.int .i64 (i:Int)] w fun v H=>H= []∧TokR i ((mM ((ap a).drop i)).map fun x=>(⟨1,x.1,aB,aZ,0⟩,x.2)) v:=by
 refine aA Tryz.func358 rfl Tryz.ntmps358 rfl ?_;have hl:=az a;have hm:dx=9223372036854775807:=rfl;obtain ⟨W1,hW1⟩: ∃ W1,aK aL ((ap a).drop i)=W1:=⟨_,rfl⟩;have hw0:W1≠0:=by rw [← hW1,jp hi,if_pos hdi];omega
 have hwl:i+W1≤a.size:=by
  have:=cH aL ((ap a).drop i);rw [VS] at this;omega
 obtain ⟨p,hp⟩: ∃ p,cI ((ap a).drop (i+W1))=p:=⟨_,rfl⟩;have hnum:mM ((ap a).drop i)=if 4<p then none else if dx<bP (((ap a).drop i).take W1++((ap a).drop (i+W1+1)).take p++List.replicate (4 - p) 48) 0 then none else some (bP (((ap a).drop i).take W1++((ap a).drop (i+W1+1)).take p++List.replicate (4 - p) 48) 0,if p=0 then W1 else W1+1+p):=by
  unfold mM;simp only [hW1,Xi,hp];by_cases h4:4<p
  ·rw [if_pos (.inr h4),if_pos h4]
  ·rw [if_neg (by omega),if_neg h4]
   rfl
 rw [hnum];clear hnum;have hD:=fun j w=>p7 a (by omega) j w;repeat' (first|refine zZF ?_|refine sM fun _=>?_|refine sC ?_ ?_<;>intro hb<;>try omega|exact cT|fail)
 rename_i g4 g7;refine ay [0,1,4,7] rfl (fun j:Nat=> [(8,.int .i64 ((i+j:Nat):Int))]) (fun _=> [.box g7 339 (bw ⟨1,0,aB,aZ,i⟩),.box g4 339 (bw dY)]) (fun j=>j≤W1∧W1=j+aK aL ((ap a).drop (i+j))) (fun j=>W1 - j) 0 ⟨by omega,by rw [XA,hW1];omega⟩ sB mS ?_;rintro j ⟨hj,hx⟩;by_cases hjw:j<W1
 ·have hji:i+j<a.size:=by omega
  have hdj:aL (bat a (i+j))=true:=by
   rw [jp hji] at hx;split at hx
   ·assumption
   ·omega
  have hx2:W1=(j+1)+aK aL ((ap a).drop (i+(j+1))):=by
   rw [jp hji,if_pos hdj] at hx;rw [← WF i j 1];omega
  have hDj:=fun w=>hD (i+j) w;rw [hdj] at hDj;repeat' (first|apply ag (f:=357);exact rfl;exact rfl;intro w' hm;exact hDj w'|refine zZC ?_|refine sM fun _=>?_|refine sC ?_ ?_<;>intro hb<;>try omega|exact cT|fail)
  exact ⟨j+1,⟨hjw,hx2⟩,by omega,sB,sB,.refl _⟩
 have ejw:j=W1:=by omega
 subst ejw;have hdj:aL (bat a (i+j))=false:=by
  by_cases hji:i+j<a.size
  ·rw [jp hji] at hx;split at hx
   ·omega
   ·rename_i h;simpa using h
  ·rw [ko (by omega)];rfl
 have hDj:=fun w=>hD (i+j) w;rw [hdj] at hDj;have hDk:=fun w=>hD (i+j+1) w;have hp1:i+j<a.size→bat a (i+j)=46→p=aK aL ((ap a).drop (i+j+1)):=fun h1 h2=>by
  rw [← hp,bA h1,h2];rfl
 have hp2:(i+j<a.size→bat a (i+j)≠46)→p=0:=fun h=>by
  rw [← hp];by_cases h1:i+j<a.size
  ·rw [bA h1];exact oW (h h1)
  ·rw [VY (by omega)];rfl
 have hp0:aL (bat a (i+j+1))=false→aK aL ((ap a).drop (i+j+1))=0:=fun h=>by
  by_cases h1:i+j+1<a.size
  ·rw [jp h1,if_neg (by rw [h];simp)]
  ·exact tH (by omega)
 have hpl:p≠0→i+j+1+p≤a.size:=fun h=>by
  by_cases h1:i+j<a.size∧bat a (i+j)=46
  ·have:=hp1 h1.1 h1.2;have h2:=cH aL ((ap a).drop (i+j+1));rw [VS] at h2;omega
  ·exact absurd (hp2 fun h3 h4=>h1 ⟨h3,h4⟩) h
 obtain ⟨E,hE⟩: ∃ E,(if p=0 then j else j+1+p)=E:=⟨_,rfl⟩;repeat' (first|apply ag (d:=20);exact rfl;exact rfl;intro w' hm;exact hDj w'|apply ai (d:=26);exact rfl;apply iD (lo:=i) (hi:=i+j);(iterate 3 exact rfl);exact ⟨by omega,by omega⟩|refine CZ (id:=6) (ι:=ByteArray) (fun pl=> [(0,.string a),(1,.int .i64 (i:Int)),(4,.pointer (some ⟨g4,0,none⟩)),(7,.pointer (some ⟨g7,0,none⟩)),(8,.int .i64 ((i+E:Nat):Int)),(9,.string (sub a i (i+j))),(10,.string pl)]) (fun _=> [.box g7 339 (bw ⟨1,0,aB,aZ,i⟩),.box g4 339 (bw dY)]) (fun pl=>ap pl=((ap a).drop (i+j+1)).take p) ?_ ?_|apply ai (d:=34);exact rfl;apply bk (j:=i+j);exact rfl;exact rfl;omega|apply ag (d:=41);exact rfl;exact rfl;intro w' hm;exact hDk w'|refine zZC ?_|refine sM fun _=>?_|refine sC ?_ ?_<;>intro hb<;>try omega|exact cT|fail)
 ·-- the places
  have hdd:aL (bat a (i+j+1))=true:=by assumption
  have e46:bat a (i+j)=46:=by assumption
  have hpp:=hp1 (by omega) e46;have hp0' :p≠0:=by
   rw [hpp];by_cases h1:i+j+1<a.size
   ·rw [jp h1,if_pos hdd];omega
   ·rw [ko (by omega)] at hdd;simp [aL] at hdd
  rw [if_neg hp0'] at hE;subst hE;refine ay [0,1,4,7,9,10,11] rfl (fun k:Nat=> [(8,.int .i64 ((i+j+1+k:Nat):Int))]) (fun _=> [.box g7 339 (bw ⟨1,0,aB,aZ,i⟩),.box g4 339 (bw dY)]) (fun k=>k≤p∧p=k+aK aL ((ap a).drop (i+j+1+k))) (fun k=>p - k) 0 ⟨by omega,by rw [XA,VD];exact hpp⟩ sB mS ?_;rintro k ⟨hk,hkx⟩;have hpl' :=hpl hp0';by_cases hkp:k<p
  ·have hki:i+j+1+k<a.size:=by omega
   have hdk:aL (bat a (i+j+1+k))=true:=by
    rw [jp hki] at hkx;split at hkx
    ·assumption
    ·omega
   have hkx2:p=(k+1)+aK aL ((ap a).drop (i+j+1+(k+1))):=by
    rw [jp hki,if_pos hdk] at hkx;rw [← WF _ k 1];omega
   have hDl:=fun w=>hD (i+j+1+k) w;rw [hdk] at hDl;repeat' (first|apply ag (d:=48);exact rfl;exact rfl;intro w' hm;exact hDl w'|refine zZC ?_|refine sM fun _=>?_|refine sC ?_ ?_<;>intro hb<;>try omega|exact cT|fail)
   exact ⟨k+1,⟨hkp,hkx2⟩,by omega,sB,sB,.refl _⟩
  have ekp:k=p:=by omega
  subst ekp;have hdk:aL (bat a (i+j+1+k))=false:=by
   by_cases hki:i+j+1+k<a.size
   ·rw [jp hki] at hkx;split at hkx
    ·omega
    ·rename_i h;simpa using h
   ·rw [ko (by omega)];rfl
  have hDl:=fun w=>hD (i+j+1+k) w;rw [hdk] at hDl;have es:ap (sub a (i+j+1) (i+j+1+k))=((ap a).drop (i+j+1)).take k:=by
   rw [fK];congr 1;omega
  rw [show i+(j+1+k)=i+j+1+k by omega];repeat' (first|apply ag (d:=48);exact rfl;exact rfl;intro w' hm;exact hDl w'|apply ai (d:=54);exact rfl;apply iD (lo:=i+j+1) (hi:=i+j+1+k);(iterate 3 exact rfl);exact ⟨by omega,by omega⟩|refine zZC ?_|refine sM fun _=>?_|refine sC ?_ ?_<;>intro hb<;>try omega|exact cT|fail)
  refine dH (sub a (i+j+1) (i+j+1+k)) es sB mS
 ·-- a dot without a digit
  have hdd:aL (bat a (i+j+1))=false:=by assumption
  have hpp:=(hp1 (by omega) (by assumption)).trans (hp0 hdd);rw [if_pos hpp] at hE;subst hE hpp;refine dH aB rfl sB mS
 ·have hpp:=hp2 (fun _=>by assumption);rw [if_pos hpp] at hE;subst hE hpp;refine dH aB rfl sB mS
 ·have hpp:=hp2 (fun h=>by omega);rw [if_pos hpp] at hE;subst hE hpp;refine dH aB rfl sB mS
 rintro pl hpl2;have hps:pl.size=p:=by
  rw [← az,hpl2,VQ,VS,hl];by_cases h:p=0
  ·omega
  ·have:=hpl h;omega
 clear hp1 hp2 hp0 hD hDj hDk;by_cases h4:4<p
 ·rw [if_pos h4];repeat' (first|refine zZC ?_|refine sM fun _=>?_|refine sC ?_ ?_<;>intro hb<;>try omega|exact cT|fail)
  all_goals first
   |omega
   |refine iF (.inl rfl) rfl rfl pK rfl rfl rfl (MSub.nil _) ?_;exact ⟨rfl,⟨1,0,aB,aZ,i⟩,_,rfl⟩
 rw [if_neg h4];repeat' (first|refine zZC ?_|refine sM fun _=>?_|refine sC ?_ ?_<;>intro hb<;>try omega|exact cT|fail)
 all_goals try omega
 refine ay [0,1,4,7,8,9] rfl (fun q:ByteArray × Nat=> [(10,.string q.1)]) (fun _=> [.box g7 339 (bw ⟨1,0,aB,aZ,i⟩),.box g4 339 (bw dY)]) (fun q=>ap q.1=((ap a).drop (i+j+1)).take p++List.replicate q.2 48∧p+q.2≤4∧q.1.size=p+q.2) (fun q=>4 - q.2) (pl,0) ⟨by rw [hpl2];simp,by dsimp only;omega,hps⟩ sB mS ?_;rintro ⟨q,z⟩ ⟨hq1,hq2,hq3⟩;dsimp only at hq1 hq2 hq3 ⊢;by_cases hz:p+z<4
 ·obtain ⟨B,hB⟩: ∃ B,B=q++({ data:= #[48] }:ByteArray):=⟨_,rfl⟩;have hB1:ap B=((ap a).drop (i+j+1)).take p++List.replicate (z+1) 48:=by
   rw [hB,jl,hq1,List.replicate_succ',VC];rfl
  have hB2:B.size=p+(z+1):=by
   rw [hB,XW,hq3];rfl
  repeat' first|apply ai (d:=63);exact rfl;apply lC (c:=B);exact rfl;exact rfl;exact hB.symm;simp only [hq3];have:({ data:= #[48] }:ByteArray).size=1:=rfl;omega|refine zZC ?_|refine sM fun _=>?_|refine sC ?_ ?_<;>intro hb<;>try omega|exact cT|fail
  all_goals first
   |omega
   |exact ⟨(B,z+1),⟨hB1,by dsimp only;omega,hB2⟩,by dsimp only;omega,sB,sB,.refl _⟩
 have ez:z=4 - p:=by omega
 subst ez;obtain ⟨X,hX⟩: ∃ X,X=sub a i (i+j)++q:=⟨_,rfl⟩;obtain ⟨D,hD⟩: ∃ D,D=((ap a).drop i).take j++((ap a).drop (i+j+1)).take p++List.replicate (4 - p) 48:=⟨_,rfl⟩;have hXD:ap X=D:=by
  rw [hX,jl,fK,hq1,hD,← VC];congr 3;omega
 rw [← hD];have hsz1:(sub a i (i+j)).size=j:=by rw [cP a (by omega)];omega
 have hXs:X.size=j+4:=by rw [hX,XW,hsz1,hq3];omega
 have hDl:D.length=j+4:=by rw [← hXD,az,hXs]
 have hdig: ∀ (k:Nat) c,D[k]? =some c→48≤c∧c≤57:=fun k c hk=>by
  have hc:=Xz hk;rw [hD,VH,VH] at hc;refine (fZ c).1 ?_;rcases hc with (hc|hc)|hc
  ·exact Fw hW1.symm hc
  ·by_cases h0:p=0
   ·rw [h0] at hc;simp at hc
   ·obtain ⟨r,hr,hr2⟩:=qb (l:=(ap a).drop (i+j)) (by rw [hp];exact h0);rw [hp] at hr2;have:(ap a).drop (i+j+1)=r:=by rw [← Xi,hr];rfl
    rw [this] at hc;exact Fw hr2 hc
  ·rw [List.eq_of_mem_replicate hc];rfl
 repeat' first|apply ai (d:=66);exact rfl;apply lC (c:=X);exact rfl;exact rfl;exact hX.symm;omega|refine zZC ?_|refine sM fun _=>?_|refine sC ?_ ?_<;>intro hb<;>try omega|exact cT|fail
 all_goals try omega
 have hge:=rG hdig;refine ay [0,1,4,7,8,12] rfl (fun k:Nat=> [(13,.int .i64 (k:Int))]) (fun k=> [.box g7 339 (bw ⟨1,bP (D.take k) 0,aB,aZ,i⟩),.box g4 339 (bw dY)]) (fun k=>k≤j+4∧bP (D.take k) 0≤dx) (fun k=>j+4 - k) 0 ⟨by omega,by rw [WP];decide⟩ sB mS ?_;rintro k ⟨hk1,hk2⟩;have hgk:=hge k;by_cases hkl:k<j+4
 ·obtain ⟨c,hc⟩: ∃ c,D[k]? =some c:=⟨_,Vo (by omega)⟩;have hcd:=hdig k c hc;have hbc:bat X k=c:=by
   have:=iZ (a:=X) (i:=k) (by omega);rw [hXD,hc] at this;exact (Option.some.inj this).symm
  have hnx:=yQ hc;have hgk1:=hge (k+1);obtain ⟨V,hV⟩: ∃ V,bP (D.take k) 0=V:=⟨_,rfl⟩;rw [hV] at hk2 hgk hnx ⊢;have hq10:IntKind.i64.wrap ((9223372036854775807 - (c - 48)).tdiv 10)=(9223372036854775807 - (c - 48)) / 10:=by
   rw [YN (by omega)];exact I64.wrap ⟨by omega,by omega⟩
  rw [show bw ⟨1,V,aB,aZ,i⟩= [.int .u8 1,.int .i64 V,.string aB,.int .i64 0,.int .i64 0,.int .i64 0,.int .i64 0,.int .i64 (i:Int)] from rfl];repeat' (first|apply ai (d:=75);exact rfl;apply bk (j:=k);exact rfl;exact rfl;omega|rw [hbc]|apply ai (d:=76);exact rfl;apply fj (c:=c - 48);exact rfl;exact rfl;exact gG (by omega) (by omega)|apply ai (d:=77);exact rfl;apply dD (c:=c - 48);exact rfl;exact I64.wrap ⟨by omega,by omega⟩|apply ai (d:=81);exact rfl;apply Bi;exact rfl;exact rfl;exact ⟨by omega,by omega⟩|apply ai (d:=82);exact rfl;apply ku;exact rfl;exact rfl;exact (by decide);exact hq10|apply ai (d:=87);exact rfl;apply Bk;exact rfl;exact rfl;exact ⟨by omega,by omega⟩|apply ai (d:=89);exact rfl;apply mC;exact rfl;exact rfl;exact ⟨by omega,by omega⟩|refine zZC ?_|refine sM fun _=>?_|refine sC ?_ ?_<;>intro hb<;>try omega|exact cT|fail)
  all_goals first
   |rw [if_pos (show dx<bP D 0 by omega)];refine iF (.inl rfl) rfl rfl pK rfl rfl rfl (MSub.nil _) ?_;exact ⟨rfl,⟨1,V,aB,aZ,i⟩,_,rfl⟩
   | (have hle : 10 * V + (c - 48) ≤ dx := (by omega)
      rw [← hnx] at hle;refine ⟨k+1,⟨by omega,hle⟩,by omega,sB,sB,?_⟩;rw [hnx];exact mS)
 ·have ek:k=j+4:=by omega
  subst ek;rw [Wl (by omega)] at hk2 hgk ⊢;repeat' (first|refine zZC ?_|refine sM fun _=>?_|refine sC ?_ ?_<;>intro hb<;>try omega|exact cT|fail)
  all_goals first
   |omega
   |rw [if_neg (by omega),hE];refine iF (.inl rfl) rfl rfl pK rfl rfl rfl (MSub.nil _) ?_;exact ⟨rfl,rfl⟩
def mN {κ:Type} (K:List κ) (j:Nat):List (κ × Value × Nat):=(K.zipIdx j).map fun x=>(x.1,.int .i64 ((x.2:Nat):Int),x.2)
def iR {κ:Type} (K:List κ):List (κ × Value × Nat):=mN K 0
theorem jt {κ:Type} (a:κ) (K:List κ) (j:Nat):mN (a::K) j=(a,.int .i64 ((j:Nat):Int),j)::mN K (j+1):=by simp [mN,YE]
theorem ww {κ:Type} (a:κ): ∀ (K:List κ) (j:Nat),mN (K++ [a]) j=mN K j++ [(a,.int .i64 ((j+K.length:Nat):Int),j+K.length)]
 | [],j=>rfl
 |b::K,j=>by
  rw [Vp,jt,jt,ww a K (j+1),Vp,Vw,show j+1+K.length=j+(K.length+1) by omega]
theorem l8 {κ:Type} [DecidableEq κ] (a:κ): ∀ (K:List κ) (j i:Nat),a∉K→co a (mN K j) i=none
 | [],_,_,_=>rfl
 |b::K,j,i,h=>by
  rw [jt,co,if_neg (fun e=>h (by rw [e];exact Vr))];exact l8 a K _ _ (fun hs=>h (Vv _ hs))
theorem vw {κ:Type} [DecidableEq κ]: ∀ (K:List κ) (p j i:Nat) (h:p<K.length),K.Nodup→co K[p] (mN K j) i=some (i+p,.int .i64 ((j+p:Nat):Int))
 |b::K,0,j,i,_,_=>by
  rw [jt,co];exact if_pos rfl
 |b::K,p+1,j,i,h,hn=>by
  rw [Xe] at hn;have hp:p<K.length:=Yw h;rw [List.getElem_cons_succ,jt,co,if_neg (fun (e:K[p]=b)=>hn.1 (e ▸ VL hp)),vw K p (j+1) (i+1) hp hn.2,show i+1+p=i+(p+1) by omega,show j+1+p=j+(p+1) by omega]
theorem Kt {κ:Type} [DecidableEq κ] {K:List κ} {a:κ} (h:a∉K):lr a (.int .i64 ((K.length:Nat):Int)) K.length (iR K)=(iR (K++ [a]),K.length+1):=by
 unfold lr iR;rw [l8 a K 0 0 h,ww,VD]
theorem y4 {κ:Type} [DecidableEq κ] {K:List κ} (hn:K.Nodup) {p:Nat} (h:p<K.length) (z:Value):(match co K[p] (iR K) 0 with|some (_,v)=>v|none=>z)= .int .i64 ((p:Nat):Int):=by
 unfold iR;rw [vw K p 0 0 h hn,VD]
theorem y5 {κ:Type} [DecidableEq κ] {K:List κ} (hn:K.Nodup) {p:Nat} (h:p<K.length) (z:Value):(match co K[p] (iR K) 0 with|some (_,v)=>Value.tuple #[v,.bool true]|none=> .tuple #[z,.bool false])= .tuple #[.int .i64 ((p:Nat):Int),.bool true]:=by
 unfold iR;rw [vw K p 0 0 h hn,VD]
theorem wz {κ:Type} [DecidableEq κ] {K:List κ} {a:κ} (h:a∉K) (z:Value):(match co a (iR K) 0 with|some (_,v)=>Value.tuple #[v,.bool true]|none=> .tuple #[z,.bool false])= .tuple #[z,.bool false]:=by
 unfold iR;rw [l8 a K 0 0 h]
def jq (K:List Rf) (i:Nat):Rf:=(K[i]?).getD ⟨0,0⟩
def bQ (K:List Rf) (l:List Nat):List Rf:=l.map (jq K)
theorem lW {K:List Rf} {i:Nat} (h:i<K.length):jq K i=K[i]:=by simp [jq,h]
theorem cQ (K:List Rf) (l:List Nat):(bQ K l).length=l.length:=by simp [bQ]
theorem lG (K:List Rf) (l:List Nat) (i:Nat):bQ K (l++ [i])=bQ K l++ [jq K i]:=by simp [bQ]
theorem gZ {n:Nat} (b:Nat→Bool):(List.range (n+1)).filter b=if b n=true then (List.range n).filter b++ [n] else (List.range n).filter b:=by
 rw [XP,X6,XC];split<;>simp
theorem Mv {G:Gr} (hG:GrOk G):(List.range G.length).map (gU (au G) (cF G))=aP G:=by
 unfold aP;refine Wu fun i hi=> ?_;have hi:=VT.1 hi;rw [Gm hG hi];unfold ax aP;rw [VG,V7 hi]
 rfl
noncomputable def onB (X:Nx) (v:Nat):Bool:= @decide (onC X v) (Classical.propDecidable _)
noncomputable def uD (X:Nx) (v:Nat):Bool:= @decide (fM X v) (Classical.propDecidable _)
theorem Ky {X:Nx} {v:Nat}:onB X v=true↔onC X v:=by unfold onB;exact @decide_eq_true_iff _ (Classical.propDecidable _)
theorem vO {X:Nx} {v:Nat}:uD X v=true↔fM X v:=by unfold uD;exact @decide_eq_true_iff _ (Classical.propDecidable _)
noncomputable def Pa (X:Nx):List Nat:=(List.range X.length).filter (onB X)
noncomputable def zj (X:Nx):List Nat:=(List.range X.length).filter fun v=> !uD X v
theorem O9 {X:Nx} {l:List Nat} (ha:l.Pairwise (· < ·)) (hm: ∀ v,v∈l↔v<X.length∧onC X v):l=Pa X:=
 JJ ha fun v=>by rw [hm,Ky]
theorem Sy {G:Gr} {i:Nat}:aQ G G.length i i=onB (aP G) i:=by
 rw [V3,yZ,Ky]
theorem CJ {G:Gr} {i:Nat}:(aQ G G.length i i||(List.range G.length).any fun k=>aQ G G.length i k && aQ G G.length k k)=uD (aP G) i:=by
 rw [V3,Hq,vO]
theorem MN (X:Nx):(zj X).Pairwise (· < ·):=u7 _ _
theorem oz {X:Nx} {i:Nat}:i∈zj X↔i<X.length∧ ¬ fM X i:=by
 unfold zj;rw [Wx,VT,XO,← Bool.not_eq_true,vO]
theorem I7 {G:Gr}:SubN (aQ G G.length) G.length (zj (aP G)) (df (aP G) (zj (aP G))):=
 Mh (fun i k=>gz) (MN _) (fun i hi=>by have:=(oz.1 hi).1;rwa [di] at this) (fun i hi=>(oz.1 hi).2) fun i hi k hk=>oz.2 ⟨tU i k hk,Gj (oz.1 hi).2 hk⟩
structure Et where
 at_:Rf
 input:ByteArray
def rK (e:Et):List Value:= [.int .i64 e.at_.col,.int .i64 e.at_.row,.string e.input]
theorem lJ (e:Et):(rK e).length=3:=rfl
def lz (b:Option Rf) (e:Et):Int:=if e.at_.valid=false then 3 else if (match b with|some p=>bn p e.at_|none=>true)=false then 12 else if e.input=aB then 2 else (ofP e.input).2.2
def gy:Nat→Option Rf→List Et→Int × Int
 |_,_,[]=>(0,0)
 |i,b,e::r=>if lz b e≠0 then ((i:Int),lz b e) else gy (i+1) (some e.at_) r
def iY (L:List Et):Int × Int:=gy 0 none L
def kH (L:List Et) (i:Nat):Option Rf:=if i=0 then none else (L[i - 1]?).map Et.at_
theorem AL (L:List Et) (tv:Value) (w:World) (ht:Reads w tv L.length (L.flatMap rK)) (hlen:L.length≤1000000) (hW:Words w):
 aF Tryz.prog 88 [tv] w (.tuple #[.int .i64 (iY L).1,.int .i64 (iY L).2]):=by
 obtain ⟨Al,cl,rfl,hl1,hl2,hl3⟩:=ht;refine aA Tryz.func88 rfl Tryz.ntmps88 rfl ?_;repeat' (first|refine zZB ?_|refine sM fun _=>?_|refine sC ?_ ?_<;>intro hb<;>try omega|fail)
 refine ay [0,2,3,9,10] rfl (fun i:Nat=> [(11,.int .i64 (i:Int))]) (fun _=> []) (fun i=>i≤L.length∧iY L=gy i (kH L i) (L.drop i)) (fun i=>L.length - i) 0 ⟨by omega,rfl⟩ sB (.refl _) ?_;rintro i ⟨hi,hck⟩;by_cases hlt:i<L.length
 ·obtain ⟨gl,ol,rfl,hrl⟩:=hl3 (by omega);have he:=hrl.elem lJ i hlt;have hprev: ∀ h:0<i,Ro w gl (ol+(i - 1)*3) (rK L[i - 1]):=fun h=>hrl.elem lJ (i - 1) (by omega);have hbef: ∀ h:0<i,kH L i=some L[i - 1].at_:=fun h=>by unfold kH;rw [if_neg (by omega),Vo (by omega)];rfl
  have hbef0:i=0→kH L i=none:=fun h=>by unfold kH;rw [if_pos h]
  have hnext:kH L (i+1)=some L[i].at_:=by unfold kH;rw [if_neg (by omega),X5,Vo hlt];rfl
  rw [Vy hlt,gy,← hnext] at hck;generalize L[i]=e at he hck;have hV: ∀ w',aF Tryz.prog 90 [.agg (aw e.at_).toArray] w' (.bool e.at_.valid):=fun w' =>nH e.at_.col e.at_.row w';have hO:=fun (w' :World) (H' :List Blk) (hm:Mem w w' H')=>SX e.input w' (hW.next hm);by_cases h0:0<i
  ·have hp:=hprev h0;rw [hbef h0] at hck;generalize L[i - 1]=b at hp hck;have hL:=fun w' =>SI b.at_ e.at_ w';unfold lz at hck;simp only at hck;have hofV: ∀ (A:Option Nat) (cap:Nat),ofV A cap (ofP e.input)= .tuple #[.agg (DX (ofP e.input).1 (sl A (ofP e.input).1.tree.length cap)).toArray,.int .i64 (ofP e.input).2.1,.int .i64 (ofP e.input).2.2]:=fun _ _=>rfl;simp only [hofV] at hO;generalize ofP e.input=o at hO hck;obtain ⟨⟨f1,f2,f3⟩,oa,oe⟩:=o;simp only [DX] at hO;simp only at hck;generalize e.at_.valid=vd at hV hck;generalize bn b.at_ e.at_=ls at hL hck;repeat' (first|apply ai (d:=14);exact rfl;apply aa;exact rfl;exact rfl;exact hlt|apply ai (d:=15);exact rfl;apply bC;exact rfl;exact he;exact rfl|apply dC (d:=29);(iterate 3 exact rfl);apply cZ (o:=ol+(i - 1)*3) (off:=0) hp (ys:=aw b.at_);(iterate 3 exact rfl)|apply ag;exact rfl;exact rfl;intro w hm;exact hV w|apply (lO (id:=6) [11] []);kernel_rfl;kernel_rfl;kernel_rfl|apply dC;(iterate 3 exact rfl);apply aa (j:=i - 1);exact rfl;exact rfl;omega|apply ag (f:=121);exact rfl;exact rfl;intro w' hm;exact hL w'|apply aJ (f:=99);exact rfl;exact rfl;intro w' hm;exact hO w' _ hm;rintro _ _ ⟨A,cap,rfl,rfl⟩|refine zZI ?_|refine sM fun _=>?_|refine sC ?_ ?_<;>intro hb<;>try omega|refine sCW ?_ ?_<;>intro hb<;>try omega|fail)
   all_goals clear hofV
   all_goals first
    |refine dm eIO rfl rfl rfl (.nil _) ?_;rw [hck];simp_all [aB];done
    | (refine ⟨i + 1, ⟨hlt, ?_⟩, by omega, ?_, ?_, .nil _⟩
       ·rw [hck];simp_all [aB]
       ·exact sB
       ·exact sB)
  ·have h00:i=0:=by omega
   rw [hbef0 h00] at hck;unfold lz at hck;simp only at hck;have hofV: ∀ (A:Option Nat) (cap:Nat),ofV A cap (ofP e.input)= .tuple #[.agg (DX (ofP e.input).1 (sl A (ofP e.input).1.tree.length cap)).toArray,.int .i64 (ofP e.input).2.1,.int .i64 (ofP e.input).2.2]:=fun _ _=>rfl;simp only [hofV] at hO;generalize ofP e.input=o at hO hck;obtain ⟨⟨f1,f2,f3⟩,oa,oe⟩:=o;simp only [DX] at hO;simp only at hck;generalize e.at_.valid=vd at hV hck;repeat' (first|apply ai (d:=14);exact rfl;apply aa;exact rfl;exact rfl;exact hlt|apply ai (d:=15);exact rfl;apply bC;exact rfl;exact he;exact rfl|apply ag;exact rfl;exact rfl;intro w hm;exact hV w|apply (lO (id:=6) [11] []);kernel_rfl;kernel_rfl;kernel_rfl|apply aJ (f:=99);exact rfl;exact rfl;intro w' hm;exact hO w' _ hm;rintro _ _ ⟨A,cap,rfl,rfl⟩|refine zZI ?_|refine sM fun _=>?_|refine sC ?_ ?_<;>intro hb<;>try omega|refine sCW ?_ ?_<;>intro hb<;>try omega|fail)
   all_goals clear hofV
   all_goals first
    |refine dm eIO rfl rfl rfl (.nil _) ?_;rw [hck];simp_all [aB];done
    | (refine ⟨i + 1, ⟨hlt, ?_⟩, by omega, ?_, ?_, .nil _⟩
       ·rw [hck];simp_all [aB]
       ·exact sB
       ·exact sB)
 ·have e2:i=L.length:=by omega
  subst e2;rw [V8,gy] at hck;repeat' (first|refine zZB ?_|refine sM fun _=>?_|refine sC ?_ ?_<;>intro hb<;>try omega|fail)
  all_goals (refine dm eIO rfl rfl rfl (.nil _) ?_;rw [hck])
def AJ:Gr→List Et→Option Gr × Int
 |G,[]=>(some G,0)
 |G,e::r=>if (gL G e.at_ e.input).2≠0 then (none,(gL G e.at_ e.input).2) else AJ (gL G e.at_ e.input).1 r
def Gn (L:List Et):Option Gr × Int:=if (iY L).2≠0 then (none,(iY L).2) else AJ [] L
def Vm (r:Option Gr × Int) (v:Value) (H:List Blk):Prop:=match r with
 |(none,e)=>v= .tuple #[.pointer none,.int .i64 e]∧H= []
 |(some G,_)=> ∃ gg gm E clock R,v= .tuple #[.pointer (some ⟨gg,0,none⟩),.int .i64 0]∧H=gB gg gm (E.map En.m) clock++R∧GOk R E clock G
theorem Qf (L:List Et) (tv:Value) (w:World) (ht:Reads w tv L.length (L.flatMap rK)) (hlen:L.length≤1000000) (hW:Words w):
 FnAt Tryz.prog 33 [tv] w (Vm (Gn L)):=by
 have hC:=fun (w' :World) (H:List Blk) (hm:Mem w w' H)=>AL L tv w' (ht.of_w0 hm) hlen (hW.next hm);obtain ⟨Al,cl,rfl,hl1,hl2,hl3⟩:=ht;refine aA Tryz.func33 rfl Tryz.ntmps33 rfl ?_;unfold Gn;generalize iY L=c at hC;obtain ⟨ci,ce⟩:=c;dsimp only at hC ⊢;by_cases hce:ce≠0
 ·rw [if_pos hce];repeat' (first|apply ag (f:=88);exact rfl;exact rfl;intro w' hm;exact hC w' _ hm|refine zZB ?_|refine sM fun _=>?_|refine sC ?_ ?_<;>intro hb<;>try omega|fail)
  all_goals exact dm eIO rfl rfl rfl (.nil _) ⟨rfl,rfl⟩
 rw [if_neg hce];have hce0:ce=0:=by omega
 subst hce0;repeat' (first|apply ag (f:=88);exact rfl;exact rfl;intro w' hm;exact hC w' _ hm|apply lM (enc:=bJ);exact rfl;intro gm|refine zZB ?_|refine sM fun _=>?_|refine sC ?_ ?_<;>intro hb<;>try omega|fail)
 rename_i gg;refine ay [6,21,22] rfl (fun x:Nat × List En × Nat × Gr × List Blk=> [(23,.int .i64 (x.1:Int))]) (fun x=>gB gg gm (x.2.1.map En.m) x.2.2.1++x.2.2.2.2) (fun x=>x.1≤L.length∧GOk x.2.2.2.2 x.2.1 x.2.2.1 x.2.2.2.1∧AJ [] L=AJ x.2.2.2.1 (L.drop x.1)) (fun x=>L.length - x.1) (0,[],0,[],[]) ⟨by simp,RV [],rfl⟩ sB (by unfold gB;exact mS) ?_;rintro ⟨i,E,clock,G,R⟩ ⟨hi,hG,hnew⟩;dsimp only at hi hG hnew ⊢;by_cases hlt:i<L.length
 ·obtain ⟨gl,ol,rfl,hrl⟩:=hl3 (by omega);have he:=hrl.elem lJ i hlt;rw [Vy hlt,AJ] at hnew;generalize L[i]=e at he hnew;have hS:=Uk gg gm clock E G e.at_ e.input R w hG hW;generalize gL G e.at_ e.input=sg at hS hnew;obtain ⟨G',se⟩:=sg;dsimp only at hS hnew;repeat' (first|apply ai (d:=25);exact rfl;apply aa;exact rfl;exact rfl;exact hlt|apply ai (d:=26);exact rfl;apply bC;exact rfl;exact he;exact rfl|apply ak (f:=41);exact rfl;exact rfl;exact FnIn.msub hS (by unfold gB;exact mS);rintro _ _ ⟨rfl,E',clock',R',rfl,hsub,hG'⟩|refine zZA ?_|refine sM fun _=>?_|refine sC ?_ ?_<;>intro hb<;>try omega|fail)
  ·rw [hnew,if_pos (by assumption)];exact dm eIO rfl rfl rfl (.nil _) ⟨rfl,rfl⟩
  ·rw [if_neg (by assumption)] at hnew;refine ⟨(i+1,E',clock',G',R'),⟨hlt,hG',hnew⟩,(by dsimp only;omega),sB,sB,?_⟩;unfold gB;exact mS
 ·have e2:i=L.length:=by omega
  subst e2;rw [V8,AJ] at hnew;rw [hnew];repeat' (first|refine zZB ?_|refine sM fun _=>?_|refine sC ?_ ?_<;>intro hb<;>try omega|fail)
  all_goals exact dm eIO rfl rfl rfl (MSub.refl _) ⟨gg,gm,E,clock,R,rfl,rfl,hG⟩
def inA:ByteArray:=⟨#[53]⟩
def inB:ByteArray:=⟨#[61,65,49,43,66,49]⟩
def inC:ByteArray:=⟨#[61,68,83,85,77,40,66,49,58,66,51,41]⟩
def inD:ByteArray:=⟨#[61,73,70,69,82,82,79,82,40,65,51,44,48,41,43,49]⟩
def exL:List Et:= [⟨⟨1,1⟩,inA⟩,⟨⟨1,2⟩,inB⟩,⟨⟨1,3⟩,inC⟩,⟨⟨1,4⟩,inD⟩]
def TJ (c r:Int):Nd:=⟨2,bX,dU c r,0,0,0⟩
def exG:Gr:= [
 (⟨1,2⟩,[TJ 1 1,TJ 2 1,eW 6 1],[⟨dU 1 1, -1,0⟩,⟨dU 2 1, -1,0⟩]),
 (⟨1,3⟩,[⟨3,bX,⟨2,1,2,3⟩,0,0,0⟩,⟨7,bX,aZ,0,46,1⟩],[⟨⟨2,1,2,3⟩,1,46⟩]),
 (⟨1,4⟩,[TJ 1 3,⟨1,⟨1,0,aB⟩,aZ,0,0,0⟩,⟨7,bX,aZ,0,25,2⟩,⟨1,⟨1,10000,aB⟩,aZ,0,0,0⟩,eW 6 1],[⟨dU 1 3, -1,0⟩])]
theorem PB:Gn exL=(some exG,0):=by decide+kernel
theorem DS:GrOk exG:=by
 have h: ∀ (L:List Et) (G:Gr),GrOk G→ ∀ G',AJ G L=(some G',0)→GrOk G' :=by
  intro L
  induction L with
  |nil=>intro G hG G' h;cases h;exact hG
  |cons e r ih=>
   intro G hG G' h;rw [AJ] at h;split at h
   ·cases h
   ·exact ih _ (hG.set _ _) G' h
 have h2:=PB;unfold Gn at h2;split at h2
 ·cases h2
 ·exact h exL [] ze exG h2
theorem uG {a:ByteArray} {i:Nat} (h:a.size≤i):(ap a).drop i= []:=VY (by rw [az];exact h)
theorem IE (a:ByteArray) (ha:a.size≤256) (i:Nat) (hi:i<a.size) (w:World):
 FnAt Tryz.prog 359 [.string a,.int .i64 (i:Int)] w fun v H=>H= []∧TokR i ((mD ((ap a).drop (i+1))).map fun x=>(⟨2,0,mkB x.1,aZ,0⟩,x.2+1)) v:=by
 refine aA Tryz.func359 rfl Tryz.ntmps359 rfl ?_;have hl:=az a;obtain ⟨X,hX⟩: ∃ X,mD ((ap a).drop (i+1))=X:=⟨_,rfl⟩;rw [hX];repeat' (first|refine zZC ?_|refine sM fun _=>?_|refine sC ?_ ?_<;>intro hb<;>try omega|fail)
 rename_i g4 g7;refine ay [0,1,4,7] rfl (fun x:Nat × ByteArray=> [(8,.int .i64 (x.1:Int))]) (fun x=> [.box g7 339 (bw ⟨2,0,x.2,aZ,i⟩),.box g4 339 (bw dY)]) (fun x=>i+1≤x.1∧x.1≤a.size∧x.2.size≤x.1∧X=(mD ((ap a).drop x.1)).map fun y=>(ap x.2++y.1,y.2+(x.1 - (i+1)))) (fun x=>a.size - x.1) (i+1,aB) ⟨VA _,hi,Vt _,by rw [hX];cases X<;>simp [zb]⟩ sB mS ?_;rintro ⟨k,T⟩ ⟨hk1,hk2,hT,hXk⟩;dsimp only at hk1 hk2 hT hXk ⊢;rw [show bw ⟨2,0,T,aZ,i⟩= [.int .u8 2,.int .i64 0,.string T,.int .i64 0,.int .i64 0,.int .i64 0,.int .i64 0,.int .i64 (i:Int)] from rfl];by_cases hend:k=a.size
 ·subst hend;rw [uG (VA _)] at hXk;simp only [mD,YX] at hXk;subst hXk;repeat' (first|refine zZC ?_|refine sM fun _=>?_|refine sC ?_ ?_<;>intro hb<;>try omega|fail)
  all_goals first
   |omega
   |(refine dz ?_);exact ⟨rfl,⟨2,0,T,aZ,i⟩,_,rfl⟩
 have hlt:k<a.size:=by omega
 rw [bA hlt,mD.eq_def] at hXk;dsimp only at hXk;obtain ⟨T1,hT1⟩: ∃ T1,T1=T++sub a k (k+1):=⟨_,rfl⟩;obtain ⟨T2,hT2⟩: ∃ T2,T2=T++({ data:= #[34] }:ByteArray):=⟨_,rfl⟩;have hs1:(sub a k (k+1)).size=1:=by rw [cP a (by omega)];omega
 have hs2:({ data:= #[34] }:ByteArray).size=1:=rfl;have hT1s:T1.size=T.size+1:=by rw [hT1,XW,hs1]
 have hT2s:T2.size=T.size+1:=by rw [hT2,XW,hs2]
 have hT1i:ap T1=ap T++ [bat a k]:=by rw [hT1,jl,fK,bA hlt,show k+1 - k=1 by omega];rfl
 have hT2i:ap T2=ap T++ [34]:=by rw [hT2,jl];rfl
 repeat' first|refine fa (id:=6) [9] [1] [Blk.box g4 339 (bw dY)] (by kernel_rfl) (by kernel_rfl) (by kernel_rfl) mS ?_|apply ai;exact rfl;apply bk (j:=k);exact rfl;exact rfl;omega|apply ai;exact rfl;apply bk (j:=k+1);exact rfl;exact rfl;omega|apply dC (d:=29);(iterate 3 exact rfl);apply iD (lo:=k) (hi:=k+1);(iterate 3 exact rfl);exact ⟨by omega,by omega⟩|apply dC (d:=30);(iterate 3 exact rfl);apply lC (c:=T1);exact rfl;exact rfl;exact hT1.symm;omega|apply ai (d:=46);exact rfl;apply lC (c:=T2);exact rfl;exact rfl;exact hT2.symm;omega|refine sT ?_|refine sS ?_|refine sW ?_|refine sT2 ?_|refine sW2 ?_|refine sN ?_|refine sWN ?_|refine sM fun _=>?_|refine sC ?_ ?_<;>intro hb<;>try omega|refine sCW ?_ ?_<;>intro hb<;>try omega|fail
 ·rw [if_pos (by assumption),Yi] at hXk;refine ⟨(k+1,T1),⟨by dsimp only;omega,hlt,by dsimp only;omega,?_⟩,by dsimp only;omega,sB,sB,by exact mS⟩;rw [hXk];congr 1;funext y;simp only [Function.comp,hT1i,VC,Yy];congr 1;omega
 ·have h34:bat a (k+1)=34:=by assumption
  rw [if_neg (by assumption),bA (by omega),h34] at hXk;simp only [if_true,Yi] at hXk;refine ⟨(k+1+1,T2),⟨by dsimp only;omega,by dsimp only;omega,by dsimp only;omega,?_⟩,by dsimp only;omega,sB,sB,by exact mS⟩;rw [hXk];congr 1;funext y;simp only [Function.comp,hT2i,VC,Yy];congr 1;omega
 ·have h34: ¬ bat a (k+1)=34:=by assumption
  rw [if_neg (by assumption),bA (by omega)] at hXk;simp only [if_neg h34,Wq,VB] at hXk;subst hXk;refine dz ?_;refine ⟨rfl,?_⟩;simp only [Wq,TokR,nW];rw [show i+(1+(k - (i+1))+1)=k+1 by omega]
  rfl
 ·rw [if_neg (by assumption),uG (by omega)] at hXk;simp only [Wq,VB] at hXk;subst hXk;refine dz ?_;refine ⟨rfl,?_⟩;simp only [Wq,TokR,nW];rw [show i+(1+(k - (i+1))+1)=k+1 by omega]
  rfl
theorem GOk.set_to {R:List Blk} {E:List En} {clock:Nat} {G:Gr} (h:GOk R E clock G) (gg gm:Nat) (F:List Blk) {H:List Blk} (hs:MSub (F++(gB gg gm (E.map En.m) clock++R)) H) {w0:World} (hW:Words w0) {c:Rf} {i:ByteArray} {G' :Gr} {e:Int} (he:gL G c i=(G',e)):
 FnIn Tryz.prog 41 [.pointer (some ⟨gg,0,none⟩),bJ c,.string i] w0 H fun v H' =>v= .int .i64 e∧ ∃ E' clock' R',H' =F++(gB gg gm (E'.map En.m) clock' ++R')∧GOk R' E' clock' G' :=by
 have h1:=Ep gg gm clock E G c i R F w0 h hW;rw [he] at h1;have hp: ∀ (A B:List Blk),(A++(B++F)).Perm (F++(A++B)):=fun A B=>by
  rw [← VC];exact VV
 refine (h1.msub (MSub.trans (MSub.of_perm (hp _ _).symm) hs)).re ?_;rintro v H' ⟨hv,E',clock',R',rfl,_,hG⟩;exact ⟨_,MSub.of_perm (hp _ _),hv,E',clock',R',rfl,hG⟩
theorem JX (w:World):FnAt Tryz.prog 65 [] w fun v H=> ∃ g,v= .slice (some ⟨g,0,none⟩) 4 4∧H= [.own (some g) 153 3 4 4 (exL.flatMap rK)]:=by
 refine aA Tryz.func65 rfl Tryz.ntmps65 rfl ?_;repeat' (first|refine zZB ?_|refine sM fun _=>?_|refine sC ?_ ?_<;>intro hb<;>try omega|fail)
 all_goals exact bp eIO rfl rfl (MSub.refl _) ⟨_,rfl,rfl⟩
end Go.SL
namespace Go.SL
open Go Go.RowKit
section
variable {P:Program} {ops:Array Oper} {es ps:List Nat} {C:World→Prop}
theorem wN {Q:Act→World→Prop} {i:Nat} {oi:Oper} (hi:ops[i]? =some oi) (hsel: ∀ (j:Nat) (o:Oper) cs b,ops[j]? =some o→o.op≠ .select cs b)
 (hnb: ∀ x∈es,∀ y,y∈es∨y∈ps→x≠y→(x=i∨y=i)→xw ops x y):
 ∀ (f:Nat) (L:Array Bool) (a:Act) (w:World),ClosedL ops L→C w→
  (∀ j oj,ops[j]? =some oj→j≠i→L.getD j true=false→(∀ e∈oj.after,Region.binds .any e=true→e.on≠i)→oi.apart ops oj=true)→
  i∈Region.ready .any ops L→EOp P ops es ps C (AnyE P ops es ps C Q f (L.setIfInBounds i true)) i oi a w→AnyE P ops es ps C Q (f+1) L a w
 |0,L,a,w,hcl,hC,_,hr,hy=>⟨hC,fun h=>(by rw [h] at hr;cases hr),fun j hj=>by
   by_cases hji:j=i
   ·subst hji;exact ⟨oi,hi,hy⟩
   ·exfalso;have hne:=ready_mono hj hji;have hE: ∃ a' w',AnyE P ops es ps C Q 0 (L.setIfInBounds i true) a' w' :=by
     cases hy with
     |pass _ hk=>exact ⟨_,_,hk⟩
     |quiet _ _ _ _ _ hk=>exact ⟨_,_,hk⟩
     |eff _ _ hk=>obtain ⟨v,w',h⟩:=hk.ex;exact ⟨_,_,h⟩
    obtain ⟨a',w',_,h0,_⟩:=hE;rw [h0] at hne;cases hne⟩
 |f+1,L,a,w,hcl,hC,hfree,hr,hy=>⟨hC,fun h=>(by rw [h] at hr;cases hr),fun j hj=>by
   by_cases hji:j=i
   ·subst hji;exact ⟨oi,hi,hy⟩
   ·have hj' :=ready_mono hj hji;obtain ⟨hjun,oj,hoj,hall⟩:=mem_ready.1 hj;have hnot: ∀ e∈oj.after,Region.binds .any e=true→e.on≠i:=fun e he hb heq=>by
     have h1:=hall e he hb;have h0:=(mem_ready.1 hr).1;rw [heq] at h1;rcases WY i L.size with h' |h'
     ·simp [h'] at h0 h1;rw [h0] at h1;cases h1
     ·simp [XT h'] at h1
    have hap:=hfree j oj hoj hji hjun hnot;obtain ⟨h1,h2,h3⟩:=Oper.apart_spec hap;have hsi:=fun cs b=>hsel i oi cs b hi;have hsj:=fun cs b=>hsel j oj cs b hoj;have hej: ∀ v,execOp (a.put oi.dst v).eval oj=execOp a.eval oj:=fun v=>execOp_put oj hsj a oi.dst v h1;have hwj: ∀ v,Region.wanted oj (yielded ops (a.put oi.dst v).tmps)=Region.wanted oj (yielded ops a.tmps):=fun v=>wanted_put oj a oi.dst v h1;have hcomm: ∀ v u,(a.put oi.dst v).put oj.dst u=(a.put oj.dst u).put oi.dst v:=fun v u=>Act.put_comm a v u h2;have hset:(L.setIfInBounds i true).setIfInBounds j true=(L.setIfInBounds j true).setIfInBounds i true:=Yn _ _ (Ne.symm hji)
    have hfree' : ∀ k ok,ops[k]? =some ok→k≠i→(L.setIfInBounds j true).getD k true=false→
     (∀ e∈ok.after,Region.binds .any e=true→e.on≠i)→oi.apart ops ok=true:=fun k ok hk hki hun hno=>by
     refine hfree k ok hk hki ?_ hno;by_cases hjk:j=k
     ·subst hjk;exact hjun
     ·rw [getD_set_ne true hjk] at hun;exact hun
    have ih:=wN (Q:=Q) hi hsel hnb f (L.setIfInBounds j true);have hcl' :=hcl.set hj;have hr' :=ready_mono hr (Ne.symm hji)
    -- what comes of j behind an outcome of i
    have hJ: ∀ v w',AnyE P ops es ps C Q (f+1) (L.setIfInBounds i true) (a.put oi.dst v) w' →EOp P ops es ps C (AnyE P ops es ps C Q f ((L.setIfInBounds j true).setIfInBounds i true)) j oj (a.put oi.dst v) w' :=fun v w' h=>by
     obtain ⟨o,ho,hE⟩:=h.2.2 j hj';have e:o=oj:=Option.some.inj (ho.symm.trans hoj);subst e;rw [hset] at hE;exact hE
    refine ⟨oj,hoj,?_⟩
    have hstill:(∃ v,AnyE P ops es ps C Q (f+1) (L.setIfInBounds i true) (a.put oi.dst v) w∧ ∀ (u:Value) (w2:World) (K' :Act→World→Prop),C w2→(i∈ps→w2=w)→K' ((a.put oj.dst u).put oi.dst v) w2→EOp P ops es ps C K' i oi (a.put oj.dst u) w2)∨
     (Region.wanted oi (yielded ops a.tmps)=true∧i∈es∧NormUp P (fun v w' =>AnyE P ops es ps C Q (f+1) (L.setIfInBounds i true) (a.put oi.dst v) w') ((execOp a.eval oi).run P w)):=by
     cases hy with
     |pass hw hk=>exact .inl ⟨undef,hk,fun u w2 K' _ _ hk' => .pass ((wanted_put oi a oj.dst u h3).trans hw) hk'⟩
     |quiet hw hies v hrun hst hk=>
      refine .inl ⟨v,hk,fun u w2 K' hC2 hps hk' => ?_⟩;have he:=execOp_put oi hsi a oj.dst u h3;have hrun2:(execOp a.eval oi).run P w2= .ok (.value v) w2:=by
       rcases hst with h|h
       ·rw [hps h];exact hrun
       ·exact h w2 hC2
      exact .quiet ((wanted_put oi a oj.dst u h3).trans hw) hies v (by rw [he];exact hrun2) (by rw [he];exact hst) hk'
     |eff hw hies hk=>exact .inr ⟨hw,hies,hk⟩
    rcases hstill with ⟨v,hk,hS⟩|⟨hw,hies,hk⟩
    ·cases hJ v w hk with
     |pass hwj' hkj=>exact .pass ((hwj v).symm.trans hwj') (ih _ w hcl' hC hfree' hr' (hS undef w _ hC (fun _=>rfl) (by rw [← hcomm];exact hkj)))
     |quiet hwj' hjes u hrun hst hkj=>
      rw [hej] at hrun hst;exact .quiet ((hwj v).symm.trans hwj') hjes u hrun hst (ih _ w hcl' hC hfree' hr' (hS u w _ hC (fun _=>rfl) (by rw [← hcomm];exact hkj)))
     |eff hwj' hjes hkj=>
      rw [hej] at hkj;exact .eff ((hwj v).symm.trans hwj') hjes (hkj.mono fun u w2 hk2=>ih _ w2 hcl' hk2.inC hfree' hr' (hS u w2 _ hk2.inC (fun hps=>(hnb j hjes i (.inr hps) hji (.inr rfl) L hcl hj hr).elim) (by rw [← hcomm];exact hk2)))
    ·obtain ⟨v0,w1,h0⟩:=hk.ex
     cases hJ v0 w1 h0 with
     |pass hwj' hkj=>
      have hwa:=(hwj v0).symm.trans hwj';refine .pass hwa (ih _ w hcl' hC hfree' hr' (EOp.of_put hap hsi (.eff hw hies hk) fun v w' h=> ?_))
      cases hJ v w' h with
      |pass _ h' =>rw [← hcomm];exact h'
      |quiet hw2 _ _ _ _ _=>rw [hwj,hwa] at hw2;cases hw2
      |eff hw2 _ _=>rw [hwj,hwa] at hw2;cases hw2
     |quiet hwj' hjes u hrun hst hkj=>
      have hwa:=(hwj v0).symm.trans hwj';have hst2: ∀ w1,C w1→(execOp a.eval oj).run P w1= .ok (.value u) w1:=by
       rcases hst with h|h
       ·exact (hnb i hies j (.inr h) (Ne.symm hji) (.inl rfl) L hcl hr hj).elim
       ·rw [hej] at h;exact h
      refine .quiet hwa hjes u (hst2 w hC) (.inr hst2) (ih _ w hcl' hC hfree' hr' (EOp.of_put hap hsi (.eff hw hies hk) fun v w' h=> ?_))
      cases hJ v w' h with
      |pass hw2 _=>rw [hwj,hwa] at hw2;cases hw2
      |eff _ hjes2 _=>exact absurd hjes2 hjes
      |quiet _ _ u' hr2 hst' h' =>
       have hst3:(execOp a.eval oj).run P w= .ok (.value u') w:=by
        rcases hst' with h|h
        ·exact (hnb i hies j (.inr h) (Ne.symm hji) (.inl rfl) L hcl hr hj).elim
        ·have:=h w hC;rw [hej] at this;exact this
       rw [hst2 w hC] at hst3;injection hst3 with h4;injection h4 with h4;subst h4;rw [← hcomm];exact h'
     |eff hwj' hjes hkj=>exact (hnb i hies j (.inl hjes) (Ne.symm hji) (.inl rfl) L hcl hr hj).elim⟩
end
section
variable {P:Program} {n:Fr} {w0:World} {Q:cd} {s:aC} {H S:List Blk} {l:List Oper} {ty:TypeId} {p:String} {af:Array Edge} {es:List Nat} {gu:Option (Nat × Bool)} {f:Nat} {L:Array Bool}
def WE (P:Program) (n:Fr) (w0:World) (l:List Oper) (S:List Blk) (es:List Nat) (Q:cd) (f:Nat) (L:Array Bool) (s:aC) (H:List Blk):Prop:=
 ∀ a w,St n s a→Mem w0 w H→Mem w0 w S→ClosedL l.toArray L→AnyE P l.toArray es [] (fun w=>Mem w0 w S) (post n w0 Q .normal) f L a w
theorem oJ {id:Nat} (es:List Nat) (S:List Blk) (N:Nat) (hN:l.length=N) (hm:P.follows .mixedOrders=true) (hS:MSub S H)
 (h:WE P n w0 l S es Q N (Array.replicate N false) s H):W P n w0 (.region id l.toArray true) Q s H:=by
 intro a w hs hmem;subst hN;refine wp_region_any hm (iK (es:=es) (ps:= []) (C:=fun w=>Mem w0 w S) (Q:=post n w0 Q .normal) (fun _ _ h=>h) _ _ _ _ ?_);have hcl:ClosedL l.toArray (Array.replicate l.length false):=fun i o _ hi=>by
  rw [Wc,X3] at hi;split at hi<;>cases hi
 have:=h a _ hs hmem.drew (hS.use hmem.drew) hcl;simpa using this
theorem oI (hr:Region.ready .any l.toArray L= []) (h:Q .normal s H):WE P n w0 l S es Q f L s H:=by
 intro a w hs hm hS hcl
 cases f with
 |zero=>exact ⟨hS,hr,s,H,hs,hm,h⟩
 |succ f=>exact ⟨hS,fun _=>⟨s,H,hs,hm,h⟩,fun i hi=>by rw [hr] at hi;cases hi⟩
theorem cD {i:Nat} {op:Op} {d:Nat} {v:Value} (hi:l[i]? =some ⟨some d,op,ty,p,af,gu⟩) (hn:Nat.blt d n.sz=true) (hg:gok l s gu=some true) (hk:es.contains i=false) (hsel:Region.noSelect l.toArray=true)
 (hr:(Region.ready .any l.toArray L).contains i=true) (hf:Region.free .any l.toArray L i=true) (hv:VOp P w0 s S op ty v) (h:WE P n w0 l S es Q f (L.setIfInBounds i true) ((d,v)::s) H):WE P n w0 l S es Q (f+1) L s H:=by
 intro a w hs hm hS hcl;have hi' :l.toArray[i]? =some ⟨some d,op,ty,p,af,gu⟩:=by simpa using hi
 have hr' :i∈Region.ready .any l.toArray L:=by simpa using hr
 have hk' :i∉es:=by simpa using hk
 refine wN hi' (Region.noSelect_spec hsel) (fun x hx y hy _ hxy=> ?_) f L a w hcl hS (Region.free_spec hi' hf) hr'
  (.quiet (eY rfl hg hs) hk' v (hv a.eval w (some d) p af gu hs.eval hS) (.inr fun w1 h1=>hv a.eval w1 (some d) p af gu hs.eval h1) (h _ _ (hs.put (Wi ▸ hn) v) hm hS (hcl.set hr')))
 rcases hxy with rfl|rfl
 ·exact (hk' hx).elim
 ·rcases hy with hy|hy
  ·exact (hk' hy).elim
  ·cases hy
theorem CX {i:Nat} {op:Op} {dst:Option Tmp} (hi:l[i]? =some ⟨dst,op,ty,p,af,gu⟩) (hg:gok l s gu=some true) (hk:es.contains i=true) (hr:(Region.ready .any l.toArray L).contains i=true)
 (h:WL P n w0 #[] [⟨dst,op,ty,p,af,none⟩] (ceP S (WE P n w0 l S es Q f (L.setIfInBounds i true))) s H) (a:Act) (w:World) (hs:St n s a) (hm:Mem w0 w H) (hcl:ClosedL l.toArray L):
 EOp P l.toArray es [] (fun w=>Mem w0 w S) (AnyE P l.toArray es [] (fun w=>Mem w0 w S) (post n w0 Q .normal) f (L.setIfInBounds i true)) i ⟨dst,op,ty,p,af,gu⟩ a w:=by
 have hr' :i∈Region.ready .any l.toArray L:=by simpa using hr
 refine .eff (eY rfl hg hs) (by simpa using hk) ?_;have h1:=h a w hs hm;unfold wpList at h1;simp only [Region.wanted,if_true] at h1;replace h1:=h1.elim id fun ⟨_,a0,w1,s',H'',_,_,he,_⟩=>by cases he
 have hexec:execOp a.eval ⟨dst,op,ty,p,af,gu⟩=execOp a.eval ⟨dst,op,ty,p,af,none⟩:=rfl;rw [hexec];have nxt: ∀ (a' :Act) (w' :World),wpList P #[] (post n w0 (ceP S (WE P n w0 l S es Q f (L.setIfInBounds i true)))) [] a' w' →AnyE P l.toArray es [] (fun w=>Mem w0 w S) (post n w0 Q .normal) f (L.setIfInBounds i true) a' w' :=by
  rintro a' w' ⟨s',H',hs',hm',_,hSub,hK⟩;exact hK a' w' hs' hm' (hSub.use hm') (hcl.set hr')
 unfold Oper.wp at h1;generalize (execOp a.eval ⟨dst,op,ty,p,af,none⟩).run P w=r at h1 ⊢
 cases r with
 |ok x w' =>
  cases x<;>simp only [Oper.upon] at h1<;>simp only [NormUp]
  case value u=>exact nxt _ _ h1
  case skip=>exact nxt _ _ h1
  case defer dd=>
   obtain ⟨s',H'',hs',_⟩:=h1;have h2:=congrArg List.length (hs'.defers.trans hs.defers.symm);cases dst<;>simp [Act.put] at h2
  case enter f args=>
   refine h1.mono fun e w'' he=> ?_
   cases e with
   |returned v=>exact ⟨v,rfl,nxt _ _ he⟩
   |panicked c=>
    obtain ⟨s',H'',_,_,he',_⟩:=he;cases he'
   |outgrown=>
    obtain ⟨a0,w1,s',H'',_,_,he',_⟩:=he;cases he'
  case row f args=>exact Rows.mono h1 fun u w'' he=>nxt _ _ he
 |halt x w' =>
  cases x<;>simp only [Oper.upon] at h1
  all_goals
   obtain ⟨s',H'',_,_,he',_⟩:=h1;cases he'
theorem ep {i:Nat} {op:Op} {dst:Option Tmp} (hi:l[i]? =some ⟨dst,op,ty,p,af,gu⟩) (hg:gok l s gu=some true) (hk:es.contains i=true) (hr:Region.ready .any l.toArray L= [i])
 (h:WL P n w0 #[] [⟨dst,op,ty,p,af,none⟩] (ceP S (WE P n w0 l S es Q f (L.setIfInBounds i true))) s H):WE P n w0 l S es Q (f+1) L s H:=by
 intro a w hs hm hS hcl;refine ⟨hS,fun h0=>(by rw [hr] at h0;cases h0),fun j hj=> ?_⟩;rw [hr] at hj;have e:j=i:=by simpa using hj
 subst e;exact ⟨_,by simpa using hi,CX hi hg hk (by rw [hr];simp) h a w hs hm hcl⟩
theorem xG {i j:Nat} {op op' :Op} {dst dst' :Option Tmp} {ty' :TypeId} {p' :String} {af' :Array Edge} {gu' :Option (Nat × Bool)} (hi:l[i]? =some ⟨dst,op,ty,p,af,gu⟩) (hj:l[j]? =some ⟨dst',op',ty',p',af',gu'⟩) (hg:gok l s gu=some true) (hg' :gok l s gu' =some true)
 (hk:es.contains i=true) (hk' :es.contains j=true) (hr:Region.ready .any l.toArray L= [i,j])
 (h:WL P n w0 #[] [⟨dst,op,ty,p,af,none⟩] (ceP S (WE P n w0 l S es Q f (L.setIfInBounds i true))) s H)
 (h' :WL P n w0 #[] [⟨dst',op',ty',p',af',none⟩] (ceP S (WE P n w0 l S es Q f (L.setIfInBounds j true))) s H):WE P n w0 l S es Q (f+1) L s H:=by
 intro a w hs hm hS hcl;refine ⟨hS,fun h0=>(by rw [hr] at h0;cases h0),fun k hk0=> ?_⟩;rw [hr] at hk0;rcases VN.1 hk0 with e|hk0
 ·subst e;exact ⟨_,by simpa using hi,CX hi hg hk (by rw [hr];simp) h a w hs hm hcl⟩
 ·have e:k=j:=by simpa using hk0
  subst e;exact ⟨_,by simpa using hj,CX hj hg' hk' (by rw [hr];simp) h' a w hs hm hcl⟩
end
open Go.Proofs
attribute [local irreducible] FnAt FnIn FnP RW VOp W WA WC WE WG WL WLI WQ WR WT WX aS aV bg bi blk ceP scp thn
theorem In.of_mem {b:Blk}: ∀ {H:List Blk},b∈H→In b H
 | [],h=>by cases h
 |a::H,h=>by
  by_cases e:b=a
  ·subst e;exact .hd
  ·exact .tl (In.of_mem (by rcases VN.1 h with h|h;exact absurd h e;exact h))
open Go.Shelf Go.Sort
def aH (n:Nat) (f:Nat→Bool):List Value:=(List.range n).map fun k=> .bool (f k)
theorem eM (n:Nat) (f:Nat→Bool):(aH n f).length=n:=by simp [aH]
theorem bV {n:Nat} {f:Nat→Bool} {k:Nat} (h:k<n):(aH n f)[0+k*1]? =some (.bool (f k)):=by
 unfold aH;rw [VD,Wd,VG,V7 h];rfl
theorem fk {n:Nat} {f:Nat→Bool} {k:Nat} {v:Bool}:(aH n f).set (0+k*1) (.bool v)=aH n (fun j=>if j=k then v else f j):=by
 rw [VD,Wd];apply WB;intro j;unfold aH;by_cases hj:j<n
 ·by_cases e:k=j
  ·subst e;rw [List.getElem?_set_self (by simpa using hj),VG,V7 hj];simp
  ·rw [List.getElem?_set_ne e,VG,VG,V7 hj];have e2: ¬ j=k:=fun h=>e h.symm;simp [e2]
 ·rw [VJ (by simp;omega),VJ (by simp;omega)]
theorem aO {n:Nat} {f g:Nat→Bool} (h: ∀ k,k<n→f k=g k):aH n f=aH n g:=by
 unfold aH;exact Wu fun k hk=>by rw [h k (VT.1 hk)]
def ig (n A:Nat) (f:Nat→Bool):Blk:= .own (some A) 4 1 n n (aH n f)
end Go.SL
namespace Go.SL
open Go Go.Proofs
theorem QB {P:Program} {n:Fr} {w0:World} {Q:cd} {s:aC} {H:List Blk} {c:Code} {A:Option Nat} {t sz m cap:Nat} {xs:List Value} (hi:In (.own A t sz m cap xs) H) (h:m≤cap→W P n w0 c Q s H):W P n w0 c Q s H:=fun a w hs hmem=>
 h (hmem.on _ hi.mem).1.2.1 a w hs hmem
attribute [local irreducible] W WL WQ WG WA WX WLI WR WT WC WE VOp RW thn blk bg scp aS aV bi FnAt FnIn FnP ceP
theorem Qu.pop_v (q:Qu) (sz:Nat):Value.slice (if q.c - q.k=1 then some ⟨q.g,q.off,none⟩ else (some (⟨q.g,q.off,none⟩:Addr)).map (·.add (1*sz))) (q.n - q.k - 1) (q.c - q.k - 1)=(q.pop sz).v:=by
 simp only [Qu.v,Qu.pop];rw [Nat.sub_sub,Nat.sub_sub];split
 ·rfl
 ·have h:(⟨q.g,q.off,none⟩:Addr).add (1*sz)=⟨q.g,q.off+1*sz,none⟩:=by unfold Addr.add;split<;>simp_all
  rw [Wq,h]
theorem NM {P:Program} {w0:World} {s:aC} {H:List Blk} {ty t e sz:Nat} {x:Operand} [ht:Und P t (.slice e)] [hz:Size P e sz] (q:Qu) (hx:ev s x=some q.v) (h1:1≤q.n - q.k) (h2:q.n≤q.c):
 VOp P w0 s H (.slice t x (some (.const (.int .i64 1))) none none) ty (q.pop sz).v:=by
 rw [← Qu.pop_v];exact jY (lo:=1) (hi:=q.n - q.k) hx ⟨_,rfl⟩ rfl h1 (by omega)
theorem Qu.ok.head {α:Type} {q:Qu} {enc:α→List Value} {sz:Nat} {a:α} {L:List α} (h:q.ok enc sz (a::L)) (he:(enc a).length=sz) (hc:q.n≤q.c):(q.ys.drop (q.off+0*sz)).take sz=enc a:=by
 have hl:=h.len;rw [Vw] at hl;rw [h.off (by omega),XV,XA,h.cells,VE,← he,XZ]
theorem uO {P:Program} {w0:World} {s:aC} {H:List Blk} {ty t e lo m c sz g:Nat} {x xl:Operand} [ht:Und P t (.slice e)] [hz:Size P e sz] (hx:ev s x=some (.slice (some ⟨g,0,none⟩) m c)) (hxl:ev s xl=some (.int .i64 (lo:Nat))) (h1:lo<m) (h2:m≤c):
 VOp P w0 s H (.slice t x (some xl) none none) ty (.slice (some ⟨g,lo*sz,none⟩) (m - lo) (c - lo)):=by
 have h:=jY (P:=P) (w0:=w0) (s:=s) (H:=H) (ty:=ty) (t:=t) (lo:=lo) (hi:=m) (x:=x) (xl:=some xl) (xh:=none) hx ⟨_,hxl⟩ rfl (by omega) h2;rw [if_neg (show ¬ c=lo by omega)] at h;have ha:(⟨g,0,none⟩:Addr).add (lo*sz)=⟨g,lo*sz,none⟩:=by unfold Addr.add;split<;>simp_all
 rw [Wq,ha] at h;exact h
theorem uP {P:Program} {w0:World} {s:aC} {H:List Blk} {ty t e hi m c sz:Nat} {A:Option Addr} {x xh:Operand} [ht:Und P t (.slice e)] [hz:Size P e sz] (hx:ev s x=some (.slice A m c)) (hxh:ev s xh=some (.int .i64 (hi:Nat))) (h2:hi≤c):
 VOp P w0 s H (.slice t x none (some xh) none) ty (.slice A hi c):=by
 have h:=jY (P:=P) (w0:=w0) (s:=s) (H:=H) (ty:=ty) (t:=t) (lo:=0) (hi:=hi) (x:=x) (xl:=none) (xh:=some xh) hx rfl ⟨_,hxh⟩ (by omega) h2;have ha:(if c=0 then A else A.map (·.add (0*sz)))=A:=by
  split
  ·rfl
  ·cases A with
   |none=>rfl
   |some a=>rw [XV];simp [Addr.add]
 rw [ha] at h;exact h
end Go.SL
