/-
  Lemmas and walks, put together: D5 C3 D9 D10.
-/
import Derived.Test.YthgjiibbmkiplaaGreatDoorKw09
import Derived.Test.YthgjiibbmkiplaaGreatDoorKw11
set_option linter.unusedSimpArgs false
set_option linter.unusedVariables false
set_option maxRecDepth 20000
set_option maxHeartbeats 16000000
namespace Go.SL
open Go Go.Proofs
attribute [local irreducible] W WL WQ WG WA WX WLI WR WT WC VOp RW thn blk bA scp aY aX bw FnAt FnIn FnP ceP
theorem kL {P:Program} {n:Fr} {w0:World} {Q:bK} {s:az} {H:List Blk} {l:List Oper} {id:Nat} (es ps:List Nat) (hm:P.follows .mixedOrders=true) (hB:Region.lexB .any l.toArray=true) (hch:DC l es ps=true)
 (h:WC P n w0 l H es ps Q l 0 s H):W P n w0 (.region id l.toArray true) Q s H:=bT es ps H hm hB hch (MSub.refl H) h
theorem MA (L:List Us): ∀ u∈L.flatMap bP,u.oneCell' =true:=by
 intro u hu;obtain ⟨n,_,h⟩:=XL.1 hu;simp only [bP,Xt,YQ,or_false] at h;rcases h with rfl|rfl|rfl|rfl|rfl|rfl<;>rfl
theorem M9 (L:List Us) (tv:Value) (w:World) (ht:Reads w tv L.length (L.flatMap bP)) (hlen:L.length≤1000000):
 FnAt Tryz.prog 119 [tv] w fun v H=> ∃ A cap,v=sl A L.length cap∧H= [.own A 159 6 L.length cap (L.flatMap bP)]:=by
 have ht' :=ht;obtain ⟨At,ct,rfl,ht1,ht2,ht3⟩:=ht;refine aB Tryz.func119 rfl Tryz.ntmps119 rfl ?_;have hl:(L.flatMap bP).length=L.length*6:=aR lp L;refine aF 159 6 ?_;repeat' (first|apply ak;exact rfl;apply ER;exact rfl|apply kK;exact rfl;intro gb|apply dz (n' :=0) (c:=0) (A:=some _) (m:=L.length);(iterate 3 exact rfl);exact pK;intro w hm;exact ht'.of_w0 hm;exact hl;exact MA L;omega;simp only [maxLen];omega;intro A' cap' hA|refine sT ?_|refine sM fun _=>?_|refine sC ?_ ?_<;>intro hb<;>try omega|fail)
 ·have e:L.length=0:=by
   rcases Y6 L.length with h|h
   ·exact h
   ·obtain ⟨g,o,rfl,_⟩:=ht3 h;cases hb
  have e' :L= []:=ZC e;subst e';exact bo (.inl rfl) Tryz.results119 rfl (.refl _) ⟨none,0,rfl,rfl⟩
 ·exact bo (.inl rfl) Tryz.results119 rfl (H' := [.own A' 159 6 (0+L.length) cap' ([]++L.flatMap bP)]) mS ⟨A',cap',by rw [Xv],by rw [Xv];rfl⟩
structure En where
 at_:Rf
 ta:Option Addr
 tc:Nat
 ua:Option Addr
 uc:Nat
 tree:List Nd
 uses:List Us
 born:Nat
def En.tv (e:En):Value:= .slice e.ta e.tree.length e.tc
def En.uv (e:En):Value:= .slice e.ua e.uses.length e.uc
def En.m (e:En):Rf × Value × Nat:=(e.at_,.agg #[e.tv,e.uv],e.born)
abbrev HR:Value:= .agg [Value.slice none 0 0,.slice none 0 0].toArray
def rdIn (R:List Blk) (v:Value) (m:Nat) (xs:List Value):Prop:= ∀ w0 w,Mem w0 w R→Reads w v m xs
theorem rdIn.sub {R R' :List Blk} {v:Value} {m:Nat} {xs:List Value} (h:rdIn R v m xs) (hs:MSub R R'):rdIn R' v m xs:=fun w0 w hm=>h w0 w (hs.use hm)
theorem rdIn.nil (R:List Blk):rdIn R (.slice none 0 0) 0 []:=fun _ _ _=>⟨none,0,rfl,Xy _,Xn _,fun h=>by cases h⟩
theorem rdIn.own {R:List Blk} {A:Option Nat} {t sz m c:Nat} {xs:List Value} (hi:In (.own A t sz m c xs) R):rdIn R (sl A m c) m xs:=fun _ _ hm=>Reads.of_own hm hi
structure EnOk (R:List Blk) (e:En):Prop where
 tree:rdIn R e.tv e.tree.length (e.tree.flatMap gW)
 uses:rdIn R e.uv e.uses.length (e.uses.flatMap bP)
 tl:e.tree.length≤1000000
 ul:e.uses.length≤1000000
theorem EnOk.sub {R R' :List Blk} {e:En} (h:EnOk R e) (hs:MSub R R'):EnOk R' e:=⟨h.tree.sub hs,h.uses.sub hs,h.tl,h.ul⟩
def BX (a:Rf):En:=⟨a,none,0,none,0,[],[],0⟩
theorem KP (R:List Blk) (a:Rf):EnOk R (BX a):=⟨rdIn.nil _,rdIn.nil _,by simp [BX],by simp [BX]⟩
def pd (E:List En) (a:Rf):Option En:=E.find? fun e=>decide (e.at_=a)
def iW (E:List En) (a:Rf):En:=(pd E a).getD (BX a)
theorem Mr {E:List En} {a:Rf} {e:En} (h:pd E a=some e):e∈E:=Zk h
theorem Br {R:List Blk} {E:List En} (h: ∀ e∈E,EnOk R e) (a:Rf):EnOk R (iW E a):=by
 unfold iW
 cases hf:pd E a with
 |none=>exact KP _ _
 |some e=>exact h e (Mr hf)
theorem RY (E:List En) (a:Rf): ∀ i:Nat,(bH a (E.map En.m) i).map (fun x=>x.2)=(pd E a).map fun e=>e.m.2.1:=by
 induction E with
 |nil=>intro i;rfl
 |cons e r ih=>
  intro i;simp only [XD,bH,pd,Z9];by_cases h:a=e.at_
  ·simp [En.m,h]
  ·have h' : ¬ e.at_=a:=fun x=>h x.symm;simp only [En.m,h,if_false,h',decide_false];exact ih (i+1)
theorem O5 (E:List En) (a:Rf):(match bH a (E.map En.m) 0 with|some (_,v)=>v|none=>HR)= .agg #[(iW E a).tv,(iW E a).uv]:=by
 have h:=RY E a 0;unfold iW
 cases hk:bH a (E.map En.m) 0 with
 |none=>rw [hk] at h;cases hf:pd E a with
  |none=>rfl
  |some e=>rw [hf] at h;cases h
 |some x=>rw [hk] at h;cases hf:pd E a with
  |none=>rw [hf] at h;cases h
  |some e=>rw [hf] at h;exact Option.some.inj h
instance klaw_key:KLaw Tryz.prog 34 aC:=klaw_F
instance iN8:FldT Tryz.prog 182 1 156 1:=⟨_,_,Tryz.underlying182,rfl,rfl,rfl⟩
theorem SM (gg gm clock:Nat) (E:List En) (a:Rf) (R:List Blk) (w0:World) (hE: ∀ e∈E,EnOk R e):
 FnIn Tryz.prog 78 [.pointer (some ⟨gg,0,none⟩),aC a] w0 (gB gg gm (E.map En.m) clock++R) fun v H=> ∃ A cap,v=sl A (iW E a).uses.length cap∧H= .own A 159 6 (iW E a).uses.length cap ((iW E a).uses.flatMap bP)::(gB gg gm (E.map En.m) clock++R):=by
 refine bI Tryz.func78 rfl Tryz.ntmps78 rfl ?_;have hl:=O5 E a;have hok:=Br hE a;generalize iW E a=e at hl hok;have hcl:=fun (w' :World) (H' :List Blk) (hs:MSub R H') (hm:Mem w0 w' H')=>M9 e.uses e.uv w' (hok.uses _ w' (hs.use hm)) hok.ul;unfold gB;repeat' (first|apply ak;exact rfl;apply ij;exact rfl|apply kL (id:=3) [7] [];kernel_rfl;kernel_rfl;kernel_rfl|apply fH;(iterate 3 exact rfl);apply bV (enc:=aC) (z:=HR);exact rfl;exact rfl;exact pK;exact hl|apply fH;(iterate 3 exact rfl);apply jW;exact rfl;exact rfl|apply aw (f:=119);exact rfl;exact rfl;intro w' hm;exact hcl w' _ mS hm;rintro _ _ ⟨A,cap,rfl,rfl⟩|refine zZM ?_|refine sM fun _=>?_|refine sC ?_ ?_<;>intro hb<;>try omega|refine sCW ?_ ?_<;>intro hb<;>try omega|fail)
 all_goals exact bo eIO rfl rfl mS ⟨A,cap,rfl,rfl⟩
end Go.SL
namespace Go.SL
open Go Go.Proofs
attribute [local irreducible] W WL WQ WG WA WX WLI WR WT VOp thn blk bA scp aY aX bw FnAt FnIn FnP
def wN (g g2 g3:Nat) (k:Int) (R:List Blk):List Blk:= .box g2 273 [.pointer (some ⟨g,0,none⟩)]:: .box g3 3 [.int .i64 k]::R
theorem Ma (f:Nat) (k:Int) (h1:1≤k) (h4:k≤3) (ih:POK f (.level (k+1)) 234 [.int .i64 (k+1)]) (toks:List Tk) (A:Option Nat) (cap:Nat) (fin:Int) (g:Nat) (p:PS) (lv:Value) (B:Option Nat) (cb:Nat) (r:Out) (R:List Blk) (w0:World) (g2 g3:Nat) (hc:toks.length≤cap) (hl:toks.length≤1000) (hat:At toks A cap p lv) (hr:cy fin f (.level (k+1)) p=some r):
 FnP Tryz.prog 264 [.pointer (some ⟨g2,0,none⟩),.pointer (some ⟨g3,0,none⟩)] w0 (pB g lv A cap fin toks B cb p.out++wN g g2 g3 k R) (PR toks A cap fin g (wN g g2 g3 k R) r) (PD (wN g g2 g3 k R) r):=by
 refine yR Tryz.func264 rfl Tryz.ntmps264 rfl ?_;repeat' (first|refine bL (f:=234) rfl rfl (ih toks A cap fin g p lv B cb r _ w0 hc hl hat hr) ?_ ?_|rintro _ _ ⟨rfl,n,p',lv',B',cb',rfl,h2,rfl⟩|rintro _ _ ⟨e,rfl,rfl,h3⟩|refine sT ?_|refine sP ?_|refine sJ ?_|refine sM fun _=>?_|refine sC ?_ ?_<;>intro hb<;>try omega|exact cT|fail)
 ·exact eR (by first|exact .inr rfl|exact .inl rfl) rfl rfl h2 (.refl _)
 ·exact cR rfl h3
def SX (f:Nat) (k:Int) (toks:List Tk) (A:Option Nat) (cap:Nat) (fin:Int) (g g2 g3:Nat) (w0:World) (bv:Value):Prop:=
 ∃ (fid:FuncId) (bs caps:List Value),bv= .func (.func fid) bs.toArray caps.toArray∧Callable Tryz.prog fid∧ ∀ (f' :Nat) (p:PS) (lv:Value) (B:Option Nat) (cb:Nat) (r:Out) (R:List Blk),f' ≤f→At toks A cap p lv→cy fin f' (.level (k+1)) p=some r→
  FnP Tryz.prog fid (bs++([]++caps)) w0 (pB g lv A cap fin toks B cb p.out++wN g g2 g3 k R) (PR toks A cap fin g (wN g g2 g3 k R) r) (PD (wN g g2 g3 k R) r)
theorem O6 (f:Nat) (k:Int) (h1:1≤k) (h4:k≤4) (ihL:k≤3→ ∀ f' ≤f,POK f' (.level (k+1)) 234 [.int .i64 (k+1)]) (ihS: ∀ f' ≤f,POK f' .sign 263 []):POK (f+1) (.level k) 234 [.int .i64 k]:=by
 intro toks A cap fin g p lv B cb r R w0 hc hl hat hrun;refine yR Tryz.func234 rfl Tryz.ntmps234 rfl ?_;rw [cy,if_neg (by omega)] at hrun;obtain ⟨r1,hr1,hr2⟩:=d9 hrun;repeat' (first|apply ak;exact rfl;apply m5;exact rfl|rename_i g2 g3;refine J5 (id:=2) [2,3] rfl (ι:=Value) (fun bv=> [(4,bv)]) (fun bv=>SX f k toks A cap fin g g2 g3 w0 bv) ?_ ?_|refine fG (_) ?_ sB mS|refine zZC ?_|refine sM fun _=>?_|refine sC ?_ ?_<;>intro hb<;>try omega|exact cT|fail)
 ·exact ⟨_,[],_,rfl,inferInstance,fun f' p lv B cb r R hf' hat' hr' =>Ma f' k h1 (by omega) (ihL (by omega) f' hf') toks A cap fin g p lv B cb r R w0 _ _ hc hl hat' hr'⟩
 ·have hk:k=4:=by omega
  subst hk;refine ⟨_,_,[],rfl,inferInstance,fun f' p lv B cb r R hf' hat' hr' => ?_⟩
  cases f' with
  |zero=>cases hr'
  |succ f'' =>
    rw [cy,if_pos (by decide)] at hr';exact ihS f'' (by omega) toks A cap fin g p lv B cb r _ w0 hc hl hat' hr'
 ·rintro bv ⟨fid,bs,caps,rfl,hcl,hbel⟩;repeat' (first|refine zU (f:=fid) rfl rfl hcl rfl (FnP.msub (hbel f p lv B cb r1 _ (Xy _) hat hr1) (MSub.pick pK (MSub.pick pK (MSub.pick pK (MSub.pick pK (MSub.pick pK (MSub.refl _))))))) ?_ ?_|rintro _ _ ⟨rfl,n,p',lv',B',cb',rfl,h2,rfl⟩|rintro _ _ ⟨e,rfl,rfl,h3⟩|refine zZC ?_|refine sM fun _=>?_|refine sC ?_ ?_<;>intro hb<;>try omega|exact cT|fail)
  ·rcases hr2 with ⟨e,h,_⟩|⟨n1,p1,h,h5⟩
   ·cases h
   cases h;refine ax [2,3,4] rfl (fun _:Nat × PS × Value × Option Nat × Nat=> []) (fun x=>pB g x.2.2.1 A cap fin toks x.2.2.2.1 x.2.2.2.2 x.2.1.out++wN g g2 g3 k R) (fun x=>x.1≤f∧At toks A cap x.2.1 x.2.2.1∧cy fin x.1 (.loop k) x.2.1=some r) (fun x=>x.1) (f,p',lv',B',cb') ⟨Xy _,h2,h5⟩ sB (.refl _) ?_;rintro ⟨f',q,lq,Bq,cq⟩ ⟨hf',hq1,hq2⟩;dsimp only at hf' hq1 hq2 ⊢
   cases f' with
   |zero=>cases hq2
   |succ f' =>
     rw [cy] at hq2;have hh:=fun w hm=>hq1.head (fin:=fin) (g:=g) (B:=Bq) (cb:=cq) (out:=q.out) (H:=pB g lq A cap fin toks Bq cq q.out++wN g g2 g3 k R) (w0:=w0) (MSub.pick .hd (.pick .hd (.pick .hd (.nil _)))) w hm;obtain ⟨t,ht⟩: ∃ t,hdT fin q.l=t:=⟨_,rfl⟩;rw [ht] at hq2 hh;by_cases hs:t.kind=8∧zg t.num=k
     ·rw [if_pos hs] at hq2;obtain ⟨hs8,hsk⟩:=hs;obtain ⟨r2,hr3,hr4⟩:=d9 hq2;repeat' (first|apply aa (f:=170);exact rfl;exact rfl;exact hh|apply aa (f:=265);exact rfl;exact rfl;intro w' _;exact Bc _ w'|apply aj (f:=266);exact rfl;exact rfl;exact hq1.skip hc (ht ▸ hs8) (by decide) (MSub.pick pK (MSub.pick pK (MSub.pick pK (MSub.refl _))));rintro _ _ ⟨rfl,lv1,h1',rfl⟩|refine zU (f:=fid) rfl rfl hcl rfl (FnP.msub (hbel f' q.skip lv1 Bq cq r2 _ (by omega) (At1.at h1') hr3) (MSub.pick pK (MSub.pick pK (MSub.pick pK (MSub.pick pK (MSub.pick pK (MSub.refl _))))))) ?_ ?_|rintro _ _ ⟨rfl,n2,p2,lv2,B2,cb2,rfl,h6,rfl⟩|rintro _ _ ⟨e,rfl,rfl,h3⟩|apply aj (f:=267);exact rfl;exact rfl;exact FnIn.msub (lL (gJ 6 t.num) _ _ _ _ _ _ _ _ _ (At.len h6 hl) _ _) (MSub.pick pK (MSub.pick pK (MSub.pick pK (MSub.refl _))));rintro _ _ ⟨rfl,B3,cb3,rfl⟩|refine zZC ?_|refine sM fun _=>?_|refine sC ?_ ?_<;>intro hb<;>try omega|exact cT|fail)
      ·rcases hr4 with ⟨e,h,_⟩|⟨n3,p3,h,h7⟩
       ·cases h
       ·cases h;refine ⟨(f',p2.put (gJ 6 t.num),lv2,B3,cb3),⟨by omega,(h1'.grew h6 (kw _ _ _ _ _ _ hr3)).put _,h7⟩,aal _,sB,sB,?_⟩;dsimp only [wN,List.cons_append,List.nil_append,pB];exact mS
      ·rcases hr4 with ⟨e',h,h7⟩|⟨n3,p3,h,h7⟩
       ·cases h;exact cR h7 (MSub.trans (by unfold wN;exact .drop (.tl (.tl .hd)) (.drop .hd (.drop .hd (.refl _)))) h3)
       ·cases h
     ·rw [if_neg hs] at hq2;cases hq2;repeat' (first|apply aa (f:=170);exact rfl;exact rfl;exact hh|apply aa (f:=265);exact rfl;exact rfl;intro w' _;exact Bc _ w'|refine zZC ?_|refine sM fun _=>?_|refine sC ?_ ?_<;>intro hb<;>try omega|exact cT|fail)
      all_goals first
       |omega
       | (refine eR (B' := Bq) (cb' := cq) (by first | exact .inr rfl | exact .inl rfl) rfl rfl hq1 ?_
          dsimp only [wN,List.cons_append,List.nil_append,pB];exact mS)
  ·rcases hr2 with ⟨e',h,h5⟩|⟨n1,p1,h,h5⟩
   ·cases h;exact cR h5 (MSub.trans (by unfold wN;exact .drop .hd (.drop .hd (.refl _))) h3)
   ·cases h
end Go.SL
namespace Go.SL
open Go Go.Proofs
theorem MSub.appL (R H1:List Blk):MSub R (R++H1):=⟨H1,.refl _⟩
theorem MSub.appR (R H1:List Blk):MSub R (H1++R):=⟨H1,X6⟩
theorem MSub.appC (X Hc H1:List Blk):MSub (H1++(Hc++X)) (X++(Hc++H1)):=⟨[],by
 rw [Xm];refine List.Perm.trans ?_ (List.Perm.append_left H1 (X6 (l₁:=X) (l₂:=Hc)));refine List.Perm.trans (List.Perm.append_left X (X6 (l₁:=Hc) (l₂:=H1))) ?_;rw [← XE,← XE];exact (X6 (l₁:=X) (l₂:=H1)).append_right Hc⟩
theorem MSub.appD (X Hc H2:List Blk):MSub (X++(Hc++H2)) (H2++(Hc++X)):=MSub.appC H2 Hc X
theorem MSub.appS (Hc H1:List Blk):MSub (H1++Hc) (Hc++H1):=⟨[],by rw [Xm];exact X6⟩
theorem MSub.appE (X Hc H2:List Blk):MSub (H2++Hc) (H2++(Hc++X)):=⟨X,by rw [XE]⟩
theorem MSub.tailX (X Hc H2:List Blk) (b:Blk):MSub (H2++(Hc++X)) (H2++(Hc++b::X)):=⟨[b],by
 rw [XE,XE];refine List.Perm.append_left H2 (List.Perm.append_left Hc ?_);exact (X6 (l₁:= [b]) (l₂:=X))⟩
section
variable {P:Program} {n:Fr} {w0:World} {Q:bK} {s:az} {H:List Blk} {ty:TypeId}
theorem WI {c:Code} {A:Option Addr} {m cap:Nat} {xs:List Value} {R:List Blk} (h:rdIn R (.slice A m cap) m xs) (hs:MSub R H) (hm:0<m)
 (k: ∀ g o,A=some ⟨g,o,none⟩→(∀ w,Mem w0 w R→Ro w g o xs)→W P n w0 c Q s H):W P n w0 c Q s H:=fun a w hst hmem=>by
 have key: ∀ w',Mem w0 w' R→ ∃ g o,A=some ⟨g,o,none⟩∧Ro w' g o xs:=fun w' hm' =>by
  obtain ⟨A',cap',he,_,_,h3⟩:=h _ w' hm';injection he with h4 h5 h6;subst h4;exact h3 hm
 obtain ⟨g,o,rfl,_⟩:=key w (hs.use hmem);refine k g o rfl (fun w' hm' => ?_) a w hst hmem;obtain ⟨g',o',he,hr⟩:=key w' hm';injection he with he;injection he with h1 h2;subst h1;subst h2;exact hr
theorem Ig {x:Operand} {t g o off m:Nat} {xs ys:List Value} {R:List Blk} [Agg P t m] (hx:ev s x=some (.pointer (some ⟨g,o+off,none⟩))) (hc: ∀ w,Mem w0 w R→Ro w g o xs) (hs:MSub R H) (hv:(xs.drop off).take m=ys) (hl:ys.length=m):
 VOp P w0 s H (.load t x) ty (.agg ys.toArray):=fun ρ w _ _ _ _ hρ hm=>by
 subst hv;have hcc:Cells w g (o+off) ((xs.drop off).take m):=((hc w (hs.use hm)).cells.drop (k:=off)).take (k:=m);simp [execOp,hρ x _ hx,Instr.loadAt,Instr.sureAddr,gy (P:=P) hl hcc]
end
attribute [local irreducible] W WL WQ WG WA WX WLI WR WT WC VOp RW thn blk bA scp aY aX bw FnAt FnIn FnP ceP
def jC (E:List En) (a:Rf):List (Rf × Us):=(iW E a).uses.map fun u=>(a,u)
def zm (E:List En):List (Rf × Us):=(kZ (E.map En.m)).flatMap (jC E)
def TE (x:Rf × Us):List Value:= [aC x.1,.agg (ay x.2.rect).toArray]
theorem SI (gg gm clock:Nat) (E:List En) (hok:MapOk (E.map En.m) clock) (hlen:E.length≤1000) (R:List Blk) (w0:World) (hE: ∀ e∈E,EnOk R e) (g:Nat):
 Seqs Tryz.prog 177 [.pointer (some ⟨g,0,none⟩)] w0 (.box g 54 [.pointer (some ⟨gg,0,none⟩)]::(gB gg gm (E.map En.m) clock++R)) (zm E) TE:=by
 intro l I J H0 hy h0;refine FnIn.msub (H' :=(.box g 54 [.pointer (some ⟨gg,0,none⟩)]::(gB gg gm (E.map En.m) clock++R))++H0) ?_ (MSub.appC H0 [] _);refine bI Tryz.func177 rfl Tryz.ntmps177 rfl ?_;have hF:=fun R=>v8 gg gm clock (E.map En.m) hok (by simp;omega) R w0;have hfl:(kZ (E.map En.m)).length≤1000:=by rw [yO];simpa using hlen
 have hl2:(E.map En.m).length=(kZ (E.map En.m)).length:=(yO _).symm;unfold zm at hy ⊢;rw [hl2] at hF;generalize kZ (E.map En.m)=F at hF hfl hy ⊢;have hall: ∀ us,us=F.flatMap (jC E)→F.flatMap (jC E)=us:=fun us h=>h.symm;unfold gB at hy ⊢;repeat' (first|apply aj (f:=92);exact rfl;exact rfl;exact FnIn.msub (hF (.box g 54 [.pointer (some ⟨gg,0,none⟩)]::(R++H0))) (by unfold gB;exact mS);rintro _ _ ⟨A0,c0,rfl,rfl⟩|refine zZB ?_|refine sM fun _=>?_|refine sC ?_ ?_<;>intro hb<;>try omega|fail)
 unfold gB
 refine ax [0,1,8,9] rfl (fun y:Nat × List (Rf × Us) × List Blk=> [(10,.int .i64 (y.1:Int))])
  (fun y=> .own A0 34 2 F.length c0 (F.flatMap aq)::((.box g 54 [.pointer (some ⟨gg,0,none⟩)]::([.box gg 104 [.map (some gm)],.obj gm (aK aC (E.map En.m) clock)]++R))++y.2.2))
  (fun y=>y.1≤F.length∧F.flatMap (jC E)=y.2.1++(F.drop y.1).flatMap (jC E)∧I y.2.1 y.2.2) (fun y=>F.length - y.1) (0,[],H0) ⟨by omega,rfl,h0⟩ ?_ ?_ ?_
 ·exact sB
 ·exact mS
 rintro ⟨i,pre,H1⟩ ⟨hi,hus,hI⟩;dsimp only at hi hus hI ⊢;by_cases hlt:i<F.length
 ·have hv0:((F.flatMap aq).drop (i*2)).take 2=aq F[i]:=aM bD F i hlt;rw [XC hlt,Xx] at hus;have hl:=O5 E F[i];have hoke:=Br hE F[i];have hrow:jC E F[i]=(iW E F[i]).uses.map fun u=>(F[i],u):=rfl;rw [hrow] at hus;generalize F[i]=a at hv0 hl hoke hus;generalize iW E a=e at hl hoke hus;refine aU (A:=A0) pK (by omega) fun g0 hA0=> ?_;subst hA0;repeat' (first|apply ak;exact rfl;apply ai;exact rfl;exact rfl;exact hlt|apply ak;exact rfl;apply au (ys:=aq a);exact rfl;exact pK;rw [Xv];exact hv0;exact rfl|apply fH;(iterate 3 exact rfl);apply ij;exact rfl|apply kL (id:=3) [] [];kernel_rfl;kernel_rfl;kernel_rfl|apply fH;(iterate 3 exact rfl);apply bV (enc:=aC) (z:=HR);exact rfl;exact rfl;exact pK;exact hl|apply fH;(iterate 3 exact rfl);apply jW;exact rfl;exact rfl|refine zZH ?_|refine sM fun _=>?_|refine sC ?_ ?_<;>intro hb<;>try omega|refine sCW ?_ ?_<;>intro hb<;>try omega|fail)
  rename_i g4;have hul:=hoke.ul
  refine ax [0,1,8,9,10,4,20,21] rfl (fun y:Nat × List (Rf × Us) × List Blk=> [(22,.int .i64 (y.1:Int))])
   (fun y=> .box g4 34 (aq a):: .own (some g0) 34 2 F.length c0 (F.flatMap aq)::((.box g 54 [.pointer (some ⟨gg,0,none⟩)]::([.box gg 104 [.map (some gm)],.obj gm (aK aC (E.map En.m) clock)]++R))++y.2.2))
   (fun y=>y.1≤e.uses.length∧F.flatMap (jC E)=y.2.1++((e.uses.drop y.1).map (fun u=>(a,u))++(F.drop (i+1)).flatMap (jC E))∧I y.2.1 y.2.2) (fun y=>e.uses.length - y.1) (0,pre,H1) ⟨by omega,hus,hI⟩ sB (by exact MSub.refl _) ?_
  rintro ⟨k,pre2,H2⟩ ⟨hk,hus2,hI2⟩;dsimp only at hk hus2 hI2 ⊢;by_cases hkt:k<e.uses.length
  ·rw [XC hkt,XD,Xc] at hus2;have hv1:((e.uses.flatMap bP).drop (k*6)).take 6=bP e.uses[k]:=aM lp e.uses k hkt;generalize e.uses[k]=u at hus2 hv1;have hsubR: ∀ X:List Blk,MSub R (X++((.box g 54 [.pointer (some ⟨gg,0,none⟩)]::([.box gg 104 [.map (some gm)],.obj gm (aK aC (E.map En.m) clock)]++R))++H2)):=fun X=>by
    refine MSub.trans ?_ (MSub.appR _ X);refine MSub.drop .hd (MSub.drop .hd (MSub.drop .hd ?_));exact MSub.appL _ _
   refine WI hoke.uses (hsubR [.box g4 34 (aq a),.own (some g0) 34 2 F.length c0 (F.flatMap aq)]) (by omega) fun gu ou hua hur=> ?_;have huv:e.uv= .slice (some ⟨gu,ou,none⟩) e.uses.length e.uc:=by unfold En.uv;rw [hua]
   rw [huv];repeat' (first|apply ak;exact rfl;apply ai;exact rfl;exact rfl;exact hkt|apply ak;exact rfl;apply Ig (ys:=bP u);exact rfl;exact hur;exact hsubR [.box g4 34 (aq a),.own (some g0) 34 2 F.length c0 (F.flatMap aq)];exact hv1;exact rfl|apply ji (id:=6)|apply JX;exact rfl;exact rfl;apply oF (ys:=ay u.rect);exact rfl;exact pK;exact rfl;exact rfl|refine zZR ?_|refine sM fun _=>?_|refine sC ?_ ?_<;>intro hb<;>try omega|fail)
   rename_i g6;(with_reducible apply ic)
   ·exact rfl
   ·exact rfl
   ·exact rfl
   ·exact MSub.appC [.box g6 159 (bP u),.box g4 34 (aq a),.own (some g0) 34 2 F.length c0 (F.flatMap aq)] (.box g 54 [.pointer (some ⟨gg,0,none⟩)]::([.box gg 104 [.map (some gm)],.obj gm (aK aC (E.map En.m) clock)]++R)) H2
   ·exact fun w hm=>hy pre2 (a,u) _ hus2 H2 _ hI2 w hm
   intro bb H3 hq;cases bb
   ·repeat' first|refine sT ?_|refine sS ?_|refine sI ?_|refine sM fun _=>?_|refine sC ?_ ?_<;>intro hb<;>try omega|fail
    exact fJ eIO Tryz.results177 (MSub.appE [.box g6 159 (bP u),.box g4 34 (aq a),.own (some g0) 34 2 F.length c0 (F.flatMap aq)] (.box g 54 [.pointer (some ⟨gg,0,none⟩)]::([.box gg 104 [.map (some gm)],.obj gm (aK aC (E.map En.m) clock)]++R)) H3) ⟨H3,.inr ⟨_,hq⟩,MSub.refl _⟩
   ·repeat' first|refine zZR ?_|refine sM fun _=>?_|refine sC ?_ ?_<;>intro hb<;>try omega|fail
    refine ⟨(k+1,_,H3),⟨hkt,hus2.trans (by rw [List.append_assoc];rfl),hq⟩,(by dsimp only;omega),?_,?_,?_⟩
    ·exact sB
    ·exact sB
    ·dsimp only;exact MSub.trans (MSub.appD [.box g4 34 (aq a),.own (some g0) 34 2 F.length c0 (F.flatMap aq)] (.box g 54 [.pointer (some ⟨gg,0,none⟩)]::Blk.box gg 104 [.map (some gm)]::Blk.obj gm (aK aC (E.map En.m) clock)::R) H3) (MSub.tailX _ _ _ _)
  ·have e2:k=e.uses.length:=by omega
   subst e2;rw [X0,XR,Xd] at hus2;repeat' (first|refine zZA ?_|refine sM fun _=>?_|refine sC ?_ ?_<;>intro hb<;>try omega|fail)
   refine ⟨(i+1,pre2,H2),⟨hlt,hus2,hI2⟩,(by dsimp only;omega),?_,?_,?_⟩
   ·exact sB
   ·exact sB
   ·exact MSub.drop .hd (MSub.refl _)
 ·have e2:i=F.length:=by omega
  subst e2;rw [X0,XP,Xm] at hus;repeat' (first|refine zZB ?_|refine sM fun _=>?_|refine sC ?_ ?_<;>intro hb<;>try omega|fail)
  refine fJ (.inr rfl) Tryz.results177 (MSub.drop .hd (MSub.appS (.box g 54 [.pointer (some ⟨gg,0,none⟩)]::([.box gg 104 [.map (some gm)],.obj gm (aK aC (E.map En.m) clock)]++R)) H1)) ⟨H1,.inl ?_,MSub.refl _⟩;rw [hus];exact hI
attribute [local irreducible] gF jl mU
theorem l3 {w0:World} {s:az} {H:List Blk} {ty t' :TypeId} {x y:Operand} {a b:Rf} {c:Bool} (h:decide (a≠b)=c) (hx:ev s x=some (.agg (aq a).toArray)) (hy:ev s y=some (.agg (aq b).toArray)):VOp Tryz.prog w0 s H (.binOp .neq 34 x y t') ty (.bool c):=by
 have h1:=NM (w0:=w0) (H:=H) (ty:=ty) (t' :=t') hx hy;rw [Dq] at h1;rw [← h];have e:(!decide (a=b))=decide (a≠b):=by simp
 rwa [e] at h1
def bJ (r:Rct) (out:List Rf) (x:Rf × Us):List Rf:=if l6 r x.2 && (match out.getLast? with|none=>true|some b=>decide (b≠x.1)) then out++ [x.1] else out
def uo (E:List En) (r:Rct):List Rf:=if bY r≠0 then [] else (zm E).foldl (bJ r) []
theorem ni (r:Rct) (out:List Rf) (x:Rf × Us):bJ r out x=if l6 r x.2 && (match out.getLast? with|none=>true|some b=>decide (b≠x.1)) then out++ [x.1] else out:=rfl
theorem zI (r:Rct) (out:List Rf) (x:Rf × Us):(bJ r out x).length≤out.length+1:=by
 unfold bJ;generalize (l6 r x.2 && (match out.getLast? with|none=>true|some b=>decide (b≠x.1)))=c;cases c<;>simp
theorem qF (r:Rct): ∀ (us:List (Rf × Us)) (out:List Rf),(us.foldl (bJ r) out).length≤out.length+us.length
 | [],_=>Xy _
 |x::us,out=>by
  have h1:=qF r us (bJ r out x);have h2:=zI r out x;simp only [YV,Xs];omega
theorem SJ (x:Value) (g0:Nat) (w:World) (hx:x= .pointer (some ⟨g0,0,none⟩)):FnAt Tryz.prog 133 [x] w fun v H=> ∃ g,v= .func (.func 177) #[] #[.pointer (some ⟨g,0,none⟩)]∧H= [.box g 54 [x]]:=by
 refine aB Tryz.func133 rfl Tryz.ntmps133 rfl ?_;subst hx;repeat' (first|refine sT ?_|refine sM fun _=>?_|refine sC ?_ ?_<;>intro hb<;>try omega|fail)
 rename_i g;exact bo eIO rfl rfl (.refl _) ⟨g,rfl,rfl⟩
theorem Qs (gg gm clock:Nat) (E:List En) (r:Rct) (hok:MapOk (E.map En.m) clock) (hlen:E.length≤1000) (hal:(zm E).length≤1000000) (R:List Blk) (w0:World) (hE: ∀ e∈E,EnOk R e):
 FnIn Tryz.prog 95 [.pointer (some ⟨gg,0,none⟩),.agg (ay r).toArray] w0 (gB gg gm (E.map En.m) clock++R) fun v H=> ∃ A cap,v=sl A (uo E r).length cap∧H= .own A 34 2 (uo E r).length cap ((uo E r).flatMap aq)::(gB gg gm (E.map En.m) clock++R):=by
 refine yQ Tryz.func95 rfl Tryz.ntmps95 (by rfl) ?_;have hrc:=fun w=>dQ r w;unfold uo;refine oh ?_;refine aF 34 2 ?_;by_cases hre:bY r≠0
 ·rw [if_pos hre];repeat' (first|apply aa;exact rfl;exact rfl;intro w hm;exact hrc w|refine zZP ?_|refine sM fun _=>?_|refine sC ?_ ?_<;>intro hb<;>try omega|refine sCR ?_ ?_<;>intro hb<;>try omega|fail)
  all_goals first
   |omega
   | (refine Dr ?_
      exact bo eIO rfl rfl (H' := .own none 34 2 0 0 []::(gB gg gm (E.map En.m) clock++R)) mS ⟨none,0,rfl,rfl⟩)
 rw [if_neg hre];have hre0:bY r=0:=by omega
 rw [hre0] at hrc;repeat' (first|apply aa;exact rfl;exact rfl;intro w hm;exact hrc w|apply aw (f:=133);exact rfl;exact rfl;intro w' hm;exact SJ _ gg w' rfl;rintro _ _ ⟨g,rfl,rfl⟩|refine zZP ?_|refine sM fun _=>?_|refine sC ?_ ?_<;>intro hb<;>try omega|refine sCR ?_ ?_<;>intro hb<;>try omega|fail)
 rename_i g3 g5
 refine rZ (ps:= [19,20]) (us:=zm E) (encs:=TE) (Hc:= .box g 54 [.pointer (some ⟨gg,0,none⟩)]::(gB gg gm (E.map En.m) clock++R)) (HU0:= [.box g5 36 [.slice none 0 0],.own none 34 2 0 0 [],.box g3 31 (ay r)]) rfl (fun _=>rfl) rfl (SI gg gm clock E hok hlen R w0 hE g)
  (fun pre HU=> ∃ A cap,(0<(pre.foldl (bJ r) []).length→ ∃ ga,A=some ga)∧HU= [.box g5 36 [sl A (pre.foldl (bJ r) []).length cap],.own A 34 2 (pre.foldl (bJ r) []).length cap ((pre.foldl (bJ r) []).flatMap aq),.box g3 31 (ay r)]) (fun _=>False) ?_ ⟨none,0,by simp,rfl⟩ ?_ ?_ ?_
 ·exact mS
 ·rintro l pre ⟨at_,u⟩ post hus _ ⟨A,cap,hA,rfl⟩ F F';have hlu:=congrArg List.length hus;simp only [Xa,Xs] at hlu;have hol:=qF r pre [];have hfold:(pre++ [(at_,u)]).foldl (bJ r) []=bJ r (pre.foldl (bJ r) []) (at_,u):=by rw [YG];rfl
  generalize pre.foldl (bJ r) []=out at hA hol hfold ⊢;simp only [Yu,Xv] at hol;change WR _ _ _ l _ _ ((20,Value.agg (ay u.rect).toArray)::(19,Value.agg (aq at_).toArray)::_) (.box g5 36 [sl A out.length cap]:: .own A 34 2 out.length cap (out.flatMap aq):: .box g3 31 (ay r)::F);repeat' (first|refine zZI ?_|refine sM fun _=>?_|refine sC ?_ ?_<;>intro hb<;>try omega|refine sCR ?_ ?_<;>intro hb<;>try omega|fail)
  rename_i g6 g7;refine pN ⟨[.box g7 31 (ay u.rect),.box g6 34 (aq at_),.box g5 36 [sl A out.length cap],.own A 34 2 out.length cap (out.flatMap aq),.box g3 31 (ay r)],MSub.refl _,?_⟩;change WR _ _ _ l _ _ _ (.box g7 31 (ay u.rect):: .box g6 34 (aq at_):: .box g5 36 [sl A out.length cap]:: .own A 34 2 out.length cap (out.flatMap aq):: .box g3 31 (ay r)::F');have hmeet:=fun w=>tX u.rect r w;have hto:l6 r u=(bZ u.rect r).2:=rfl;generalize bZ u.rect r=mt at hmeet hto;obtain ⟨mr,mb⟩:=mt;dsimp only at hto;rw [ni] at hfold;simp only [hto] at hfold
  cases mb with
  |false=>
    simp only [XX,X3,if_false] at hfold;repeat' (first|apply aa;exact rfl;exact rfl;intro w hm;exact hmeet w|apply (r9 (id:=8) [] [] _);kernel_rfl;kernel_rfl;kernel_rfl;exact rfl;exact MSub.refl _|refine zZS ?_|refine sM fun _=>?_|refine sC ?_ ?_<;>intro hb<;>try omega|refine sCR ?_ ?_<;>intro hb<;>try omega|refine sCW ?_ ?_<;>intro hb<;>try omega|fail)
    all_goals
     refine lI [.box g5 36 [sl A out.length cap],.own A 34 2 out.length cap (out.flatMap aq),.box g3 31 (ay r)] ?_ ⟨A,cap,?_⟩
     ·change MSub (_::_::_::F') _;exact mS
     ·rw [hfold];exact ⟨hA,rfl⟩
  |true=>
    simp only [XT] at hfold;have hsn: ∀ b:Rf,(out++ [b]).flatMap aq=out.flatMap aq++aq b:=fun b=>by simp
    cases hlast:out.getLast? with
    |none=>
      have hnil:out= []:=Zw.1 hlast;subst hnil;simp only [hlast,if_true] at hfold;repeat' (first|apply aa;exact rfl;exact rfl;intro w hm;exact hmeet w|apply (r9 (id:=8) [] [] _);kernel_rfl;kernel_rfl;kernel_rfl;exact rfl;exact MSub.refl _|apply aN;(iterate 3 exact rfl);(repeat first|exact .hd|apply Sel.tl|apply In.tl);intro w hm;exact hm.cells_own (by (repeat first|exact .hd|apply Sel.tl|apply In.tl));exact rfl;simp [Value.oneCell',sl];omega;simp only [maxLen];omega;intro A' cap' hA'|refine sT ?_|refine sS ?_|refine sR ?_|refine sW ?_|refine sN ?_|refine sWN ?_|refine sM fun _=>?_|refine sC ?_ ?_<;>intro hb<;>try omega|refine sCR ?_ ?_<;>intro hb<;>try omega|refine sCW ?_ ?_<;>intro hb<;>try omega|fail)
      refine lI [.box g5 36 [sl A' (0+1) cap'],.own A' 34 2 (0+1) cap' ([]++aq at_),.box g3 31 (ay r)] ?_ ⟨A',cap',?_⟩
      ·change MSub (_::_::_::F') _;exact mS
      ·rw [hfold];exact ⟨fun _=>hA' (by simp),rfl⟩
    |some b=>
      simp only [hlast] at hfold;have hne:out≠ []:=fun h=>by rw [h] at hlast;cases hlast
      have hpos:0<out.length:=Yr.2 hne;obtain ⟨ga,rfl⟩:=hA hpos;have hb1:((out.flatMap aq).drop ((out.length - 1)*2)).take 2=aq b:=by
       rw [aM bD out (out.length - 1) (by omega)];have:=hlast;rw [Zx,Xf (by omega)] at this;rw [Option.some.inj this]
      generalize hdec:decide (b≠at_)=c at hfold;repeat' (first|apply aa;exact rfl;exact rfl;intro w hm;exact hmeet w|apply (r9 (id:=8) [] [] _);kernel_rfl;kernel_rfl;kernel_rfl;exact rfl;exact MSub.refl _|apply fH;(iterate 3 exact rfl);apply ai (j:=out.length - 1);exact rfl;exact rfl;omega|apply fH;(iterate 3 exact rfl);apply au (ys:=aq b);exact rfl;exact pK;rw [Xv];exact hb1;exact rfl|apply fH;(iterate 3 exact rfl);apply l3 hdec;exact rfl;exact rfl|apply aN;(iterate 3 exact rfl);(repeat first|exact .hd|apply Sel.tl|apply In.tl);intro w hm;exact hm.cells_own (by (repeat first|exact .hd|apply Sel.tl|apply In.tl));exact rfl;simp [Value.oneCell',sl];omega;simp only [maxLen];omega;intro A' cap' hA'|refine sT ?_|refine sS ?_|refine sR ?_|refine sW ?_|refine sN ?_|refine sWN ?_|refine sM fun _=>?_|refine sC ?_ ?_<;>intro hb<;>try omega|refine sCR ?_ ?_<;>intro hb<;>try omega|refine sCW ?_ ?_<;>intro hb<;>try omega|fail)
      ·rw [hb] at hfold;simp only [if_true] at hfold;refine lI [.box g5 36 [sl A' (out.length+1) cap'],.own A' 34 2 (out.length+1) cap' (out.flatMap aq++aq at_),.box g3 31 (ay r)] ?_ ⟨A',cap',?_⟩
       ·change MSub (_::_::_::F') _;exact mS
       ·rw [hfold,hsn,Xa];exact ⟨fun _=>hA' (by simp),rfl⟩
      ·rw [hb] at hfold;simp only [X3,if_false] at hfold;refine lI [.box g5 36 [sl (some ga) out.length cap],.own (some ga) 34 2 out.length cap (out.flatMap aq),.box g3 31 (ay r)] ?_ ⟨some ga,cap,?_⟩
       ·change MSub (_::_::_::F') _;exact mS
       ·rw [hfold];exact ⟨fun _=>⟨ga,rfl⟩,rfl⟩
 ·rintro D _ ⟨A,cap,_,rfl⟩;change bw _ _ _ _ _ (dm D:: .box g5 36 [sl A ((zm E).foldl (bJ r) []).length cap]:: .own A 34 2 ((zm E).foldl (bJ r) []).length cap (((zm E).foldl (bJ r) []).flatMap aq):: .box g3 31 (ay r)::_);repeat' (first|refine zZI ?_|refine sM fun _=>?_|refine sC ?_ ?_<;>intro hb<;>try omega|refine sCR ?_ ?_<;>intro hb<;>try omega|fail)
  refine ph .hd ?_;exact bo eIO rfl rfl mS ⟨A,cap,rfl,rfl⟩
 ·rintro D HU h;exact h.elim
end Go.SL
