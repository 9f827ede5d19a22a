/-
  Lemmas and walks, put together: Ty W8 W9 Gp D5 D6 Gq G2a K2 Ht Hv Hy Nf Nh.
-/
import Derived.Test.YthefeclkaaocnaaGreatDoorKf35
set_option linter.unusedSimpArgs false
set_option linter.unusedVariables false
set_option maxRecDepth 20000
namespace Go.SL
open Go Go.Proofs
instance:Und Tryz.prog 92 (TypeDesc.slice 109):=⟨Tryz.underlying92⟩
instance:Size Tryz.prog 109 3:=⟨_,ai Tryz.type109,rfl⟩
instance:Agg Tryz.prog 109 3:=⟨_,_,Tryz.underlying109,rfl,ai Tryz.type109,rfl⟩
instance:Elem Tryz.prog 109 3 24:=⟨_,_,ai Tryz.type109,rfl,rfl,rfl,rfl,by decide⟩
instance:Struct Tryz.prog 109 [(0,2),(2,1)] ([Value.int IntKind.i64 0,Value.int IntKind.i64 0,Value.int IntKind.u64 0]):=⟨_,_,_,ai Tryz.type109,Tryz.underlying109,rfl,by simp only [Uu,Uw,ai Tryz.type34,ai Tryz.type51];rfl,rfl⟩
instance:Size Tryz.prog 168 2:=⟨_,ai Tryz.type168,rfl⟩
instance:ZeroC Tryz.prog 168 ([Value.slice none 0 0,Value.slice none 0 0]):=⟨_,_,ai Tryz.type168,rfl,rfl⟩
instance:Fld Tryz.prog 168 0 0:=⟨_,_,_,Tryz.underlying168,rfl,rfl,ai Tryz.type86,by decide⟩
instance:Callable Tryz.prog 22:=⟨fun args w=>Tryz.call22 args w⟩
instance:Callable Tryz.prog 38:=⟨fun args w=>Tryz.call38 args w⟩
instance:Callable Tryz.prog 40:=⟨fun args w=>Tryz.call40 args w⟩
instance:Callable Tryz.prog 41:=⟨fun args w=>Tryz.call41 args w⟩
instance:Callable Tryz.prog 91:=⟨fun args w=>Tryz.call91 args w⟩
end Go.SL
namespace Go.SL
open Go Go.Proofs
attribute [local irreducible] W WL WQ WG WA VOp thn blk ba FnAt FnIn
theorem Ly (L:List Nd): ∀ u∈L.flatMap bR,u.oneCell' =true:=by
 intro u hu
 obtain ⟨n,_,h⟩:=UM.1 hu
 simp only [bR,TS,Vr,or_false] at h
 rcases h with rfl|rfl|rfl|rfl|rfl|rfl|rfl|rfl|rfl|rfl|rfl<;>rfl
theorem OK (L:List Nd) (tv:Value) (w:World) (ht:Reads w tv L.length (L.flatMap bR)) (hlen:L.length≤1000000):
  FnAt Tryz.prog 91 [tv] w fun v H=> ∃ A cap,v=sl A L.length cap∧H= [.own A 174 11 L.length cap (L.flatMap bR)]:=by
 have ht' :=ht
 obtain ⟨At,ct,rfl,ht1,ht2,ht3⟩:=ht
 refine ax Tryz.func91 rfl Tryz.ntmps91 rfl ?_
 have hl:(L.flatMap bR).length=L.length*11:=aR dF L
 refine aW 174 11 ?_
 repeat' (first|(apply ak;exact rfl;apply DA;exact rfl)|(apply fT;exact rfl;intro gb)|(apply eF (n' :=0) (c:=0) (A:=some _) (m:=L.length);(iterate 3 exact rfl);exact pK;(intro w hm;exact ht'.of_w0 hm);exact hl;exact Ly L;omega;(simp only [maxLen];omega);intro A' cap' hA)|refine sT ?_|refine sM fun _=> ?_|(refine sC ?_ ?_<;>intro hb<;>try omega)|fail)
 ·
  have e:L.length=0:=by
   rcases VD L.length with h|h
   ·
    exact h
   ·
    obtain ⟨g,o,rfl,_⟩:=ht3 h
    cases hb
  have e' :L= []:=US e
  subst e'
  exact cA (.inl rfl) Tryz.results91 rfl (.refl _) ⟨none,0,rfl,rfl⟩
 ·
  exact cA (.inl rfl) Tryz.results91 rfl (H' := [.own A' 174 11 (0+L.length) cap' ([]++L.flatMap bR)]) mS ⟨A',cap',by rw [Uc],by rw [Uc];rfl⟩
theorem P6 {α:Type} [DecidableEq α] {L M:List α} {i:Nat} (h1:i<L.length) (h2:i<M.length):decide (L.drop i=M.drop i)=(decide (L[i]=M[i]) && decide (L.drop (i+1)=M.drop (i+1))):=by
 rw [TN h1,TN h2]
 simp only [List.cons.injEq,Bool.decide_and]
end Go.SL
namespace Go.SL
open Go
def zY (G:Gr) (a:Rf):List Nd:=((lK G a).map fun x=>x.1).getD []
def isG (G:Gr) (a:Rf):Bool:=(lK G a).isSome
end Go.SL
namespace Go.SL
open Go Go.Proofs
attribute [local irreducible] W WL WQ WG WA WX WLI WR WT WC VOp RW thn blk bF scp ba aZ bC FnAt FnIn FnP ceP
theorem NG (E:List En) (a:Rf):(match bJ a (E.map En.m) 0 with|some (_,v)=>Value.tuple #[v,.bool true]|none=> .tuple #[wO,.bool false])= .tuple #[.agg #[(dU E a).tv,(dU E a).uv],.bool (ja E a).isSome]:=by
 have h:=JH E a 0
 unfold dU
 cases hk:bJ a (E.map En.m) 0 with
 |none=>rw [hk] at h;cases hf:ja E a with
  |none=>rfl
  |some e=>rw [hf] at h;cases h
 |some x=>rw [hk] at h;cases hf:ja E a with
  |none=>rw [hf] at h;cases h
  |some e=>
   rw [hf] at h
   have h1:x.2=e.m.2.1:=Option.some.inj h
   simp only [UH,Option.isSome_some,VI]
   rw [h1];rfl
set_option maxHeartbeats 1000000 in
theorem Qn (gg gm clock:Nat) (E:List En) (a:Rf) (R:List Blk) (w0:World) (hE: ∀ e∈E,EnOk R e):
  FnIn Tryz.prog 38 [.pointer (some ⟨gg,0,none⟩),aY a] w0 (gB gg gm (E.map En.m) clock++R) fun v H=> ∃ A cap,v= .tuple #[sl A (dU E a).tree.length cap,.bool (ja E a).isSome]∧H= .own A 174 11 (dU E a).tree.length cap ((dU E a).tree.flatMap bR)::(gB gg gm (E.map En.m) clock++R):=by
 refine cF Tryz.func38 rfl Tryz.ntmps38 rfl ?_
 have hl:=NG E a
 have hok:=ut hE a
 generalize dU E a=e at hl hok
 have hcl:=fun (w' :World) (H' :List Blk) (hs:MSub R H') (hm:Mem w0 w' H')=>OK e.tree e.tv w' (hok.tree _ w' (hs.use hm)) hok.tl
 unfold gB
 repeat' (first|(apply ak;exact rfl;apply fU;exact rfl)|(apply eW (id:=3) [9,10] [];kernel_rfl;kernel_rfl;kernel_rfl)|(apply eG;(iterate 3 exact rfl);apply fV (enc:=aY) (z:=wO);exact rfl;exact rfl;exact pK;exact hl)|(apply aF (f:=91);exact rfl;exact rfl;(intro w' hm;exact hcl w' _ mS hm);rintro _ _ ⟨A,cap,rfl,rfl⟩)|refine sT ?_|refine sS ?_|refine sW ?_|refine sM fun _=> ?_|(refine sC ?_ ?_<;>intro hb<;>try omega)|(refine sCW ?_ ?_<;>intro hb<;>try omega)|fail)
 all_goals exact dc eIO rfl rfl rfl mS ⟨A,cap,rfl,rfl⟩
end Go.SL
namespace Go.SL
open Go
theorem GOk.tree {R:List Blk} {E:List En} {clock:Nat} {G:Gr} (h:GOk R E clock G) (a:Rf):(dU E a).tree=zY G a:=by
 rw [zY,← h.look a,dU]
 cases ja E a<;>rfl
theorem GOk.is {R:List Blk} {E:List En} {clock:Nat} {G:Gr} (h:GOk R E clock G) (a:Rf):(ja E a).isSome=isG G a:=by
 rw [isG,← h.look a]
 cases ja E a<;>rfl
end Go.SL
namespace Go.SL
open Go Go.Proofs
attribute [local irreducible] W WL WQ WG WA WX WLI WR WT WC VOp RW thn blk bF scp ba aZ bC FnAt FnP ceP
section
variable {R:List Blk} {E:List En} {clock:Nat} {G:Gr} (h:GOk R E clock G) (gg gm:Nat) {H:List Blk} (hs:MSub (gB gg gm (E.map En.m) clock++R) H) (w0:World)
include h hs
theorem GOk.tree_any (c:Rf):FnIn Tryz.prog 38 [.pointer (some ⟨gg,0,none⟩),aY c] w0 H fun v H' => ∃ A cap,v= .tuple #[sl A (zY G c).length cap,.bool (isG G c)]∧H' = .own A 174 11 (zY G c).length cap ((zY G c).flatMap bR)::H:=by
 refine BV (φ:=fun v A cap=>v= .tuple #[sl A (zY G c).length cap,.bool (isG G c)]) (fun F=> ?_) hs
 have h1:=Qn gg gm clock E c (R++F) w0 (fun e he=>(h.en e he).sub (MSub.appL R F))
 rw [h.tree,h.is] at h1
 rw [TY]
 exact h1
variable (hl:G.length≤900)
include hl
variable (hG:GrOk G)
include hG
end
end Go.SL
namespace Go.SL
open Go Go.Proofs
attribute [local irreducible] W WL WQ WG WA WX WLI WR WT WC VOp RW thn blk bF scp ba aZ bC FnAt FnIn FnP ceP
theorem IA (L:List Et): ∀ u∈L.flatMap du,u.oneCell' =true:=by
 intro u hu
 obtain ⟨x,_,hx⟩:=UM.1 hu
 simp only [du,TS,Vr,or_false] at hx
 rcases hx with rfl|rfl|rfl<;>rfl
theorem yV (L:List Et) (tv:Value) (w:World) (ht:Reads w tv L.length (L.flatMap du)) (hlen:L.length≤1000000):
  FnAt Tryz.prog 22 [tv] w fun v H=> ∃ A cap,v=sl A L.length cap∧H= [.own A 53 3 L.length cap (L.flatMap du)]:=by
 refine ax Tryz.func22 rfl Tryz.ntmps22 rfl ?_
 have hl:(L.flatMap du).length=L.length*3:=aR fk L
 refine aW 53 3 ?_
 repeat' (first|(apply eF (n' :=0) (c:=0) (A:=none) (m:=L.length);(iterate 3 exact rfl);exact pK;(intro w hm;exact ht.of_w0 hm);exact hl;exact IA L;omega;(simp only [maxLen];omega);intro A' cap' hA)|refine sT ?_|refine sM fun _=> ?_|(refine sC ?_ ?_<;>intro hb<;>try omega)|fail)
 exact cA (.inl rfl) Tryz.results22 rfl (H' := [.own A' 53 3 (0+L.length) cap' ([]++L.flatMap du)]) mS ⟨A',cap',by rw [Uc],by rw [Uc];rfl⟩
end Go.SL
namespace Go.SL
open Go Go.Proofs
attribute [local irreducible] W WL WQ WG WA WX WLI WR WT WC WE VOp RW thn blk bF scp ba aZ bC FnAt FnIn FnP ceP gA cP dR
def encMk (x:Rf × BitVec 64):List Value:= [.int .i64 x.1.col,.int .i64 x.1.row,vS x.2]
theorem encMk_len (x:Rf × BitVec 64):(encMk x).length=3:=rfl
noncomputable def marksF (G:Gr) (w:Lw):List (Rf × BitVec 64):=(aq G).map fun c=>(c,dr G w c)
noncomputable def lbsE (G:Gr) (L:List Rl) (N:List Gn):List (Rf × BitVec 64) × Int:=if stE true L N≠0 then ([],stE true L N) else (marksF G (aI L N),0)
set_option maxHeartbeats 8000000 in
theorem Labels_in (gg:Nat) (G:Gr) (B F:List Blk) (w0:World) (R:Rdr gg G B w0) (hB:MSub B F) (L:List Rl) (N:List Gn) (Al An:Option Addr) (cl cn:Nat) (hl: ∀ w',Mem w0 w' F→Reads w' (.slice Al L.length cl) L.length (L.flatMap bM)) (hn: ∀ w',Mem w0 w' F→Reads w' (.slice An N.length cn) N.length (N.flatMap bp)) (hN:N.length≤1000000):FnIn Tryz.prog 40 [.pointer (some ⟨gg,0,none⟩),.slice Al L.length cl,.slice An N.length cn] w0 F fun v H' => ∃ A cap,v= .tuple #[sl A (lbsE G L N).1.length cap,.int .i64 (lbsE G L N).2]∧H' = .own A 109 3 (lbsE G L N).1.length cap ((lbsE G L N).1.flatMap encMk)::F:=by
 refine cF Tryz.func40 rfl Tryz.ntmps40 rfl ?_
 have hst:=fun (ok:Bool) (F2:List Blk) (h:MSub B F2) (h' :MSub F F2)=>oQ gg G B F2 w0 R h ok L N Al An cl cn (fun w' hm=>hl w' (h'.use hm)) (fun w' hm=>hn w' (h'.use hm)) hN
 have hKl:(aq G).length≤900:=by have:=R.l;rw [aq,Uf];exact this
 have hKn:(aq G).Nodup:=R.g.sort.nodup
 unfold lbsE
 have hst:=hst true
 generalize stE true L N=e at hst
 refine aW 109 3 ?_
 repeat' (first|(apply au (f:=89);exact rfl;exact rfl;exact hst _ (MSub.trans hB mS) mS;rintro _ _ (⟨he,rfl,rfl⟩|⟨he,gb,gl,gr,ga,Ac,cap,SR,SA,rfl,rfl⟩))|refine sT ?_|refine sS ?_|refine sM fun _=> ?_|(refine sC ?_ ?_<;>intro hb<;>try omega)|fail)
 all_goals first
  |(exfalso;omega)
  |(rw [if_pos he];exact dc eIO rfl rfl rfl (H' := .own none 109 3 0 0 []::F) mS ⟨none,0,rfl,rfl⟩)
  |skip
 rw [if_neg (by omega)]
 refine ay [8,26,27] rfl (fun y:Nat × Option Nat × Nat=> [(10,sl y.2.1 y.1 y.2.2),(28,.int .i64 (y.1:Int))]) (fun y=> .own y.2.1 109 3 y.1 y.2.2 (((aq G).take y.1).flatMap fun c=>encMk (c,dr G (aI L N) c)):: .box gb 164 [.pointer (some ⟨gg,0,none⟩),.slice Al L.length cl,.slice An N.length cn,sl Ac (aq G).length cap,.map (some gl),.map (some gr),.map (some ga)]:: .own Ac 51 2 (aq G).length cap ((aq G).flatMap aC):: .obj gl (aU aY (mapM (fun c=>vS (dr G (aI L N) c)) (aq G)) (aq G).length):: .obj gr (aU iR (mapM (fun r=>vS (ovE r L).1.1) SR) (SR).length):: .obj ga (aU kv (mapM (fun a=>vS (dO a.fn a.rect L N).1) SA) (SA).length)::F) (fun y=>y.1≤(aq G).length) (fun y=>(aq G).length - y.1) (0,none,0) (TW _) sB mS ?_
 rintro ⟨i,A,ca⟩ hi
 dsimp only at hi ⊢
 by_cases hlt:i<(aq G).length
 ·
  refine bK (A:=Ac) pK (by omega) fun gk hA=> ?_
  subst hA
  have hread:=xJ hlt
  have hck:=UA hlt
  have hsn:((aq G).take (i+1)).flatMap (fun c=>encMk (c,dr G (aI L N) c))=((aq G).take i).flatMap (fun c=>encMk (c,dr G (aI L N) c))++encMk ((aq G)[i],dr G (aI L N) (aq G)[i]):=by
   rw [TP hlt,Ua,Wi]
  generalize (aq G)[i]=c at hread hck hsn
  have hlk:=py (fun c=>vS (dr G (aI L N) c)) (aq G) c (vS 0#64)
  rw [if_pos hck] at hlk
  repeat' (first|(apply ak;exact rfl;apply aj (j:=i);exact rfl;exact rfl;exact hlt)|(apply ak;exact rfl;apply aA;exact rfl;exact pK;exact hread;exact rfl)|refine sT ?_|refine sS ?_|refine sN ?_|refine sM fun _=> ?_|(refine sC ?_ ?_<;>intro hb<;>try omega)|fail)
  all_goals try (exfalso;omega)
  rename_i g12
  refine fu (id:=8) [9,10] [] [.box g12 51 (aC c),.box gb 164 [.pointer (some ⟨gg,0,none⟩),.slice Al L.length cl,.slice An N.length cn,sl (some gk) (aq G).length cap,.map (some gl),.map (some gr),.map (some ga)],.obj gl (aU aY (mapM (fun c=>vS (dr G (aI L N) c)) (aq G)) (aq G).length)] (by kernel_rfl) (by kernel_rfl) (by kernel_rfl) mS ?_
  repeat' (first|(apply eG (d:=39);(iterate 3 exact rfl);apply ep (enc:=aY) (k:=c);exact rfl;exact rfl;exact pK;exact hlk)|(apply bi;(iterate 3 exact rfl);(repeat first|exact .hd|apply Sel.tl|apply In.tl);(intro w hm;exact hm.cells_own (by (repeat first|exact .hd|apply Sel.tl|apply In.tl)));exact rfl;(simp [Value.oneCell',sl]);omega;(simp only [maxLen];omega);(intro A5 c5 hA5))|refine sT ?_|refine sS ?_|refine sW ?_|refine sN ?_|refine sWN ?_|refine sM fun _=> ?_|(refine sC ?_ ?_<;>intro hb<;>try omega)|(refine sCW ?_ ?_<;>intro hb<;>try omega)|fail)
  all_goals first
   |(exfalso;omega)
   |(refine ⟨(i+1,A5,c5),hlt,by dsimp only;omega,by exact sB,by exact sB,by dsimp only;rw [hsn];exact mS⟩;done)
   |trace_state
 ·
  have hi2:i=(aq G).length:=by omega
  subst hi2
  have hfl:((aq G).take (aq G).length).flatMap (fun c=>encMk (c,dr G (aI L N) c))=(marksF G (aI L N)).flatMap encMk:=by rw [Ux,marksF,List.flatMap_map]
  have hml:(marksF G (aI L N)).length=(aq G).length:=by rw [marksF,Uf]
  rw [hfl]
  repeat' (first|refine sT ?_|refine sS ?_|refine sN ?_|refine sM fun _=> ?_|(refine sC ?_ ?_<;>intro hb<;>try omega)|fail)
  all_goals first
   |(exfalso;omega)
   |(exact dc eIO rfl rfl rfl (H' := .own A 109 3 (aq G).length ca ((marksF G (aI L N)).flatMap encMk)::F) mS ⟨A,ca,by rw [hml],by rw [hml]⟩)
   |trace_state
end Go.SL
namespace Go.SL
open Go Go.Proofs
def Oc (a b:Rf × BitVec 64):Bool:=eqF a.1 b.1 && decide (a.2=b.2)
theorem Ob (a b:Rf × BitVec 64):Oc a b=decide (a=b):=by
 obtain ⟨a1,a2⟩:=a
 obtain ⟨b1,b2⟩:=b
 unfold Oc
 rw [CI,Uy]
 simp
theorem MR (w:World) (d:Nat) (a b:Rf × BitVec 64):(Op.equalIn (d+5) 109 (.agg (encMk a).toArray) (.agg (encMk b).toArray)).run Tryz.prog w= .ok (Oc a b) w:=by
 rw [run_equalIn_agg w (d+4) 109 _ _ (by rw [Program.fieldsOf,Tryz.underlying109]) Tryz.stoodInHeld109]
 simp only [Program.fieldsOf,Tryz.underlying109]
 have hr: ∀ w,(Op.equalIn (d+4) 51 (.agg #[.int .i64 a.1.col,.int .i64 a.1.row]) (.agg #[.int .i64 b.1.col,.int .i64 b.1.row])).run Tryz.prog w= .ok (eqF a.1 b.1) w:=fun w=>wC w (d+1) a.1 b.1
 simp [Op.eqFields,encMk,vS,part,go_sem,FL,LJ,Oc,hr]
 by_cases h1:eqF a.1 b.1=true<;>by_cases h2:a.2=b.2
 ·
  simp [h1,h2]
 ·
  have h3: ¬ ((a.2.toNat:Int)=b.2.toNat):=fun h=>h2 (VW (by omega))
  simp [h1,h2,h3]
 ·
  simp [h1,h2]
 ·
  simp [h1,h2]
section
variable {w0:World} {s:aB} {H:List Blk} {ty t' :TypeId} {x y:Operand}
theorem O6 {a b:Rf × BitVec 64} (hx:ev s x=some (.agg (encMk a).toArray)) (hy:ev s y=some (.agg (encMk b).toArray)):VOp Tryz.prog w0 s H (.binOp .neq 109 x y t') ty (.bool (!Oc a b)):=fun ρ w _ _ _ _ hρ _=>by
 have h:=MR w 9995 a b
 simp only [Nat.reduceAdd] at h
 simp only [execOp,hρ x _ hx,hρ y _ hy,Sem.run_bind,run_eqGuard_agg w _ _ _ _ _ _ Tryz.eqGuardType109,Result.andThen_ok,run_neq_struct,h,Sem.run_pure]
end
attribute [local irreducible] W WL WQ WG WA WX WLI WR WT WC WE VOp RW thn blk bF scp ba aZ bC FnAt FnIn FnP ceP gA cP dR
theorem zy (L M:List (Rf × BitVec 64)) (lv mv:Value) (w:World) (hl:Reads w lv L.length (L.flatMap encMk)) (hm:Reads w mv M.length (M.flatMap encMk)):
  aD Tryz.prog 41 [lv,mv] w (.bool (decide (L=M))):=by
 obtain ⟨Al,cl,rfl,hl1,hl2,hl3⟩:=hl
 obtain ⟨Am,cm,rfl,hm1,hm2,hm3⟩:=hm
 refine ax Tryz.func41 rfl Tryz.ntmps41 rfl ?_
 by_cases hlen:L.length=M.length
 ·
  repeat' (first|refine sT ?_|refine sS ?_|refine sM fun _=> ?_|(refine sC ?_ ?_<;>intro hb<;>try omega)|fail)
  refine jf (fun i:Nat=> [(0,.slice Al L.length cl),(1,.slice Am M.length cm),(5,.int .i64 (i:Int))]) (fun _=> []) (fun i=>i≤L.length∧decide (L=M)=decide (L.drop i=M.drop i)) (fun i=>L.length - i) 0 ⟨by omega,rfl⟩ ?_ ?_ ?_
  ·
   exact sB
  ·
   exact mS
  ·
   rintro i ⟨hi,hrec⟩
   by_cases hlt:i<L.length
   ·
    have hlt2:i<M.length:=by omega
    obtain ⟨gl,ol,rfl,hrl⟩:=hl3 (by omega)
    obtain ⟨gm,om,rfl,hrm⟩:=hm3 (by omega)
    have he1:=hrl.elem encMk_len i hlt
    have he2:=hrm.elem encMk_len i hlt2
    rw [P6 hlt hlt2,← Ob] at hrec
    repeat' (first|(apply aO;exact rfl;apply aj;exact rfl;exact rfl;(first|exact hlt|exact hlt2))|(apply aO;exact rfl;apply aP;exact rfl;(first|exact he1|exact he2);exact rfl)|(apply aO;exact rfl;apply O6;exact rfl;exact rfl)|(apply ak;exact rfl;apply lp;exact rfl;exact rfl;(simp only [maxLen] at*;omega))|refine sT ?_|refine sS ?_|refine sQ ?_|refine sD ?_|refine sM fun _=> ?_|(refine sC ?_ ?_<;>intro hb<;>try omega)|(refine sCQ ?_ ?_<;>intro hb<;>try omega)|fail)
    ·
     (refine rT1 ?_)
     rw [hrec]
     simp_all
    ·
     refine ⟨i+1,⟨by omega,?_⟩,by omega,?_,?_⟩
     ·
      rw [hrec]
      simp_all
     ·
      exact sB
     ·
      exact mS
   ·
    have e:i=L.length:=by omega
    subst e
    repeat' (first|refine sT ?_|refine sS ?_|refine sM fun _=> ?_|(refine sC ?_ ?_<;>intro hb<;>try omega)|fail)
    (refine rT1 ?_)
    rw [hrec,UB,hlen,UB]
    rfl
 ·
  repeat' (first|refine sT ?_|refine sS ?_|refine sM fun _=> ?_|(refine sC ?_ ?_<;>intro hb<;>try omega)|fail)
  (refine rT1 ?_)
  rw [decide_eq_false]
  intro e
  exact hlen (congrArg List.length e)
end Go.SL
namespace Go.SL
open Go Go.Proofs
attribute [local irreducible] W WL WQ WG WA WX WLI WR WT WC WE VOp RW thn blk bF scp ba aZ bC FnAt FnIn FnP ceP gA cP dR
section
variable {a:Rf} {gg:Nat} {G:Gr} {B F:List Blk} {w0:World} {L:List Rl} {N:List Gn} {x:BitVec 64} {e:Int} (R:Rdr gg G B w0) (hB:MSub B F) (Al An:Option Addr) (cl cn:Nat) (hl: ∀ w',Mem w0 w' F→Reads w' (.slice Al L.length cl) L.length (L.flatMap bM)) (hn: ∀ w',Mem w0 w' F→Reads w' (.slice An N.length cn) N.length (N.flatMap bp)) (hN:N.length≤1000000)
include R hB hl hn hN
theorem Labels_to {M:List (Rf × BitVec 64)} (h:lbsE G L N=(M,e)):FnIn Tryz.prog 40 [.pointer (some ⟨gg,0,none⟩),.slice Al L.length cl,.slice An N.length cn] w0 F fun v H' => ∃ A cap,v= .tuple #[sl A M.length cap,.int .i64 e]∧H' = .own A 109 3 M.length cap (M.flatMap encMk)::F:=by
 have h1:=Labels_in gg G B F w0 R hB L N Al An cl cn hl hn hN
 rw [h] at h1
 exact h1
end
end Go.SL
namespace Go.SL
open Go
structure CstB (b:ByteArray):Prop where
 ne:b≠az
 ok:(ofP b).2.2=0
 no:(ofP b).1.formula=false
def txC (k:Nat):ByteArray:=if k=0 then ⟨#[49]⟩ else if k=1 then ⟨#[84,82,85,69]⟩ else if k=2 then ⟨#[120]⟩ else ⟨#[35,78,47,65]⟩
theorem Jh (k:Nat):CstB (txC k):=by
 unfold txC
 split
 ·
  exact ⟨by decide+kernel,by decide+kernel,by decide+kernel⟩
 split
 ·
  exact ⟨by decide+kernel,by decide+kernel,by decide+kernel⟩
 split
 ·
  exact ⟨by decide+kernel,by decide+kernel,by decide+kernel⟩
 ·
  exact ⟨by decide+kernel,by decide+kernel,by decide+kernel⟩
theorem DX {G:Gr} {a:Rf} {b:ByteArray} (hv:a.valid=true) (h:(ofP b).2.2=0) (hn:(ofP b).1.formula=false):fQ G a b=(yM G a,0):=by
 unfold fQ
 rw [if_neg (by rw [hv];decide),if_neg (by rw [h];decide),if_pos hn]
theorem NN {G:Gr} {a c:Rf} {b:ByteArray} (hne:c≠a):c∈aq (fQ G a b).1↔c∈aq G:=by
 unfold fQ
 split
 ·
  exact Iff.rfl
 split
 ·
  exact Iff.rfl
 split
 ·
  simp only [gH]
  exact ⟨fun ⟨e,he,h⟩=>⟨e,(o9.1 he).1,h⟩,fun ⟨e,he,h⟩=>⟨e,o9.2 ⟨he,by rw [h];exact hne⟩,h⟩⟩
 ·
  simp only [gH]
  refine ⟨fun ⟨e,he,h⟩=> ?_,fun ⟨e,he,h⟩=>⟨e,mI.2 (.inr ⟨he,by rw [h];exact hne⟩),h⟩⟩
  rcases mI.1 he with rfl|⟨he,_⟩
  ·
   exact absurd h.symm hne
  ·
   exact ⟨e,he,h⟩
theorem x9: ∀ (L:List Et) (G:Gr) {c:Rf},(∀ e∈L,c≠e.at_)→(c∈aq (iH G L)↔c∈aq G)
 | [],_,_,_=>Iff.rfl
 |e::r,G,c,h=>by
  rw [show iH G (e::r)=iH (fQ G e.at_ e.input).1 r from rfl,x9 r _ fun f hf=>h f (TM _ hf)]
  exact NN (h e TI)
theorem tH: ∀ (L:List Et) (i:Nat) (b:Option Rf),(cQ i b L).2=0→(L.Pairwise fun x y=>bn x.at_ y.at_=true)∧ ∀ p,b=some p→ ∀ e∈L,bn p e.at_=true
 | [],_,_,_=>⟨.nil,fun _ _ e he=>(by cases he)⟩
 |x::r,i,b,h=>by
  rw [cQ] at h
  split at h
  ·
   rename_i hf
   exact absurd h hf
  ·
   rename_i hf
   obtain ⟨h1,h2⟩:=tH r _ _ h
   have h3:=h2 x.at_ rfl
   refine ⟨Un.2 ⟨h3,h1⟩,fun p hp e he=> ?_⟩
   have h4:bn p x.at_=true:=by
    have h5:=Classical.not_not.1 hf
    unfold fF at h5
    rw [hp] at h5
    dsimp only at h5
    split at h5
    ·
     cases h5
    split at h5
    ·
     cases h5
    rename_i h6
    simpa using h6
   rcases TS.1 he with rfl|he
   ·
    exact h4
   ·
    exact pz h4 (h3 e he)
theorem vH: ∀ (L:List Et) (G:Gr),(L.Pairwise fun x y=>bn x.at_ y.at_=true)→(∀ e∈L,e.at_.valid=true∧(ofP e.input).2.2=0)→ ∀ e∈L,(ofP e.input).1.formula=true→e.at_∈aq (iH G L)
 | [],_,_,_,e,he,_=>by cases he
 |x::r,G,hs,hk,e,he,hf=>by
  have hs1:=Un.1 hs
  rw [show iH G (x::r)=iH (fQ G x.at_ x.input).1 r from rfl]
  rcases TS.1 he with rfl|he
  ·
   rw [x9 r _ fun f hf=>jL (hs1.1 f hf)]
   obtain ⟨h1,h2⟩:=hk e TI
   unfold fQ
   rw [if_neg (by rw [h1];decide),if_neg (by rw [h2];decide),if_neg (by rw [hf];decide)]
   exact gH.2 ⟨_,mI.2 (.inl rfl),rfl⟩
  ·
   exact vH r _ hs1.2 (fun f hf=>hk f (TM _ hf)) e he hf
theorem PT {G:Gr} {a:Rf}:isG G a=true↔a∈aq G:=by
 rw [isG,gH]
 cases h:lK G a with
 |none=>
  have h1:=nM.1 h
  exact ⟨fun h=>(by cases h),fun ⟨e,he,h2⟩=>absurd h2 (h1 e he)⟩
 |some x=>
  refine ⟨fun _=>Classical.byContradiction fun hn=> ?_,fun _=>rfl⟩
  have h1:lK G a=none:=nM.2 fun e he h2=>hn ⟨e,he,h2⟩
  rw [h] at h1;cases h1
def eB (G:Gr) (n i:Nat) (e:Et):Et:=if isG G e.at_=true then e else ⟨e.at_,txC ((n+i) % 4)⟩
def mo (G:Gr) (n:Nat):Nat→List Et→List Et
 |_,[]=> []
 |i,e::r=>eB G n i e::mo G n (i+1) r
theorem xj (G:Gr) (n i:Nat) (e:Et):(eB G n i e).at_=e.at_:=by unfold eB;split<;>rfl
theorem zV (G:Gr) (n:Nat): ∀ (L:List Et) (i:Nat),(mo G n i L).length=L.length
 | [],_=>rfl
 |e::r,i=>congrArg (· +1) (zV G n r (i+1))
theorem zW (G:Gr) (n:Nat): ∀ (L:List Et) (i k:Nat),(mo G n i L)[k]? =(L[k]?).map (eB G n (i+k))
 | [],_,_=>by simp [mo]
 |e::r,i,0=>rfl
 |e::r,i,k+1=>by
  have:=zW G n r (i+1) k
  rw [mo,Wc,Wc,this,show i+1+k=i+(k+1) by omega]
theorem AP (G:Gr) (n:Nat): ∀ (L:List Et) (i:Nat) (A:Gr),(∀ e∈L,e.at_.valid=true∧(ofP e.input).2.2=0)→(∀ e∈L,e.at_∉aq G→(ofP e.input).1.formula=false)→iH A (mo G n i L)=iH A L
 | [],_,_,_,_=>rfl
 |e::r,i,A,hk,hf=>by
  have ih:=fun A=>AP G n r (i+1) A (fun f h=>hk f (TM _ h)) (fun f h=>hf f (TM _ h))
  obtain ⟨h1,h2⟩:=hk e TI
  have he:fQ A (eB G n i e).at_ (eB G n i e).input=fQ A e.at_ e.input:=by
   unfold eB
   split
   ·
    rfl
   ·
    rename_i hn
    have h3:=hf e TI fun h=>hn (PT.2 h)
    have hc:=Jh ((n+i) % 4)
    rw [DX h1 h2 h3]
    exact DX h1 hc.ok hc.no
  rw [mo,show iH A (eB G n i e::mo G n (i+1) r)=iH (fQ A (eB G n i e).at_ (eB G n i e).input).1 (mo G n (i+1) r) from rfl,he,ih]
  rfl
theorem if4 (c1 c2 c3:Prop) [Decidable c1] [Decidable c2] [Decidable c3] (z:Int):(if c1 then (3:Int) else if c2 then 12 else if c3 then 2 else z)=0↔ ¬ c1∧ ¬ c2∧ ¬ c3∧z=0:=by
 by_cases h1:c1
 ·
  rw [if_pos h1];exact ⟨fun h=>(by cases h),fun h=>absurd h1 h.1⟩
 by_cases h2:c2
 ·
  rw [if_neg h1,if_pos h2];exact ⟨fun h=>(by cases h),fun h=>absurd h2 h.2.1⟩
 by_cases h3:c3
 ·
  rw [if_neg h1,if_neg h2,if_pos h3];exact ⟨fun h=>(by cases h),fun h=>absurd h3 h.2.2.1⟩
 ·
  rw [if_neg h1,if_neg h2,if_neg h3];exact ⟨fun h=>⟨h1,h2,h3,h⟩,fun h=>h.2.2.2⟩
def RS (e:Et):Prop:=e.at_.valid=true∧e.input≠az∧(ofP e.input).2.2=0
theorem AX {b:Option Rf} {e:Et}:fF b e=0↔(∀ p,b=some p→bn p e.at_=true)∧RS e:=by
 cases b with
 |none=>
  unfold fF RS
  rw [if4]
  constructor
  ·
   rintro ⟨h1,_,h3,h4⟩;exact ⟨fun p hp=>(by cases hp),by simpa using h1,h3,h4⟩
  ·
   rintro ⟨_,h1,h3,h4⟩;exact ⟨by rw [h1];decide,by simp,h3,h4⟩
 |some p=>
  unfold fF RS
  rw [if4]
  constructor
  ·
   rintro ⟨h1,h2,h3,h4⟩;exact ⟨fun q hq=>by cases hq;simpa using h2,by simpa using h1,h3,h4⟩
  ·
   rintro ⟨h2,h1,h3,h4⟩;exact ⟨by rw [h1];decide,by simpa using h2 p rfl,h3,h4⟩
theorem Ir {G:Gr} {n i:Nat} {b:Option Rf} {e:Et} (h:fF b e=0):fF b (eB G n i e)=0:=by
 have hc:=Jh ((n+i) % 4)
 obtain ⟨h1,h2⟩:=AX.1 h
 refine AX.2 ⟨fun p hp=>by rw [xj];exact h1 p hp,?_⟩
 unfold eB
 split
 ·
  exact h2
 ·
  exact ⟨h2.1,hc.ne,hc.ok⟩
theorem yQ (G:Gr) (n:Nat): ∀ (L:List Et) (i j:Nat) (b:Option Rf),(cQ j b L).2=0→(cQ j b (mo G n i L)).2=0
 | [],_,_,_,_=>rfl
 |e::r,i,j,b,h=>by
  rw [cQ] at h
  split at h
  ·
   rename_i hf;exact absurd h hf
  ·
   rename_i hf
   rw [mo,cQ,if_neg (by rw [Ir (Classical.not_not.1 hf)];decide),xj]
   exact yQ G n r (i+1) (j+1) _ h
theorem Nt {L:List Et} {G:Gr} (h:rA L=(some G,0)) (n:Nat):rA (mo G n 0 L)=(some G,0):=by
 rw [Cj] at h ⊢
 split at h
 ·
  cases h
 rename_i hc
 have hc0:(fP L).2=0:=Classical.not_not.1 hc
 have hG:iH [] L=G:=Option.some.inj (Prod.mk.inj h).1
 have hk:=nZ L 0 none hc0
 obtain ⟨hs,_⟩:=tH L 0 none hc0
 rw [if_neg (by unfold fP;rw [yQ G n L 0 0 none hc0];decide),AP G n L 0 [] hk fun e he hn=> ?_,hG]
 rw [← V5]
 intro hf
 exact hn (hG ▸ vH L [] hs hk e he hf)
end Go.SL
namespace Go.SL
open Go Go.Proofs
attribute [local irreducible] W WL WQ WG WA WX WLI WR WT WC WE VOp RW thn blk bF scp ba aZ bC FnAt FnIn FnP ceP gA cP dR
theorem Nx (A B:List Blk) (o:Blk):MSub (A++B) (A++(o::B)):=
 ⟨[o],(List.Perm.append_left A (Ut (l₁:= [o]) (l₂:=B))).trans (by rw [TY])⟩
theorem NB {L M:List (Rf × BitVec 64)} (h:L=M) {lv mv:Value} {w:World} (hl:Reads w lv L.length (L.flatMap encMk)) (hm:Reads w mv M.length (M.flatMap encMk)):aD Tryz.prog 41 [lv,mv] w (.bool true):=by
 have:=zy L M lv mv w hl hm
 rwa [decide_eq_true h] at this
theorem lbsE_ok {G:Gr} {L:List Rl} {N:List Gn} (hL:(dw 64 L).2=0) (hN:(gQ 64 N).2=0):lbsE G L N=(marksF G (aI L N),0):=by
 unfold lbsE
 rw [if_neg (by rw [oR rfl hL hN];decide)]
theorem put_one {xs:List Value} {k:Nat} (h:k<xs.length) (v:Value):xs.take k++ [v]++xs.drop (k+1)=xs.set k v:=by
 rw [VK,if_pos h,TY];rfl
theorem take_drop_len {α:Type} {T L:List α} {i:Nat} (hT:T.length=L.length) (hi:i≤L.length):(T.take i++L.drop i).length=L.length:=by
 rw [TG,Ue,Ug];omega
theorem take_drop_get {α:Type} {T L:List α} {i:Nat} (hT:T.length=L.length) (hi:i<L.length):(T.take i++L.drop i)[i]? =some L[i]:=by
 rw [Uj (by rw [Ue];omega),Ue,show i - min i T.length=0 by omega,UR,Vi,TJ hi]
theorem take_drop_set {α:Type} {T L:List α} {i:Nat} (hT:T.length=L.length) (hi:i<L.length):(T.take i++L.drop i).set i (T[i]'(by omega))=T.take (i+1)++L.drop (i+1):=by
 rw [TN hi,VL _ _ (by rw [Ue];omega),Ue,show i - min i T.length=0 by omega,Ww,TP (by omega:i<T.length),TY]
 rfl
theorem xq {α:Type} {T L:List α} {i:Nat} (hT:T.length=L.length) (hi:i<L.length) (he:T[i]'(by omega)=L[i]):T.take (i+1)++L.drop (i+1)=T.take i++L.drop i:=by
 rw [TN hi,TP (by omega:i<T.length),he,TY]
 rfl
set_option maxHeartbeats 16000000 in
theorem uT (L:List Et) (R:List Rl) (N:List Gn) (n:Nat) (hn255:n≤255) (lv rv nv:Value) (w:World) (hl:Reads w lv L.length (L.flatMap du)) (hr:Reads w rv R.length (R.flatMap bM)) (hn:Reads w nv N.length (N.flatMap bp)) (hW:Words w):
  aD Tryz.prog 8 [lv,rv,nv,.int .u8 (n:Int)] w (.bool true):=by
 have hg:=fun (w' :World) (H:List Blk) (hm:Mem w w' H)=>mN L R N lv rv nv w' (hl.of_w0 hm) (hr.of_w0 hm) (hn.of_w0 hm)
 have haw:=fun (w' :World) (H:List Blk) (hm:Mem w w' H)=>n9 w' (hW.next hm)
 refine ax Tryz.func8 rfl Tryz.ntmps8 rfl ?_
 cases hgd:tz L R N with
 |false=>
  rw [hgd] at hg
  obtain ⟨Al,cl,rfl, -⟩:=hl
  obtain ⟨Ar,cr,rfl, -⟩:=hr
  obtain ⟨An,cn,rfl, -⟩:=hn
  repeat' (first|(apply aa (f:=32);exact rfl;exact rfl;(intro w' hm;exact hg w' _ hm))|refine sT ?_|refine sS ?_|refine sM fun _=> ?_|(refine sC ?_ ?_<;>intro hb<;>try omega)|fail)
  all_goals first|(exfalso;omega)|((refine rT1 ?_);rfl)|trace_state
 |true=>
  rw [hgd] at hg
  obtain ⟨k1,k2,k3,hL,hN,G,hG,hGo,hGl⟩:=pI hgd
  have hmd:=fun (w' :World) (H:List Blk) (hm:Mem w w' H)=>qi L hG k1 lv w' (hl.of_w0 hm) (hW.next hm)
  have hcp:=fun (w' :World) (H:List Blk) (hm:Mem w w' H)=>yV L lv w' (hl.of_w0 hm) (by omega)
  obtain ⟨Al,cl,rfl, -⟩:=hl
  have hr2:=hr
  have hn2:=hn
  obtain ⟨Ar,cr,rfl, -⟩:=hr
  obtain ⟨An,cn,rfl, -⟩:=hn
  repeat' (first|(apply aa (f:=32);exact rfl;exact rfl;(intro w' hm;exact hg w' _ hm))|(apply aF (f:=33);exact rfl;exact rfl;(intro w' hm;exact hmd w' _ hm);rintro _ _ ⟨gg,gm,E,clock,Rb,rfl,rfl,hA⟩;refine pW (gB gg gm (E.map En.m) clock++Rb) (MSub.appL _ _) ?_)|(apply aF (f:=22);exact rfl;exact rfl;(intro w' hm;exact hcp w' _ hm);rintro _ _ ⟨Ao,co,rfl,rfl⟩)|refine sT ?_|refine sS ?_|refine sM fun _=> ?_|(refine sC ?_ ?_<;>intro hb<;>try omega)|fail)
  all_goals try (exfalso;omega)
  have hR:=hA.rdr hGo (by omega) gg gm w
  have hTr:=fun (c:Rf) (H:List Blk) (hs:MSub (gB gg gm (E.map En.m) clock++Rb) H)=>hA.tree_any gg gm hs w c
  generalize gB gg gm (E.map En.m) clock++Rb=B at hR hTr ⊢
  obtain ⟨T,hT⟩: ∃ T,mo G n 0 L=T:=⟨_,rfl⟩
  have hTl:T.length=L.length:=by rw [← hT];exact zV G n L 0
  have hTn:=Nt hG n
  rw [hT] at hTn
  refine ay [1,2,3,9,10] rfl (fun i:Nat=> [(11,.int .i64 (i:Int))]) (fun i=> .own Ao 53 3 L.length co ((T.take i++L.drop i).flatMap du)::B) (fun i=>i≤L.length) (fun i=>L.length - i) 0 (TW _) sB (by simp only [U7,TL,UZ];exact mS) ?_
  rintro i hi
  by_cases hlt:i<L.length
  ·
   refine bK (A:=Ao) pK (by omega) fun go hA=> ?_
   subst hA
   have hXl:=take_drop_len hTl hi
   have hXg:=take_drop_get hTl hlt
   have hXs:=take_drop_set hTl hlt
   have hXe:=xq hTl hlt
   have hTi:T[i]'(by omega)=eB G n i L[i]:=by
    have h1:=zW G n L 0 i
    rw [hT,Uc,TJ (by omega:i<T.length),TJ hlt] at h1
    exact Option.some.inj h1
   rw [hTi] at hXs hXe
   clear hTi
   obtain ⟨Y,hYe⟩: ∃ Y,T.take (i+1)++L.drop (i+1)=Y:=⟨_,rfl⟩
   rw [hYe] at hXs hXe
   generalize hX:T.take i++L.drop i=X at hXl hXg hXs hXe ⊢
   have hil:i<X.length:=by omega
   have hel:=cf fk X i hil
   rw [TJ hil] at hXg
   replace hXg:=Option.some.inj hXg
   rw [hXg] at hel
   generalize L[i]=e at hel hXg hXs hXe
   have hat:((X.flatMap du).drop (0+i*3+0)).take 2=aC e.at_:=by
    have h2:(((X.flatMap du).drop (i*3)).take 3).take 2=((X.flatMap du).drop (i*3)).take 2:=by rw [Wy];rfl
    rw [Uc,Vi,← h2,hel]
    rfl
   have hTe:=hTr e.at_
   cases hiG:isG G e.at_ with
   |true=>
    rw [hiG] at hTe
    have hsame:eB G n i e=e:=by unfold eB;rw [if_pos hiG]
    have hY:=hXe hsame
    repeat' (first|(apply ak;exact rfl;apply aj (j:=i);exact rfl;exact rfl;exact hlt)|(apply ak;exact rfl;apply aA (ys:=aC e.at_);exact rfl;exact pK;exact hat;exact rfl)|(apply au (f:=38);exact rfl;exact rfl;exact hTe _ mS;rintro _ _ ⟨A5,c5,rfl,rfl⟩)|refine sT ?_|refine sS ?_|refine sN ?_|refine sM fun _=> ?_|(refine sC ?_ ?_<;>intro hb<;>try omega)|fail)
    all_goals first
     |(exfalso;omega)
     |(refine ⟨i+1,hlt,by omega,by exact sB,by exact sB,by rw [hYe,hY];exact mS⟩;done)
     |trace_state
   |false=>
    rw [hiG] at hTe
    have hturn:eB G n i e=⟨e.at_,txC ((n+i) % 4)⟩:=by unfold eB;rw [if_neg (by rw [hiG];decide)]
    rw [hturn] at hXs
    have hput:=uI fk X i 2 hil (by decide) (.string (txC ((n+i) % 4))) ⟨e.at_,txC ((n+i) % 4)⟩ (by rw [hXg];rfl)
    rw [hXs] at hput
    have hm4:(n+i) % 4<4:=WU _ (by decide)
    have htx:([Value.string ⟨#[49]⟩,.string ⟨#[84,82,85,69]⟩,.string ⟨#[120]⟩,.string ⟨#[35,78,47,65]⟩]:List Value)[(n+i) % 4]? =some (.string (txC ((n+i) % 4))):=by
     generalize (n+i) % 4=q at hm4
     rcases (by omega:q=0∨q=1∨q=2∨q=3) with rfl|rfl|rfl|rfl<;>rfl
    have hxl:(X.flatMap du).length=X.length*3:=aR fk X
    rw [← put_one (by rw [hxl];omega),show i*3+2=0+i*3+2 by omega] at hput
    generalize txC ((n+i) % 4)=tx at hput htx
    generalize hq:(n+i) % 4=q at hm4 htx
    have hrem:((n+i:Nat):Int).tmod 4=(q:Int):=by
     rw [VZ (by omega)]
     omega
    generalize X.flatMap du=xs at hel hat hput hxl ⊢
    repeat' (first|(apply ak (d:=56);exact rfl;apply aj (j:=q);exact rfl;exact rfl;exact hm4)|(apply ak;exact rfl;apply aj (j:=i);exact rfl;exact rfl;exact hlt)|(apply ak;exact rfl;apply aA (ys:=aC e.at_);exact rfl;exact pK;exact hat;exact rfl)|(apply au (f:=38);exact rfl;exact rfl;exact hTe _ mS;rintro _ _ ⟨A5,c5,rfl,rfl⟩)|(apply ak (d:=52);exact rfl;apply bB (c:=(n:Int));exact rfl;(simp only [IntKind.wrap_i64];omega))|(apply ak (d:=54);exact rfl;apply dP (a:=n) (b:=i);exact rfl;exact rfl;(simp only [maxLen];omega))|(apply ak (d:=55);exact rfl;apply mg (c:=(q:Int));exact rfl;exact rfl;decide;exact hrem)|(apply ak (d:=57);exact rfl;apply bG;exact rfl;exact pK;(rw [show 0+q*1=q by omega];exact htx))|(apply mY (vs:= [.string tx]) (off:=0+i*3+2);exact rfl;exact rfl;exact pK;exact rfl;exact rfl;(intro u hu;simp at hu;subst hu;rfl);(rw [hxl,hXl];omega))|refine sT ?_|refine sS ?_|refine sN ?_|refine sM fun _=> ?_|(refine sC ?_ ?_<;>intro hb<;>try omega)|fail)
    all_goals first
     |(exfalso;omega)
     |(refine ⟨i+1,hlt,by omega,by exact sB,by exact sB,by rw [hYe,← hput];exact mS⟩;done)
     |trace_state
  ·
   have e:i=L.length:=by omega
   subst e
   have hfin:T.take L.length++L.drop L.length=T:=by rw [← hTl,Ux,hTl,UB,TR]
   rw [hfin]
   have hN2: ∀ (w' :World) (H:List Blk) (tv:Value),Mem w w' H→Reads w' tv T.length (T.flatMap du)→FnAt Tryz.prog 39 [tv] w' fun v H=> ∃ gg gm E clock R,v= .tuple #[.pointer (some ⟨gg,0,none⟩),.int .i64 0]∧H=gB gg gm (E.map En.m) clock++R∧GOk R E clock G:=by
    intro w' H tv hm ht
    have h1:=IQ T tv w' ht (by omega) (hW.next hm)
    rw [hTn] at h1
    exact h1
   have hlb:=lbsE_ok (G:=G) hL hN
   have hml:(marksF G (aI R N)).length≤40:=by rw [marksF,Uf,aq,Uf];omega
   generalize marksF G (aI R N)=Mk at hlb hml
   rw [← hTl]
   repeat' (first|(apply aF (f:=39);exact rfl;exact rfl;(intro w' hm;exact hN2 w' _ _ hm (Reads.of_own hm pK));rintro _ _ ⟨gg2,gm2,E2,clock2,Rb2,rfl,rfl,hA2⟩;refine pW (gB gg2 gm2 (E2.map En.m) clock2++Rb2++B) (Nx _ _ _) ?_)|(apply au (d:=75);exact rfl;exact rfl;exact Labels_to hR (MSub.appR _ _) Ar An cr cn (fun w' hm=>hr2.of_w0 hm) (fun w' hm=>hn2.of_w0 hm) (by omega) hlb;rintro _ _ ⟨A6,c6,rfl,rfl⟩)|(apply au (d:=82);exact rfl;exact rfl;exact Labels_to (hA2.rdr hGo (by omega) gg2 gm2 w) (MSub.trans (MSub.appL _ _) (MSub.drop .hd (MSub.refl _))) Ar An cr cn (fun w' hm=>hr2.of_w0 hm) (fun w' hm=>hn2.of_w0 hm) (by omega) hlb;rintro _ _ ⟨A7,c7,rfl,rfl⟩)|(apply aa (f:=41);exact rfl;exact rfl;(intro w' hm;exact NB rfl (Reads.of_own (A:=A6) hm pK) (Reads.of_own (A:=A7) hm pK)))|(apply aa (f:=37);exact rfl;exact rfl;(intro w' hm;exact haw w' _ hm))|refine sT ?_|refine sS ?_|refine sN ?_|refine sM fun _=> ?_|(refine sC ?_ ?_<;>intro hb<;>try omega)|fail)
   all_goals first
    |(exfalso;omega)
    |((refine rT1 ?_);rfl)
    |trace_state
theorem uS (L:List Et) (R:List Rl) (N:List Gn) (n:Int) (hn255:0≤n∧n≤255) (lv rv nv:Value) (w:World) (hl:Reads w lv L.length (L.flatMap du)) (hr:Reads w rv R.length (R.flatMap bM)) (hn:Reads w nv N.length (N.flatMap bp)) (hW:Words w):
  aD Tryz.prog 8 [lv,rv,nv,.int .u8 n] w (.bool true):=by
 obtain ⟨m,rfl⟩: ∃ m:Nat,n=(m:Int):=⟨n.toNat,by omega⟩
 exact uT L R N m (by omega) lv rv nv w hl hr hn hW
end Go.SL
