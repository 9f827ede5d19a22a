/-
  Lemmas and walks, put together: D2 D3 S1 S2 S3 S4 D4 W28 W29 W30 Gp D5 D6 D7 Gq D8 D9 D10 D11 D12 E2 K1 Lq Lr.
-/
import Derived.Shelf.SlSortCmp.NoneTotal
import Derived.ChangeKeysEq
import Derived.Test.YthefeclkaaocnaaGreatDoorKj14
set_option linter.unusedSimpArgs false
set_option linter.unusedVariables false
set_option maxRecDepth 20000
namespace Go.SL
open Go Go.Proofs
attribute [local irreducible] W WL WQ WG WA WX WLI WR WT VOp RW thn blk bG scp bg bi bT aQ FnIn FnP
theorem Mw {a:ByteArray} {i:Nat} (h:i<a.size):gT (sub a i (i+1))=if bq (bat a i) then 0 else 4:=by
 have h1:ap (sub a i (i+1))= [bat a i]:=by
  rw [dW,aZ h,Nat.add_sub_cancel_left]
  rfl
 have h2:(sub a i (i+1)).size=1:=by rw [bW a (by omega)];omega
 simp only [gT,h2,mZ,h1]
 cases h:bq (bat a i)<;>simp [h]
structure Mn where
 formula:Bool
 v:Vl
 tree:List Nd
def eqB:ByteArray:=⟨#[61]⟩
def qy:Mn:=⟨false,bK,[]⟩
def ofP (b:ByteArray):Mn × Int × Int:=
 if 256<b.size then (qy,0,5)
 else match (ap b).findIdx? (fun c=> !bq c) with
  |some i=>(qy,(i:Int),4)
  |none=>
   if (qj b eqB).2=false then (⟨false,qU b,[]⟩,0,0)
   else match df (bL dZ (ap (qj b eqB).1)) ((qj b eqB).1.size:Int) with
    |(t,at_,e)=>if e≠0 then (qy,IntKind.i64.wrap (at_+1),e) else (⟨true,bK,t⟩,0,0)
def A0 (m:Mn) (tv:Value):List Value:= [.bool m.formula,.int .u8 m.v.kind,.int .i64 m.v.num,.string m.v.text,tv]
def ofV (A:Option Nat) (cap:Nat) (r:Mn × Int × Int):Value:= .tuple #[.agg (A0 r.1 (sl A r.1.tree.length cap)).toArray,.int .i64 r.2.1,.int .i64 r.2.2]
set_option maxHeartbeats 2000000 in
theorem LH (b:ByteArray) (w:World) (hW:Words w):aQ Tryz.prog 106 [.string b] w fun v H=> ∃ A cap,v=ofV A cap (ofP b)∧H= [.own A 174 11 (ofP b).1.tree.length cap ((ofP b).1.tree.flatMap cj)]:=by
 refine aq Tryz.func106 rfl Tryz.ntmps106 rfl ?_
 refine aP 174 11 ?_
 unfold ofP
 by_cases hlen:256<b.size
 ·
  rw [if_pos hlen]
  repeat' (first|refine sT ?_|refine sS ?_|refine sT2 ?_|refine sM fun _=> ?_|(refine sC ?_ ?_<;>intro hb<;>try omega)|fail)
  all_goals first
   |(exfalso;omega)
   |exact fH (.inl rfl) rfl rfl pK rfl rfl rfl (H' := [.own none 174 11 0 0 []]) mS ⟨none,0,rfl,rfl⟩
 rw [if_neg hlen]
 repeat' (first|refine sT ?_|refine sS ?_|refine sT2 ?_|refine sM fun _=> ?_|(refine sC ?_ ?_<;>intro hb<;>try omega)|fail)
 all_goals try (exfalso;omega)
 rename_i g2
 refine ay [0,2,14] rfl (fun i:Nat=> [(15,.int .i64 (i:Int))]) (fun _=> [.box g2 192 [.bool false,.int .u8 0,.int .i64 0,.string au,.slice none 0 0],.own none 174 11 0 0 []]) (fun i=>i≤b.size∧ ∀ j,j<i→bq (bat b j)=true) (fun i=>b.size - i) 0 ⟨by omega,fun j h=>by omega⟩ sB mS ?_
 rintro i ⟨hi,hpl⟩
 by_cases hlt:i<b.size
 ·
  have hg:=Mw hlt
  have hG:=fun w=>uL (sub b i (i+1)) w
  rw [hg] at hG
  by_cases hc:bq (bat b i)=true
  ·
   rw [if_pos hc] at hG
   repeat' (first|(apply ak;exact rfl;apply fD;(iterate 3 exact rfl);exact ⟨by omega,by omega⟩)|(apply aa;exact rfl;exact rfl;(intro w hm;exact hG w))|refine sT ?_|refine sS ?_|refine sT2 ?_|refine sN ?_|refine sM fun _=> ?_|(refine sC ?_ ?_<;>intro hb<;>try omega)|fail)
   all_goals try (exfalso;omega)
   refine ⟨i+1,?_,(by first|omega|(dsimp only;omega)),sB,sB,mS⟩
   refine ⟨hlt,fun j hj=> ?_⟩
   rcases (by omega:j<i∨j=i) with h|rfl
   ·
    exact hpl j h
   ·
    exact hc
  ·
   rw [if_neg hc] at hG
   repeat' (first|(apply ak;exact rfl;apply fD;(iterate 3 exact rfl);exact ⟨by omega,by omega⟩)|(apply aa;exact rfl;exact rfl;(intro w hm;exact hG w))|refine sT ?_|refine sS ?_|refine sT2 ?_|refine sN ?_|refine sM fun _=> ?_|(refine sC ?_ ?_<;>intro hb<;>try omega)|fail)
   all_goals try (exfalso;omega)
   have hf:(ap b).findIdx? (fun c=> !bq c)=some i:=nF hlt (by simp [hc]) fun j hj=>by rw [hpl j hj];rfl
   rw [hf]
   exact fH (.inl rfl) rfl rfl pK rfl rfl rfl (H' := [.own none 174 11 0 0 []]) mS ⟨none,0,rfl,rfl⟩
 ·
  have e:i=b.size:=by omega
  subst e
  have hf:(ap b).findIdx? (fun c=> !bq c)=none:=l5 fun j hj=>by rw [hpl j hj];rfl
  rw [hf]
  dsimp only
  have hcut:=fun w=>Ju b eqB (by omega) w
  obtain ⟨⟨rest,is⟩,hx⟩: ∃ x,qj b eqB=x:=⟨_,rfl⟩
  rw [hx] at hcut ⊢
  cases is with
  |false=>
   rw [if_pos rfl]
   repeat' (first|(apply aa;exact rfl;exact rfl;(intro w hm;exact hcut w))|(apply aa (f:=152);exact rfl;exact rfl;(intro w' hm';exact Bf b (by omega) w' (hW.next hm')))|refine sT ?_|refine sS ?_|refine sT2 ?_|refine sN ?_|refine sM fun _=> ?_|(refine sC ?_ ?_<;>intro hb<;>try omega)|fail)
   all_goals try (exfalso;omega)
   exact fH (.inl rfl) rfl rfl pK rfl rfl rfl (H' := [.own none 174 11 0 0 []]) mS ⟨none,0,rfl,rfl⟩
  |true=>
   rw [if_neg (by simp)]
   dsimp only
   have hF:=fun (w' :World) (h:Words w')=>DH rest w' h _ rfl
   obtain ⟨⟨t,at0,e0⟩,hr⟩: ∃ x,df (bL dZ (ap rest)) (rest.size:Int)=x:=⟨_,rfl⟩
   simp only [hr,Eo] at hF
   rw [hr]
   dsimp only
   by_cases he:e0≠0
   ·
    rw [if_pos he]
    repeat' (first|(apply aa;exact rfl;exact rfl;(intro w hm;exact hcut w))|(apply aG (f:=153);exact rfl;exact rfl;(intro w' hm';exact hF w' (hW.next hm'));rintro _ _ ⟨A,cap,rfl,rfl⟩)|(apply ak;exact rfl;apply tJ;exact rfl;exact rfl)|refine sT ?_|refine sS ?_|refine sT2 ?_|refine sN ?_|refine sM fun _=> ?_|(refine sC ?_ ?_<;>intro hb<;>try omega)|fail)
    all_goals try (exfalso;omega)
    exact fH (.inl rfl) rfl rfl pK rfl rfl rfl (H' := [.own none 174 11 0 0 []]) mS ⟨none,0,rfl,rfl⟩
   ·
    rw [if_neg he]
    repeat' (first|(apply aa;exact rfl;exact rfl;(intro w hm;exact hcut w))|(apply aG (f:=153);exact rfl;exact rfl;(intro w' hm';exact hF w' (hW.next hm'));rintro _ _ ⟨A,cap,rfl,rfl⟩)|(apply ak;exact rfl;apply tJ;exact rfl;exact rfl)|refine sT ?_|refine sS ?_|refine sT2 ?_|refine sN ?_|refine sM fun _=> ?_|(refine sC ?_ ?_<;>intro hb<;>try omega)|fail)
    all_goals try (exfalso;omega)
    exact fH (.inl rfl) rfl rfl pK rfl rfl rfl (H' := [.own A 174 11 t.length cap (t.flatMap cj)]) mS ⟨A,cap,rfl,rfl⟩
end Go.SL
namespace Go.Proofs
open Go Go.Shelf Go.RowKit Go.Lib Go.Sort Go.SL
def Tryz.sortRf_ren:Go.Shelf.Ren:=⟨fun|6=>87|15=>138|14=>137|28=>177|29=>178|20=>169|21=>170|22=>171|23=>172|24=>173|25=>174|26=>175|27=>176|46=>217|47=>218|48=>219|49=>220|50=>221|57=>271|n=>n,fun|22=>65|24=>51|25=>155|3=>3|39=>75|0=>0|53=>265|55=>34|4=>4|46=>258|45=>257|50=>262|5=>5|9=>9|66=>303|70=>307|76=>351|77=>352|n=>n,fun|n=>n⟩
theorem Tryz.sortRf:Go.Proofs.SlLaysF0.n6 Tryz.prog Tryz.sortRf_ren:={
 mixed:=by kernel_rfl
 f6:=⟨Tryz.f87.name,by decide,Tryz.func87.trans (congrArg some (by kernel_rfl))⟩
 f14:=⟨Tryz.f137.name,by decide,Tryz.func137.trans (congrArg some (by kernel_rfl))⟩
 f15:=Tryz.func138.trans (congrArg some (by kernel_rfl))
 f20:=⟨Tryz.f169.name,by decide,Tryz.func169.trans (congrArg some (by kernel_rfl))⟩
 f21:=⟨Tryz.f170.name,by decide,Tryz.func170.trans (congrArg some (by kernel_rfl))⟩
 f22:=⟨Tryz.f171.name,by decide,Tryz.func171.trans (congrArg some (by kernel_rfl))⟩
 f23:=⟨Tryz.f172.name,by decide,Tryz.func172.trans (congrArg some (by kernel_rfl))⟩
 f24:=⟨Tryz.f173.name,by decide,Tryz.func173.trans (congrArg some (by kernel_rfl))⟩
 f25:=⟨Tryz.f174.name,by decide,Tryz.func174.trans (congrArg some (by kernel_rfl))⟩
 f26:=⟨Tryz.f175.name,by decide,Tryz.func175.trans (congrArg some (by kernel_rfl))⟩
 f27:=⟨Tryz.f176.name,by decide,Tryz.func176.trans (congrArg some (by kernel_rfl))⟩
 f28:=Tryz.func177.trans (congrArg some (by kernel_rfl))
 f29:=Tryz.func178.trans (congrArg some (by kernel_rfl))
 f46:=⟨Tryz.f217.name,by decide,Tryz.func217.trans (congrArg some (by kernel_rfl))⟩
 f47:=Tryz.func218.trans (congrArg some (by kernel_rfl))
 f48:=Tryz.func219.trans (congrArg some (by kernel_rfl))
 f49:=⟨Tryz.f220.name,by decide,Tryz.func220.trans (congrArg some (by kernel_rfl))⟩
 f50:=⟨Tryz.f221.name,by decide,Tryz.func221.trans (congrArg some (by kernel_rfl))⟩
 f57:=⟨Tryz.f271.name,by decide,Tryz.func271.trans (congrArg some (by kernel_rfl))⟩
 t0:=Tryz.underlying0
 a0:=Tryz.isAgg0
 z0:=Tryz.sizeOf0
 v0:=Tryz.zeroValue0
 t3:=Tryz.underlying3
 a3:=Tryz.isAgg3
 z3:=Tryz.sizeOf3
 v3:=Tryz.zeroValue3
 t4:=Tryz.underlying4
 a4:=Tryz.isAgg4
 z4:=Tryz.sizeOf4
 v4:=Tryz.zeroValue4
 t5:=Tryz.underlying5
 a5:=Tryz.isAgg5
 z5:=Tryz.sizeOf5
 v5:=Tryz.zeroValue5
 t9:=Tryz.underlying9
 a9:=Tryz.isAgg9
 z9:=Tryz.sizeOf9
 v9:=Tryz.zeroValue9
 t22:=Tryz.underlying65
 a22:=Tryz.isAgg65
 z22:=Tryz.sizeOf65
 v22:=Tryz.zeroValue65
 t25:=Tryz.underlying155
 a25:=Tryz.isAgg155
 z25:=Tryz.sizeOf155
 v25:=Tryz.zeroValue155
 t39:=Tryz.underlying75
 a39:=Tryz.isAgg75
 z39:=Tryz.sizeOf75
 v39:=Tryz.zeroValue75
 t45:=Tryz.underlying257
 a45:=Tryz.isAgg257
 z45:=Tryz.sizeOf257
 v45:=Tryz.zeroValue257
 t46:=Tryz.underlying258
 a46:=Tryz.isAgg258
 z46:=Tryz.sizeOf258
 v46:=Tryz.zeroValue258
 t50:=Tryz.underlying262
 a50:=Tryz.isAgg262
 z50:=Tryz.sizeOf262
 v50:=Tryz.zeroValue262
 t53:=Tryz.underlying265
 a53:=Tryz.isAgg265
 z53:=Tryz.sizeOf265
 v53:=Tryz.zeroValue265
 t55:=Tryz.underlying34
 a55:=Tryz.isAgg34
 z55:=Tryz.sizeOf34
 v55:=Tryz.zeroValue34
 t66:=Tryz.underlying303
 a66:=Tryz.isAgg303
 z66:=Tryz.sizeOf303
 v66:=Tryz.zeroValue303
 t70:=Tryz.underlying307
 a70:=Tryz.isAgg307
 z70:=Tryz.sizeOf307
 v70:=Tryz.zeroValue307
 t76:=Tryz.underlying351
 a76:=Tryz.isAgg351
 z76:=Tryz.sizeOf351
 v76:=Tryz.zeroValue351
 t77:=Tryz.underlying352
 a77:=Tryz.isAgg352
 z77:=Tryz.sizeOf352
 v77:=Tryz.zeroValue352 }
instance:Inhabited Rf:=⟨⟨0,0⟩⟩
end Go.Proofs
namespace Go.SL
open Go Go.Proofs Go.Sort Go.Shelf
def sortRf (L:List Rf):List Rf:=L.mergeSort fun x y=> !(bP y x)
end Go.SL
namespace Go.SL
open Go Go.Proofs
attribute [local irreducible] W WL WQ WG WA WX WLI WR WT VOp RW thn blk bG scp bg bi bT aQ FnIn FnP
def Nh (a:Rf):Value:= .agg (cu a).toArray
def gB (gg gm:Nat) (es:List (Rf × Value × Nat)) (clock:Nat):List Blk:= [.box gg 153 [.map (some gm)],.obj gm (oz Nh es clock)]
end Go.SL
namespace Go.SL
open Go Go.Proofs
attribute [local irreducible] W WL WQ WG WA VOp thn blk bG bg aQ FnIn WLI
def MW (n:Nd) (i:Nat) (r:List Nd):Us:=match r with
 |m::_=>if m.kind=7∧46≤m.fn then ⟨n.rect,((i+1:Nat):Int),m.fn⟩ else ⟨n.rect, -1,0⟩
 | []=>⟨n.rect, -1,0⟩
def tK:List Nd→Nat→List Us
 | [],_=> []
 |n::r,i=>bif Kx n then MW n i r::tK r (i+1) else tK r (i+1)
def MV (L:List Nd):List Us:=tK L 0
end Go.SL
namespace Go.SL
open Go Go.Proofs
attribute [local irreducible] W WL WQ WG WA VOp thn blk bG bg aQ FnIn WLI WR WT bT ve oq o7
def rel (u:Us):Bool:=decide (0≤u.node)
def MY (r:Rct) (u:Us):Bool:=(dV u.rect r).2
end Go.SL
namespace Go.SL
open Go
abbrev Gr:=List (Rf × List Nd × List Us)
def Aj (G:Gr):List Rf:=G.map fun e=>e.1
def SortG (G:Gr):Prop:=G.Pairwise fun x y=>bP x.1 y.1=true
def uB (G:Gr) (a:Rf):Option (List Nd × List Us):=(G.find? fun e=>decide (e.1=a)).map fun e=>e.2
def LB (G:Gr) (a:Rf):List Nd:=((uB G a).map fun x=>x.1).getD []
def za (G:Gr) (a:Rf):List Us:=((uB G a).map fun x=>x.2).getD []
def HJ (us:List Us) (r:Rct):Bool:=us.any (MY r)
def Cc (G:Gr) (r:Rct):List Rf:=if dU r≠0 then [] else (G.filter fun e=>HJ e.2.2 r).map fun e=>e.1
theorem qO {a b:Rf}:bP a b=true↔a.row<b.row∨(a.row=b.row∧a.col<b.col):=by simp [bP]
theorem FW (a:Rf):bP a a=false:=by simp [bP]
theorem rF {a b c:Rf} (h:bP a b=true) (k:bP b c=true):bP a c=true:=by
 rw [qO] at*
 omega
theorem IQ {a b:Rf} (h:a≠b):bP a b=true∨bP b a=true:=by
 rw [qO,qO]
 rcases Int.lt_trichotomy a.row b.row with h1|h1|h1
 ·
  exact .inl (.inl h1)
 ·
  rcases Int.lt_trichotomy a.col b.col with h2|h2|h2
  ·
   exact .inl (.inr ⟨h1,h2⟩)
  ·
   refine absurd ?_ h
   obtain ⟨a1,a2⟩:=a
   obtain ⟨b1,b2⟩:=b
   simp only at h1 h2
   subst h1 h2;rfl
  ·
   exact .inr (.inr ⟨h1.symm,h2⟩)
 ·
  exact .inr (.inl h1)
theorem IR {a b:Rf} (h:bP a b=true):a≠b:=by
 rintro rfl
 rw [FW] at h
 cases h
theorem SortG.nodup {G:Gr} (h:SortG G):(Aj G).Nodup:=by
 rw [Aj,List.Nodup,List.pairwise_map]
 exact h.imp fun h=>IR h
theorem CX {G:Gr} (h:SortG G) {a:Rf} {x:List Nd × List Us}:uB G a=some x↔(a,x)∈G:=by
 constructor
 ·
  intro hl
  obtain ⟨e,he,rfl⟩:=OK.1 hl
  have h1:=List.find?_some he
  have h2:=Qr he
  simp only [decide_eq_true_eq] at h1
  subst h1
  exact h2
 ·
  intro hm
  have hn:=h.nodup
  cases hf:G.find? fun e=>decide (e.1=a) with
  |none=>
   rw [Qa] at hf
   exact absurd (hf _ hm) (by simp)
  |some e=>
   have h1:=List.find?_some hf
   have h2:=Qr hf
   simp only [decide_eq_true_eq] at h1
   have:=uJ (fun e:Rf × List Nd × List Us=>e.1) hn h2 hm h1
   rw [uB,hf,this];rfl
theorem CY {G:Gr} {a:Rf}:uB G a=none↔ ∀ e∈G,e.1≠a:=by
 rw [uB,Option.map_eq_none_iff,Qa]
 simp
end Go.SL
namespace Go.SL
open Go Go.Proofs
attribute [local irreducible] W WL WQ WG WA WX WLI WR WT WC VOp RW thn blk bG scp bg bi bT aQ FnIn FnP ceP
theorem bZ {P:Program} {n:Fr} {w0:World} {Q:bO} {s:az} {H:List Blk} {l:List Oper} {id:Nat} (es ps:List Nat) (hm:P.follows .mixedOrders=true) (hB:Region.lexB .any l.toArray=true) (hch:Dx l es ps=true)
  (h:WC P n w0 l H es ps Q l 0 s H):W P n w0 (.region id l.toArray true) Q s H:=dX es ps H hm hB hch (MSub.refl H) h
structure En where
 at_:Rf
 ta:Option Addr
 tc:Nat
 ua:Option Addr
 uc:Nat
 tree:List Nd
 uses:List Us
 born:Nat
def En.tv (e:En):Value:= .slice e.ta e.tree.length e.tc
def En.uv (e:En):Value:= .slice e.ua e.uses.length e.uc
def En.m (e:En):Rf × Value × Nat:=(e.at_,.agg #[e.tv,e.uv],e.born)
def M6 (R:List Blk) (v:Value) (m:Nat) (xs:List Value):Prop:= ∀ w0 w,Mem w0 w R→Reads w v m xs
structure EnOk (R:List Blk) (e:En):Prop where
 tree:M6 R e.tv e.tree.length (e.tree.flatMap cj)
 uses:M6 R e.uv e.uses.length (e.uses.flatMap Nm)
 tl:e.tree.length≤1000000
 ul:e.uses.length≤1000000
def LI (a:Rf):En:=⟨a,none,0,none,0,[],[],0⟩
def wS (E:List En) (a:Rf):Option En:=E.find? fun e=>decide (e.at_=a)
def yn (E:List En) (a:Rf):En:=(wS E a).getD (LI a)
end Go.SL
namespace Go.SL
open Go
def En.abs (e:En):Rf × List Nd × List Us:=(e.at_,e.tree,e.uses)
structure GOk (R:List Blk) (E:List En) (clock:Nat) (G:Gr):Prop where
 ok:MapOk (E.map En.m) clock
 en: ∀ e∈E,EnOk R e
 rel: ∀ x,x∈E.map En.abs↔x∈G
 sort:SortG G
theorem GOk.look {R:List Blk} {E:List En} {clock:Nat} {G:Gr} (h:GOk R E clock G) (a:Rf):(wS E a).map (fun e=>(e.tree,e.uses))=uB G a:=by
 cases hf:wS E a with
 |some e=>
  have h1:=List.find?_some hf
  simp only [decide_eq_true_eq] at h1
  have h2:(a,e.tree,e.uses)∈G:=by
   rw [← h.rel]
   refine Pu.2 ⟨e,Qr hf,?_⟩
   rw [← h1];rfl
  rw [(CX h.sort).2 h2];rfl
 |none=>
  rw [wS,Qa] at hf
  symm
  rw [QA,CY]
  intro x hx
  rw [← h.rel] at hx
  obtain ⟨e,he,rfl⟩:=Pu.1 hx
  have:=hf e he
  simpa [En.abs] using this
theorem GOk.uses {R:List Blk} {E:List En} {clock:Nat} {G:Gr} (h:GOk R E clock G) (a:Rf):(yn E a).uses=za G a:=by
 rw [za,← h.look a,yn]
 cases wS E a<;>rfl
theorem GOk.tree {R:List Blk} {E:List En} {clock:Nat} {G:Gr} (h:GOk R E clock G) (a:Rf):(yn E a).tree=LB G a:=by
 rw [LB,← h.look a,yn]
 cases wS E a<;>rfl
end Go.SL
namespace Go.SL
open Go Go.Proofs
attribute [local irreducible] W WL WQ WG WA WX WLI WR WT WC VOp RW thn blk bG scp bg bi bT aQ FnIn FnP ceP ve oq o7
theorem ig {w0:World} {s:az} {H:List Blk} {ty t' :TypeId} {x y:Operand} {a b:Rf} {c:Bool} (h:decide (a≠b)=c) (hx:ev s x=some (.agg (cu a).toArray)) (hy:ev s y=some (.agg (cu b).toArray)):VOp Tryz.prog w0 s H (.binOp .neq 51 x y t') ty (.bool c):=by
 have h1:=LS (w0:=w0) (H:=H) (ty:=ty) (t' :=t') hx hy
 rw [ES] at h1
 rw [← h]
 have e:(!decide (a=b))=decide (a≠b):=by simp
 rwa [e] at h1
end Go.SL
namespace Go.SL
open Go Go.Proofs
attribute [local irreducible] W WL WQ WG WA WX WLI WR WT WC VOp RW thn blk bG scp bg bi bT aQ FnIn FnP ceP
structure Et where
 at_:Rf
 input:ByteArray
def aJ (e:Et):List Value:= [.int .i64 e.at_.col,.int .i64 e.at_.row,.string e.input]
theorem bo (e:Et):(aJ e).length=3:=rfl
def gU (b:Option Rf) (e:Et):Int:=if e.at_.valid=false then 3 else if (match b with|some p=>bP p e.at_|none=>true)=false then 12 else if e.input=au then 2 else (ofP e.input).2.2
def eH:Nat→Option Rf→List Et→Int × Int
 |_,_,[]=>(0,0)
 |i,b,e::r=>if gU b e≠0 then ((i:Int),gU b e) else eH (i+1) (some e.at_) r
def fA (L:List Et):Int × Int:=eH 0 none L
def ja (L:List Et) (i:Nat):Option Rf:=if i=0 then none else (L[i - 1]?).map Et.at_
set_option maxHeartbeats 2000000 in
theorem vM (L:List Et) (tv:Value) (w:World) (ht:Reads w tv L.length (L.flatMap aJ)) (hlen:L.length≤1000000) (hW:Words w):
    ax Tryz.prog 50 [tv] w (.tuple #[.int .i64 (fA L).1,.int .i64 (fA L).2]):=by
  obtain ⟨Al,cl,rfl,hl1,hl2,hl3⟩:=ht
  refine aq Tryz.func50 rfl Tryz.ntmps50 rfl ?_
  repeat' (first|refine sT ?_|refine sS ?_|refine sM fun _=> ?_|(refine sC ?_ ?_<;>intro hb<;>try omega)|fail)
  refine ay [0,2,3,9,10] rfl (fun i:Nat=> [(11,.int .i64 (i:Int))]) (fun _=> []) (fun i=>i≤L.length∧fA L=eH i (ja L i) (L.drop i)) (fun i=>L.length - i) 0 ⟨by omega,rfl⟩ sB (.refl _) ?_
  rintro i ⟨hi,hck⟩
  by_cases hlt:i<L.length
  · obtain ⟨gl,ol,rfl,hrl⟩:=hl3 (by omega)
    have he:=hrl.elem bo i hlt
    have hprev: ∀ h:0<i,Ro w gl (ol+(i - 1)*3) (aJ L[i - 1]):=fun h=>hrl.elem bo (i - 1) (by omega)
    have hbef: ∀ h:0<i,ja L i=some L[i - 1].at_:=fun h=>by unfold ja;rw [if_neg (by omega),NE (by omega)];rfl
    have hbef0:i=0→ja L i=none:=fun h=>by unfold ja;rw [if_pos h]
    have hnext:ja L (i+1)=some L[i].at_:=by unfold ja;rw [if_neg (by omega),Pa,NE hlt];rfl
    rw [NL hlt,eH,← hnext] at hck
    generalize L[i]=e at he hck
    have hV: ∀ w',ax Tryz.prog 64 [.agg (cu e.at_).toArray] w' (.bool e.at_.valid):=fun w' =>jL e.at_.col e.at_.row w'
    have hO:=fun (w' :World) (H' :List Blk) (hm:Mem w w' H')=>LH e.input w' (hW.next hm)
    by_cases h0:0<i
    · have hp:=hprev h0
      rw [hbef h0] at hck
      generalize L[i - 1]=b at hp hck
      have hL:=fun w' =>yG b.at_ e.at_ w'
      unfold gU at hck
      simp only at hck
      have hofV: ∀ (A:Option Nat) (cap:Nat),ofV A cap (ofP e.input)= .tuple #[.agg (A0 (ofP e.input).1 (sl A (ofP e.input).1.tree.length cap)).toArray,.int .i64 (ofP e.input).2.1,.int .i64 (ofP e.input).2.2]:=fun _ _=>rfl
      simp only [hofV] at hO
      generalize ofP e.input=o at hO hck
      obtain ⟨⟨f1,f2,f3⟩,oa,oe⟩:=o
      simp only [A0] at hO
      simp only at hck
      generalize e.at_.valid=vd at hV hck
      generalize bP b.at_ e.at_=ls at hL hck
      repeat' (first|(apply ak (d:=14);exact rfl;apply aj;exact rfl;exact rfl;exact hlt)|(apply ak (d:=15);exact rfl;apply aA;exact rfl;exact he;exact rfl)|(apply cC (d:=29);(iterate 3 exact rfl);apply eX (o:=ol+(i - 1)*3) (off:=0) hp (ys:=cu b.at_);(iterate 3 exact rfl))|(apply aa;exact rfl;exact rfl;(intro w hm;exact hV w))|(apply (bZ (id:=6) [11] []);kernel_rfl;kernel_rfl;kernel_rfl)|(apply cC;(iterate 3 exact rfl);apply aj (j:=i - 1);exact rfl;exact rfl;omega)|(apply aa (f:=60);exact rfl;exact rfl;(intro w' hm;exact hL w'))|(apply aG (f:=106);exact rfl;exact rfl;(intro w' hm;exact hO w' _ hm);rintro _ _ ⟨A,cap,rfl,rfl⟩)|refine sT ?_|refine sS ?_|refine sW ?_|refine sN ?_|refine sWN ?_|refine sM fun _=> ?_|(refine sC ?_ ?_<;>intro hb<;>try omega)|(refine sCW ?_ ?_<;>intro hb<;>try omega)|fail)
      all_goals clear hofV
      all_goals first
        |(refine jh eIO rfl rfl rfl (.nil _) ?_;rw [hck];simp_all [au];done)
        | (refine ⟨i + 1, ⟨hlt, ?_⟩, by omega, ?_, ?_, .nil _⟩
           · rw [hck];simp_all [au]
           · exact sB
           · exact sB)
    · have h00:i=0:=by omega
      rw [hbef0 h00] at hck
      unfold gU at hck
      simp only at hck
      have hofV: ∀ (A:Option Nat) (cap:Nat),ofV A cap (ofP e.input)= .tuple #[.agg (A0 (ofP e.input).1 (sl A (ofP e.input).1.tree.length cap)).toArray,.int .i64 (ofP e.input).2.1,.int .i64 (ofP e.input).2.2]:=fun _ _=>rfl
      simp only [hofV] at hO
      generalize ofP e.input=o at hO hck
      obtain ⟨⟨f1,f2,f3⟩,oa,oe⟩:=o
      simp only [A0] at hO
      simp only at hck
      generalize e.at_.valid=vd at hV hck
      repeat' (first|(apply ak (d:=14);exact rfl;apply aj;exact rfl;exact rfl;exact hlt)|(apply ak (d:=15);exact rfl;apply aA;exact rfl;exact he;exact rfl)|(apply aa;exact rfl;exact rfl;(intro w hm;exact hV w))|(apply (bZ (id:=6) [11] []);kernel_rfl;kernel_rfl;kernel_rfl)|(apply aG (f:=106);exact rfl;exact rfl;(intro w' hm;exact hO w' _ hm);rintro _ _ ⟨A,cap,rfl,rfl⟩)|refine sT ?_|refine sS ?_|refine sW ?_|refine sN ?_|refine sWN ?_|refine sM fun _=> ?_|(refine sC ?_ ?_<;>intro hb<;>try omega)|(refine sCW ?_ ?_<;>intro hb<;>try omega)|fail)
      all_goals clear hofV
      all_goals first
        |(refine jh eIO rfl rfl rfl (.nil _) ?_;rw [hck];simp_all [au];done)
        | (refine ⟨i + 1, ⟨hlt, ?_⟩, by omega, ?_, ?_, .nil _⟩
           · rw [hck];simp_all [au]
           · exact sB
           · exact sB)
  · have e2:i=L.length:=by omega
    subst e2
    rw [NW,eH] at hck
    repeat' (first|refine sT ?_|refine sS ?_|refine sM fun _=> ?_|(refine sC ?_ ?_<;>intro hb<;>try omega)|fail)
    all_goals (refine jh eIO rfl rfl rfl (.nil _) ?_;rw [hck])
end Go.SL
namespace Go.SL
open Go Go.Proofs
instance:DecidableEq Et:=fun a b=>decidable_of_iff (a.at_=b.at_∧a.input=b.input) (by
 obtain ⟨a1,a2⟩:=a
 obtain ⟨b1,b2⟩:=b
 simp)
theorem Nl {a b:Et}:a=b↔a.at_=b.at_∧a.input=b.input:=by
 obtain ⟨a1,a2⟩:=a
 obtain ⟨b1,b2⟩:=b
 simp
theorem HZ (w:World) (d:Nat) (a b:Et):(Op.equalIn (d+5) 53 (.agg (aJ a).toArray) (.agg (aJ b).toArray)).run Tryz.prog w= .ok (decide (a=b)) w:=by
 rw [run_equalIn_agg w (d+4) 53 _ _ (by rw [Program.fieldsOf,Tryz.underlying53]) Tryz.stoodInHeld53]
 simp only [Program.fieldsOf,Tryz.underlying53]
 have hr: ∀ (a b:Rf) w,(Op.equalIn (d+4) 51 (.agg #[.int .i64 a.col,.int .i64 a.row]) (.agg #[.int .i64 b.col,.int .i64 b.row])).run Tryz.prog w= .ok (eqF a b) w:=fun a b w=>sw w (d+1) a b
 simp [Op.eqFields,aJ,part,go_sem,qo,si,hr]
 by_cases h1:eqF a.at_ b.at_=true<;>by_cases h2:a.input=b.input<;>simp [h1,h2,Nl]<;>(rw [jz] at h1;exact h1)
section
variable {w0:World} {s:az} {H:List Blk} {ty t' :TypeId} {x y:Operand}
theorem Eh {a b:Et} (hx:ev s x=some (.agg (aJ a).toArray)) (hy:ev s y=some (.agg (aJ b).toArray)):VOp Tryz.prog w0 s H (.binOp .neq 53 x y t') ty (.bool (!decide (a=b))):=fun ρ w _ _ _ _ hρ _=>by
 have h:=HZ w 9995 a b
 simp only [Nat.reduceAdd] at h
 simp only [execOp,hρ x _ hx,hρ y _ hy,Sem.run_bind,run_eqGuard_agg w _ _ _ _ _ _ Tryz.eqGuardType53,Result.andThen_ok,run_neq_struct,h,Sem.run_pure]
end
end Go.SL
namespace Go.SL
open Go Go.Proofs
attribute [local irreducible] W WL WQ WG WA WX WLI WR WT WC VOp RW thn blk bG scp bg bi bT aQ FnIn FnP ceP
theorem sm (L M:List Et) (lv mv:Value) (w:World) (hl:Reads w lv L.length (L.flatMap aJ)) (hm:Reads w mv M.length (M.flatMap aJ)):
  ax Tryz.prog 16 [lv,mv] w (.bool (decide (L=M))):=by
 obtain ⟨Al,cl,rfl,hl1,hl2,hl3⟩:=hl
 obtain ⟨Am,cm,rfl,hm1,hm2,hm3⟩:=hm
 refine aq Tryz.func16 rfl Tryz.ntmps16 rfl ?_
 by_cases hlen:L.length=M.length
 ·
  repeat' (first|refine sT ?_|refine sS ?_|refine sM fun _=> ?_|(refine sC ?_ ?_<;>intro hb<;>try omega)|fail)
  refine fC (fun i:Nat=> [(0,.slice Al L.length cl),(1,.slice Am M.length cm),(5,.int .i64 (i:Int))]) (fun _=> []) (fun i=>i≤L.length∧decide (L=M)=decide (L.drop i=M.drop i)) (fun i=>L.length - i) 0 ⟨by omega,rfl⟩ ?_ ?_ ?_
  ·
   exact sB
  ·
   exact mS
  ·
   rintro i ⟨hi,hrec⟩
   by_cases hlt:i<L.length
   ·
    have hlt2:i<M.length:=by omega
    obtain ⟨gl,ol,rfl,hrl⟩:=hl3 (by omega)
    obtain ⟨gm,om,rfl,hrm⟩:=hm3 (by omega)
    have he1:=hrl.elem bo i hlt
    have he2:=hrm.elem bo i hlt2
    rw [iT hlt hlt2] at hrec
    repeat' (first|(apply aK;exact rfl;apply aj;exact rfl;exact rfl;(first|exact hlt|exact hlt2))|(apply aK;exact rfl;apply aA;exact rfl;(first|exact he1|exact he2);exact rfl)|(apply aK;exact rfl;apply Eh;exact rfl;exact rfl)|(apply ak;exact rfl;apply dg;exact rfl;exact rfl;(simp only [maxLen] at*;omega))|refine sT ?_|refine sS ?_|refine sQ ?_|refine sD ?_|refine sM fun _=> ?_|(refine sC ?_ ?_<;>intro hb<;>try omega)|(refine sCQ ?_ ?_<;>intro hb<;>try omega)|fail)
    ·
     (refine rT1 ?_)
     rw [hrec]
     simp_all
    ·
     refine ⟨i+1,⟨by omega,?_⟩,by omega,?_,?_⟩
     ·
      rw [hrec]
      simp_all
     ·
      exact sB
     ·
      exact mS
   ·
    have e:i=L.length:=by omega
    subst e
    repeat' (first|refine sT ?_|refine sS ?_|refine sM fun _=> ?_|(refine sC ?_ ?_<;>intro hb<;>try omega)|fail)
    (refine rT1 ?_)
    rw [hrec,NW,hlen,NW]
    rfl
 ·
  repeat' (first|refine sT ?_|refine sS ?_|refine sM fun _=> ?_|(refine sC ?_ ?_<;>intro hb<;>try omega)|fail)
  (refine rT1 ?_)
  rw [decide_eq_false]
  intro e
  exact hlen (congrArg List.length e)
end Go.SL
namespace Go.SL
open Go
theorem eD (c:Int):aC c=true↔48≤c∧c≤57:=by simp [aC]
theorem gS (c:Int):bN c=true↔(65≤c∧c≤90)∨(97≤c∧c≤122):=by simp [bN]
theorem KK (c:Int):bN c=false↔ ¬ ((65≤c∧c≤90)∨(97≤c∧c≤122)):=by rw [← gS];simp
theorem Ad (c:Int):bN (upC c)=bN c:=by
 rw [Om,gS,gS,upC]
 by_cases h:97≤c∧c≤122
 ·
  rw [if_pos h];omega
 ·
  rw [if_neg h]
theorem Js (c:Int):aC (upC c)=aC c:=by
 rw [Om,eD,eD,upC]
 by_cases h:97≤c∧c≤122
 ·
  rw [if_pos h];omega
 ·
  rw [if_neg h]
theorem Kc (c:Int):upC (upC c)=upC c:=by
 simp only [upC]
 split
 ·
  rw [if_neg (by omega)]
 ·
  rfl
theorem Kd {c:Int} (h:aC c=true):upC c=c:=by
 simp only [aC,NK,decide_eq_true_eq] at h
 rw [upC,if_neg (by omega)]
theorem pO: ∀ l:List Int,(l.map upC).takeWhile bN=(l.takeWhile bN).map upC
 | []=>rfl
 |c::r=>by
  simp only [Ow,PF,Ad]
  split
  ·
   rw [pO r];rfl
  ·
   rfl
theorem qh: ∀ l:List Int,(l.map upC).dropWhile bN=(l.dropWhile bN).map upC
 | []=>rfl
 |c::r=>by
  simp only [Ow,Qm,Ad]
  split
  ·
   rw [qh r]
  ·
   rfl
theorem rE: ∀ (l:List Int) (v:Int),bh (l.map upC) v=bh l v
 | [],_=>rfl
 |c::r,v=>by simp only [Ow,bh,Kc,rE r]
theorem JP: ∀ l:List Int,(l.map upC).all aC=l.all aC
 | []=>rfl
 |c::r=>by simp only [Ow,PP,Js,JP r]
theorem uz: ∀ {l:List Int},l.all aC=true→l.map upC=l
 | [],_=>rfl
 |c::r,h=>by
  simp only [PP,NK] at h
  simp only [Ow,Kd h.1,uz h.2]
theorem KR (l:List Int):((l.map upC).head? =some 48)↔(l.head? =some 48):=by
 cases l with
 |nil=>simp
 |cons c r=>
  simp only [Ow,List.head?_cons,Option.some.injEq,upC]
  split<;>omega
theorem JR (l:List Int):bX (l.map upC)=bX l:=by
 unfold bX
 simp only [pO,qh,List.map_eq_nil_iff,KR,JP,rE]
 split
 ·
  rfl
 ·
  rename_i h
  have hd:(l.dropWhile bN).all aC=true:=by
   cases hh:(l.dropWhile bN).all aC with
   |true=>rfl
   |false=>exact absurd (.inr (.inr (.inr hh))) h
  rw [uz hd]
theorem qK {p:Int→Bool}: ∀ {l:List Int} {n:Nat},n≤aB p l→aB p (l.take n)=n
 | [],n,h=>by simp [aB] at h;subst h;rfl
 |c::r,0,_=>rfl
 |c::r,n+1,h=>by
  simp only [aB] at h
  split at h
  ·
   rename_i hc
   simp only [OI,aB,hc,if_true]
   rw [qK (by omega)]
  ·
   omega
theorem pR {p:Int→Bool}: ∀ {l:List Int} {n:Nat},aB p l≤n→aB p (l.take n)=aB p l
 | [],n,_=>by simp
 |c::r,0,h=>by
  simp only [aB] at h
  split at h
  ·
   omega
  ·
   rename_i hc;simp [aB,hc]
 |c::r,n+1,h=>by
  simp only [aB] at h ⊢
  simp only [OI,aB]
  split at h
  ·
   rename_i hc;simp only [hc,if_true];rw [pR (by omega)]
  ·
   rename_i hc;simp [hc]
theorem m9 {l:List Int} (h:bS l≠0): ∃ r,l=46::r∧bS l=aB aC r:=by
 cases l with
 |nil=>exact absurd rfl h
 |cons c r=>
  by_cases hc:c=46
  ·
   subst hc;exact ⟨r,rfl,rfl⟩
  ·
   exact absurd (lZ hc) h
theorem Bd {l:List Int} {w p:Nat} (hw:aB aC l=w) (hp:bS (l.drop w)=p) (h0:w≠0) (h4:p≤4):
  gC (l.take (if p=0 then w else w+1+p))=if cF<bk (l.take w++(l.drop (w+1)).take p++List.replicate (4 - p) 48) 0 then (0,3) else (bk (l.take w++(l.drop (w+1)).take p++List.replicate (4 - p) 48) 0,0):=by
 have hwl:w≤l.length:=hw ▸ bR aC l
 obtain ⟨c,r,rfl⟩: ∃ c r,l=c::r:=by
  cases l with
  |nil=>simp [aB] at hw;omega
  |cons c r=>exact ⟨c,r,rfl⟩
 have hc:aC c=true:=jP (c::r) 0 c (by omega) rfl
 have hc45:c≠45:=by simp only [aC,NK,decide_eq_true_eq] at hc;omega
 have hneg: ∀ n,0<n→decide (((c::r).take n).head? =some 45)=false:=by
  intro n hn
  cases n with
  |zero=>omega
  |succ n=>simp [hc45]
 by_cases hp0:p=0
 ·
  subst hp0
  rw [if_pos rfl]
  unfold gC
  have hrun:aB aC ((c::r).take w)=w:=qK (by omega)
  have hdrop:((c::r).take w).drop w= []:=by rw [List.drop_eq_nil_iff,NZ];omega
  have htt:((c::r).take w).take w=(c::r).take w:=by rw [List.take_take,Nat.min_self]
  simp only [hneg w (by omega),OT,if_false,hrun,hdrop,htt]
  simp [h0]
 ·
  rw [if_neg hp0]
  obtain ⟨q,hq,hq2⟩:=m9 (l:=(c::r).drop w) (by omega)
  have hpq:aB aC q=p:=by omega
  have hpl:p≤q.length:=hpq ▸ bR aC q
  have hlen:(c::r).length=w+1+q.length:=by
   have:=congrArg List.length hq
   rw [NP] at this
   simp only [N8] at this ⊢
   omega
  have hd1:(c::r).drop (w+1)=q:=by
   rw [← O0,hq];rfl
  have hrun:aB aC ((c::r).take (w+1+p))=w:=by rw [pR (by omega)];exact hw
  have hdrop:((c::r).take (w+1+p)).drop w=46::q.take p:=by
   rw [List.drop_take,hq,show w+1+p - w=p+1 by omega];rfl
  have htt:((c::r).take (w+1+p)).take w=(c::r).take w:=by rw [List.take_take,Ps (by omega)]
  have hrp:aB aC (q.take p)=p:=qK (by omega)
  have hlp:(q.take p).length=p:=by rw [NZ];omega
  unfold gC
  simp only [hneg (w+1+p) (by omega),OT,if_false,hrun,hdrop,htt,List.tail_cons,hrp,hd1]
  have hfrac:(decide (1<(46::q.take p).length) && (decide ((46::q.take p).head? =some 46) && decide (p+1=(46::q.take p).length)))=true:=by
   simp only [N8,hlp,List.head?_cons,decide_true,O8,Qk]
   simp;omega
  simp only [hfrac,if_true]
  have h5:(q.take p++ [48,48,48,48,48]).getD 4 0=48:=by
   rw [NX,OC (by omega),hlp]
   rcases (by omega:p=1∨p=2∨p=3∨p=4) with rfl|rfl|rfl|rfl<;>rfl
  have h6:(q.take p++ [48,48,48,48,48]).take 4=q.take p++List.replicate (4 - p) 48:=by
   rw [List.take_append,hlp,N9 (by omega)]
   rcases (by omega:p=1∨p=2∨p=3∨p=4) with rfl|rfl|rfl|rfl<;>rfl
  rw [if_neg (by simp [h0])]
  simp only [h5,h6]
  rw [if_neg (show ¬ (53:Int)≤48 by decide),Int.add_zero,OA]
theorem ut (l:List Int):fu l=(kq l).map fun x=>(⟨1,x.1,au,aM,0⟩,x.2):=by
 unfold fu kq
 dsimp only
 split
 ·
  rfl
 ·
  rename_i h
  have h0:aB aC l≠0:=fun e=>h (.inl e)
  have h4:bS (l.drop (aB aC l))≤4:=by
   rcases Po 4 (bS (l.drop (aB aC l))) with h4|h4
   ·
    exact absurd (.inr h4) h
   ·
    exact h4
  rw [Bd rfl rfl h0 h4]
  split
  ·
   rfl
  ·
   rfl
theorem ze (m:List Int):kK (34::34::m)=(kK m).map (34:: ·):=by
 rw [kK.eq_def]
 simp
theorem zo: ∀ (n:Nat) (l:List Int),l.length≤n→j5 l=(cD l).bind fun k=>(kK (l.take k)).map fun t=>(t,k+1):=by
 intro n
 induction n with
 |zero=>intro l h;have:l= []:=Oo (by omega);subst this;rfl
 |succ n ih=>
  intro l h
  cases l with
  |nil=>rfl
  |cons c r=>
   simp only [N8] at h
   by_cases hc:c=34
   ·
    subst hc
    cases r with
    |nil=>rfl
    |cons d r' =>
     simp only [N8] at h
     by_cases hd:d=34
     ·
      subst hd
      rw [j5.eq_def,cD.eq_def]
      simp only [ne_eq,not_true,if_false,if_true]
      rw [ih r' (by omega)]
      cases hk:cD r' with
      |none=>rfl
      |some k=>
       simp only [OM,Option.bind_some]
       rw [OI,OI,ze]
       cases kK (r'.take k)<;>rfl
     ·
      rw [j5.eq_def,cD.eq_def]
      simp [hd,kK]
   ·
    rw [j5.eq_def,kv hc]
    simp only [ne_eq,hc,not_false_eq_true,if_true]
    rw [ih r (by omega)]
    cases hk:cD r with
    |none=>rfl
    |some k=>
     simp only [OM,Option.bind_some]
     rw [OI,qJ hc]
     cases kK (r.take k)<;>rfl
theorem Ge: ∀ (n:Nat) (l:List Int) (k:Nat),l.length≤n→cD l=some k→l[k]? =some 34∧ ∃ t,kK (l.take k)=some t∧t.length≤k:=by
 intro n
 induction n with
 |zero=>intro l k h hk;have:l= []:=Oo (by omega);subst this;cases hk
 |succ n ih=>
  intro l k h hk
  cases l with
  |nil=>cases hk
  |cons c r=>
   simp only [N8] at h
   by_cases hc:c=34
   ·
    subst hc
    cases r with
    |nil=>cases hk;exact ⟨rfl,[],rfl,NJ _⟩
    |cons d r' =>
     simp only [N8] at h
     by_cases hd:d=34
     ·
      subst hd
      rw [cD.eq_def] at hk
      simp only [ne_eq,not_true,if_false,if_true] at hk
      cases hk' :cD r' with
      |none=>rw [hk'] at hk;cases hk
      |some j=>
       rw [hk'] at hk
       cases hk
       obtain ⟨h1,t,h2,h3⟩:=ih r' j (by omega) hk'
       refine ⟨h1,34::t,?_,by simp only [N8];omega⟩
       rw [OI,OI,ze,h2];rfl
     ·
      rw [cD.eq_def] at hk
      simp [hd] at hk
      subst hk
      exact ⟨rfl,[],rfl,NJ _⟩
   ·
    rw [kv hc] at hk
    cases hk' :cD r with
    |none=>rw [hk'] at hk;cases hk
    |some j=>
     rw [hk'] at hk
     cases hk
     obtain ⟨h1,t,h2,h3⟩:=ih r j (by omega) hk'
     refine ⟨h1,c::t,?_,by simp only [N8];omega⟩
     rw [OI,qJ hc,h2];rfl
theorem HK {r:List Int} (hp:(34::r).all (fun c=>bq c)=true) (hl:r.length≤256):mQ (34::r)=(j5 r).map fun x=>(⟨2,0,mkB x.1,aM,0⟩,x.2+1):=by
 unfold mQ
 rw [zo r.length r (NJ _)]
 simp only [O3,ne_eq,not_true,if_false,P8,O4]
 cases hk:cD r with
 |none=>rfl
 |some k=>
  obtain ⟨h1,t,h2,h3⟩:=Ge r.length r k (NJ _) hk
  obtain ⟨hkl,h1⟩:=NV.1 h1
  have e1:(34::r).take (k+2)=34::r.take (k+1):=rfl
  have e2:r.take (k+1)=r.take k++ [34]:=by rw [NT hkl,h1]
  have hall:(34::r.take (k+1)).all (fun c=>bq c)=true:=by
   rw [← e1]
   rw [OY] at hp ⊢
   exact fun x hx=>hp x (OO hx)
  have e3:fQ (34::r.take (k+1))=(t,0):=by
   unfold fQ
   rw [hall]
   rw [if_neg (by rw [e2];simp [List.getLast?_cons])]
   have:((34::r.take (k+1)).drop 1).dropLast=r.take k:=by rw [P8,O4,e2,Qj]
   rw [this,h2]
   simp only
   rw [if_neg (by omega)]
  simp only [e1,e3,Option.bind_some,h2,OM]
  simp
theorem HC (l:List Int):upW l=(l.take (aB cL l)).map upC:=rfl
theorem Ns (l:List Int):bX (upW l)=bX (l.take (aB cL l)):=by rw [HC,JR]
def jn (l:List Int):Option (Tk × Nat):=match ku l with
 |some x=>some x
 |none=>gX l
theorem uR {l:List Int} (h:l.headD 0≠35): ∀ (ns:List (List Int)) (k:Int),(∀ s∈ns,s.head? =some 35)→jV l ns k=none
 | [],_,_=>rfl
 |s::r,k,hs=>by
  have h1:=hs s NI
  rw [jV,if_neg,uR h r _ fun s hs' =>hs s (NQ _ hs')]
  intro e
  cases s with
  |nil=>cases h1
  |cons a s=>
   cases h1
   cases l with
   |nil=>cases e
   |cons c l=>
    simp only [N8,OI,Ow,List.cons.injEq] at e
    simp only [O3] at h
    have:=e.1
    simp only [upC] at this
    split at this<;>omega
theorem mh {l:List Int} (h:l.headD 0≠35):ku l=none:=by
 unfold ku
 rw [uR h dI 1 (by decide)]
 rfl
def p6:List Int:= [60,62,43,45,42,47,94,38,61,37]
theorem uo {l:List Int} (h:l.headD 0∉p6): ∀ ns:List (List Int × Int),(∀ s∈ns,∃ c,s.1.head? =some c∧c∈p6)→opL l ns=none
 | [],_=>rfl
 |(s,k)::r,hs=>by
  obtain ⟨a,h1,h2⟩:=hs (s,k) NI
  rw [opL,if_neg,uo h r fun s hs' =>hs s (NQ _ hs')]
  intro e
  cases s with
  |nil=>cases h1
  |cons b s=>
   cases h1
   cases l with
   |nil=>cases e
   |cons c l=>
    simp only [N8,OI,List.cons.injEq] at e
    simp only [O3] at h
    exact h (e.1 ▸ h2)
theorem o3 {l:List Int} (h:l.headD 0∉p6) (h1:l.headD 0≠40) (h2:l.headD 0≠41) (h3:l.headD 0≠44):gX l=none:=by
 unfold gX
 rw [uo h eP (by decide)]
 simp only [h1,h2,h3,if_false]
theorem xZ {l:List Int} (h:aC (l.headD 0)=false):fu l=none:=by
 unfold fu
 have:aB aC l=0:=by
  cases l with
  |nil=>rfl
  |cons c r=>simp only [O3] at h;simp [aB,h]
 simp [this]
theorem tQ {l:List Int} (h:l.headD 0≠34):mQ l=none:=by
 unfold mQ
 rw [if_pos h]
theorem oY {l:List Int} (h:bN (l.headD 0)=false):gK l=none:=by
 unfold gK
 rw [if_pos h]
def bC (l:List Int):Option (Tk × Nat):=
 if aC (l.headD 0) then (kq l).map fun x=>(⟨1,x.1,au,aM,0⟩,x.2)
 else if l.headD 0=34 then (j5 l.tail).map fun x=>(⟨2,0,mkB x.1,aM,0⟩,x.2+1)
 else if bN (l.headD 0) then gK l
 else jn l
theorem rz (c:Int):c∈p6↔c=60∨c=62∨c=43∨c=45∨c=42∨c=47∨c=94∨c=38∨c=61∨c=37:=by simp [p6]
theorem Fu {l:List Int} (hp:l.all (fun c=>bq c)=true) (hl:l.length≤256):dZ l=bC l:=by
 have hF:dZ l=match fu l with
  |some x=>some x
  |none=>match mQ l with
   |some x=>some x
   |none=>match gK l with
    |some x=>some x
    |none=>jn l:=by
  unfold dZ mV mg jn
  cases fu l<;>simp only [mg]
  cases mQ l<;>simp only
  cases gK l<;>simp only
  cases ku l<;>simp only
  cases gX l<;>rfl
 rw [hF]
 unfold bC
 by_cases h1:aC (l.headD 0)=true
 ·
  have h1' :=(eD _).1 h1
  rw [if_pos h1,← ut,tQ (by omega),oY ((KK _).2 (by omega)),jn,mh (by omega),o3 (by rw [rz];omega) (by omega) (by omega) (by omega)]
  cases fu l<;>rfl
 ·
  rw [if_neg h1]
  have h1' :aC (l.headD 0)=false:=by simpa using h1
  rw [xZ h1']
  by_cases h2:l.headD 0=34
  ·
   rw [if_pos h2]
   cases l with
   |nil=>cases h2
   |cons c r=>
    simp only [O3] at h2
    subst h2
    rw [HK hp (by simp only [N8] at hl;omega),List.tail_cons,oY (by rw [O3];decide),jn,mh (by rw [O3];decide),o3 (by rw [O3];decide) (by rw [O3];decide) (by rw [O3];decide) (by rw [O3];decide)]
    cases j5 r<;>rfl
  ·
   rw [if_neg h2,tQ h2]
   by_cases h3:bN (l.headD 0)=true
   ·
    have h3' :=(gS _).1 h3
    rw [if_pos h3,jn,mh (by omega),o3 (by rw [rz];omega) (by omega) (by omega) (by omega)]
    cases gK l<;>rfl
   ·
    rw [if_neg h3,oY (by simpa using h3)]
theorem Ci {l:List Int} (hp:l.all (fun c=>bq c)=true) (hl:l.length≤256): ∀ f i,ba dZ l f i=ba bC l f i:=by
 intro f
 induction f with
 |zero=>intro i;rfl
 |succ f ih=>
  intro i
  simp only [ba]
  have h1:(l.drop i).all (fun c=>bq c)=true:=by
   rw [OY] at hp ⊢
   exact fun x hx=>hp x (Py hx)
  rw [Fu h1 (by rw [NP];omega)]
  simp only [ih]
theorem Ch (l:List Int):bL dZ l=bL bC l:=by
 unfold bL
 split
 ·
  rfl
 ·
  rename_i hl
  cases h:l.findIdx? (fun c=> !bq c) with
  |some i=>rfl
  |none=>
   simp only
   rw [Ci _ (by omega)]
   rw [Pd] at h
   rw [OY]
   intro x hx
   have:=h x hx
   simpa using this
def Chain:List Tk→Prop
 | []=>True
 |t::r=>(1≤t.kind∧t.kind≤11)∧(t.kind=7→(r.headD cY).kind=9)∧Chain r
theorem De {l:List Int} {t:Tk} {n:Nat} (h:ku l=some (t,n)):t.kind=4:=by
 unfold ku at h
 obtain ⟨x,_,hx⟩:=OK.1 h
 cases hx;rfl
theorem Cr {l:List Int} {t:Tk} {n:Nat} (h:gX l=some (t,n)):8≤t.kind∧t.kind≤11:=by
 unfold gX at h
 split at h
 ·
  cases h;simp
 ·
  split at h
  ·
   cases h;simp
  ·
   split at h
   ·
    cases h;simp
   ·
    split at h
    ·
     cases h;simp
    ·
     cases h
theorem Cq {l:List Int} {t:Tk} {n:Nat} (h:jn l=some (t,n)):(1≤t.kind∧t.kind≤11)∧t.kind≠7:=by
 unfold jn at h
 split at h
 ·
  rename_i x hx
  cases h
  have:=De hx
  omega
 ·
  have:=Cr h
  omega
theorem BM {l:List Int} {t:Tk} {n:Nat} (h:gK l=some (t,n)):(1≤t.kind∧t.kind≤11)∧(t.kind=7→(l.drop n).headD 0=40):=by
 unfold gK at h
 split at h
 ·
  cases h
 ·
  split at h
  ·
   rename_i h1
   cases h
   exact ⟨by simp,fun _=>h1⟩
  ·
   split at h
   ·
    cases h;simp
   ·
    split at h
    ·
     cases h;simp
    ·
     split at h
     ·
      cases h
     ·
      split at h
      ·
       cases h
       simp only
       split<;>simp
      ·
       cases h;simp
theorem zm {l:List Int} {t:Tk} {n:Nat} (h:bC l=some (t,n)):(1≤t.kind∧t.kind≤11)∧(t.kind=7→(l.drop n).headD 0=40):=by
 unfold bC at h
 split at h
 ·
  obtain ⟨x,_,hx⟩:=OK.1 h
  cases hx;simp
 ·
  split at h
  ·
   obtain ⟨x,_,hx⟩:=OK.1 h
   cases hx;simp
  ·
   split at h
   ·
    exact BM h
   ·
    have:=Cq h
    exact ⟨this.1,fun e=>absurd e this.2⟩
theorem mP (l:List Int):Fits l (bC l):=by
 intro t n h
 by_cases hd:aC (l.headD 0)=true
 ·
  unfold bC at h
  rw [if_pos hd,← ut] at h
  exact rA l t n h
 ·
  unfold bC at h
  rw [if_neg hd] at h
  split at h
  ·
   rename_i hq
   cases l with
   |nil=>cases hq
   |cons c r=>
    obtain ⟨⟨x,m⟩,hx,he⟩:=OK.1 h
    cases he
    rw [List.tail_cons,zo r.length r (NJ _)] at hx
    obtain ⟨k,hk,hk2⟩:=Option.bind_eq_some_iff.1 hx
    obtain ⟨y,_,hy⟩:=OK.1 hk2
    cases hy
    have:=oh r.length r k (NJ _) hk
    simp only [N8]
    omega
  ·
   split at h
   ·
    exact vX l t n h
   ·
    unfold jn at h
    split at h
    ·
     rename_i x hx
     cases h
     exact wW l t n hx
    ·
     exact ww l t n h
theorem zl {l:List Int} (h:l.headD 0=40): ∃ n,bC l=some (⟨9,0,au,aM,0⟩,n):=by
 unfold bC
 rw [h,if_neg (by decide),if_neg (by decide),if_neg (by decide),jn,mh (by omega)]
 simp only
 unfold gX
 rw [uo (by rw [h];decide) eP (by decide)]
 simp only [h,if_true]
 exact ⟨1,rfl⟩
theorem xK {l:List Int} {f i:Nat} {r:List Tk} (h:ba bC l (f+1) i= .ok r) (h1:(l.drop i).headD 0=40):(r.headD cY).kind=9:=by
 simp only [ba] at h
 cases hd:l.drop i with
 |nil=>rw [hd] at h1;cases h1
 |cons c q=>
  rw [hd] at h1 h
  simp only [O3] at h1
  subst h1
  obtain ⟨n,hn⟩:=zl (l:=40::q) rfl
  simp only [hn] at h
  rw [if_neg (by decide)] at h
  cases hr:ba bC l f (i+n) with
  |error e=>rw [hr] at h;cases h
  |ok r' =>rw [hr] at h;cases h;rfl
theorem vz {l:List Int}: ∀ (f i:Nat) (r:List Tk),l.length - i≤f→ba bC l f i= .ok r→Chain r:=by
 intro f
 induction f with
 |zero=>intro i r _ h;cases h;trivial
 |succ f ih=>
  intro i r hf h
  simp only [ba] at h
  cases hd:l.drop i with
  |nil=>rw [hd] at h;cases h;trivial
  |cons c q=>
   rw [hd] at h
   have hlen:(l.drop i).length=q.length+1:=by rw [hd];rfl
   rw [NP] at hlen
   simp only at h
   split at h
   ·
    exact ih (i+1) r (by omega) h
   ·
    cases ht:bC (c::q) with
    |none=>rw [ht] at h;cases h
    |some x=>
     obtain ⟨t,n⟩:=x
     rw [ht] at h
     simp only at h
     have hfit:=mP _ t n ht
     cases hr:ba bC l f (i+n) with
     |error e=>rw [hr] at h;cases h
     |ok r' =>
      rw [hr] at h
      cases h
      have hk:=zm ht
      refine ⟨hk.1,fun h7=> ?_,ih (i+n) r' (by omega) hr⟩
      have h40:=hk.2 h7
      rw [← hd,O0] at h40
      cases f with
      |zero=>
       have:l.drop (i+n)= []:=by rw [List.drop_eq_nil_iff];omega
       rw [this] at h40;cases h40
      |succ f=>exact xK hr h40
theorem vw (l:List Int):Chain (bL bC l).1:=by
 unfold bL
 split
 ·
  trivial
 ·
  split
  ·
   trivial
  ·
   split
   ·
    rename_i r hr
    exact vz _ _ _ (by omega) hr
   ·
    trivial
theorem Chain.drop: ∀ {l:List Tk} (k:Nat),Chain l→Chain (l.drop k)
 |l,0,h=>h
 | [],k+1,h=>h
 |_::_,k+1,h=>Chain.drop k h.2.2
theorem Chain.name {l:List Tk} {fin:Int} (h:Chain l) (h7:(hdT fin l).kind=7):(hdT fin l.tail).kind=9:=by
 cases l with
 |nil=>cases h7
 |cons t r=>
  have h9:=h.2.1 h7
  cases r with
  |nil=>cases h9
  |cons u r=>exact h9
theorem Chain.kind {l:List Tk} {fin:Int} (h:Chain l):(hdT fin l).kind=0↔l= []:=by
 cases l with
 |nil=>exact ⟨fun _=>rfl,fun _=>rfl⟩
 |cons t r=>
  have:=h.1
  constructor
  ·
   intro e
   simp only [hdT,O3] at e
   omega
  ·
   intro e;cases e
end Go.SL
