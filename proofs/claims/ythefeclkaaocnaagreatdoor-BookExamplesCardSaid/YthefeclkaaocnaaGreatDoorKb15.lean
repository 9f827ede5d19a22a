/-
  Lemmas and walks, put together: D2 D3 S1 S2 S3 S4 D4 W28 W29 W30 Gp D5 D6 D7 Gq D8 D9 D10 D11 D12 E2 K1 Lq Lr Q1 Q2 Q3 Q4 Q5 W15 W16 W17 Rw Lc R1 W31 W32 Tr Tr2 W18 W19 W20 W21 W22 Tr5 W36 W37 R2 R3 R4 R5 R6 R7 R8 R9 R10 R11 R12 Q6 Q7 Oq Q8 Q9 W33 W34 Lu Gu Q10 Q11 Q12 Q13 Q14 Q15 Ex L1 D13 G1a G1 L2 Lo Fd Fc Sl29 Sl30 Sl31 Sl32.
-/
import Derived.Shelf.SlSortCmp.NoneTotal
import Derived.ChangeKeysEq
import Derived.Laws.Bits64
import Derived.OpenShut
import Derived.ProofKit
import Derived.Carry
import Derived.Deep.Slices
import Derived.LaidMore
import Derived.Lay
import Derived.SevenTiedAt
import Derived.Stop.Joined
import Derived.Deep.AppendSrc
import Derived.Test.YthefeclkaaocnaaGreatDoorRows
import Derived.Test.YthefeclkaaocnaaGreatDoorTie
import Derived.Test.YthefeclkaaocnaaGreatDoorCards
import Derived.Test.YthefeclkaaocnaaGreatDoorKb14
set_option linter.unusedSimpArgs false
set_option linter.unusedVariables false
set_option maxRecDepth 20000
namespace Go.SL
open Go Go.Proofs
attribute [local irreducible] W WL WQ WG WA WX WLI WR WT VOp RW thn blk cutP scp retP retPP endB FnAt FnIn FnP
theorem glyph1 {a:ByteArray} {i:Nat} (h:i<a.size):glyphE (sub a i (i+1))=if plainC (bat a i) then 0 else 4:=by
 have h1:ints (sub a i (i+1))= [bat a i]:=by
  rw [ints_sub,bat_drop h,Nat.add_sub_cancel_left]
  rfl
 have h2:(sub a i (i+1)).size=1:=by rw [sub_size a (by omega)];omega
 simp only [glyphE,h2,plainB_ints,h1]
 cases h:plainC (bat a i)<;>simp [h]
structure Mn where
 formula:Bool
 v:Vl
 tree:List Nd
def eqB:ByteArray:=⟨#[61]⟩
def zeroMn:Mn:=⟨false,zeroV,[]⟩
def ofP (b:ByteArray):Mn × Int × Int:=
 if 256<b.size then (zeroMn,0,5)
 else match (ints b).findIdx? (fun c=> !plainC c) with
  |some i=>(zeroMn,(i:Int),4)
  |none=>
   if (cutB b eqB).2=false then (⟨false,constP b,[]⟩,0,0)
   else match formulaV (tokensV tokenP (ints (cutB b eqB).1)) ((cutB b eqB).1.size:Int) with
    |(t,at_,e)=>if e≠0 then (zeroMn,IntKind.i64.wrap (at_+1),e) else (⟨true,zeroV,t⟩,0,0)
def encM (m:Mn) (tv:Value):List Value:= [.bool m.formula,.int .u8 m.v.kind,.int .i64 m.v.num,.string m.v.text,tv]
def ofV (A:Option Nat) (cap:Nat) (r:Mn × Int × Int):Value:= .tuple #[.agg (encM r.1 (sl A r.1.tree.length cap)).toArray,.int .i64 r.2.1,.int .i64 r.2.2]
set_option maxHeartbeats 2000000 in
theorem Of_at (b:ByteArray) (w:World) (hW:Words w):FnAt Tryz.prog 106 [.string b] w fun v H=> ∃ A cap,v=ofV A cap (ofP b)∧H= [.own A 174 11 (ofP b).1.tree.length cap ((ofP b).1.tree.flatMap encN)]:=by
 refine fn_at Tryz.func106 rfl Tryz.ntmps106 rfl ?_
 refine w_nilrow 174 11 ?_
 unfold ofP
 by_cases hlen:256<b.size
 ·
  rw [if_pos hlen]
  repeat' (first|refine sT ?_|refine sS ?_|refine sT2 ?_|refine sM fun _=> ?_|(refine sC ?_ ?_<;>intro hb<;>try omega)|fail)
  all_goals first
   |(exfalso;omega)
   |exact retctt (.inl rfl) rfl rfl pK rfl rfl rfl (H' := [.own none 174 11 0 0 []]) mS ⟨none,0,rfl,rfl⟩
 rw [if_neg hlen]
 repeat' (first|refine sT ?_|refine sS ?_|refine sT2 ?_|refine sM fun _=> ?_|(refine sC ?_ ?_<;>intro hb<;>try omega)|fail)
 all_goals first|(exfalso;omega)|skip
 rename_i g2
 refine w_loopK [0,2,14] rfl (fun i:Nat=> [(15,.int .i64 (i:Int))]) (fun _=> [.box g2 192 [.bool false,.int .u8 0,.int .i64 0,.string emptyB,.slice none 0 0],.own none 174 11 0 0 []]) (fun i=>i≤b.size∧ ∀ j,j<i→plainC (bat b j)=true) (fun i=>b.size - i) 0 ⟨by omega,fun j h=>by omega⟩ sB mS ?_
 rintro i ⟨hi,hpl⟩
 by_cases hlt:i<b.size
 ·
  have hg:=glyph1 hlt
  have hG:=fun w=>glyph_at (sub b i (i+1)) w
  rw [hg] at hG
  by_cases hc:plainC (bat b i)=true
  ·
   rw [if_pos hc] at hG
   repeat' (first|((with_reducible apply wl_v);exact rfl;(with_reducible apply v_sub2);(iterate 3 exact rfl);exact ⟨by omega,by omega⟩)|((with_reducible apply wl_callp);exact rfl;exact rfl;(intro w hm;exact hG w))|refine sT ?_|refine sS ?_|refine sT2 ?_|refine sN ?_|refine sM fun _=> ?_|(refine sC ?_ ?_<;>intro hb<;>try omega)|fail)
   all_goals first|(exfalso;omega)|skip
   refine ⟨i+1,?_,(by first|omega|(dsimp only;omega)),sB,sB,mS⟩
   refine ⟨hlt,fun j hj=> ?_⟩
   rcases (by omega:j<i∨j=i) with h|rfl
   ·
    exact hpl j h
   ·
    exact hc
  ·
   rw [if_neg hc] at hG
   repeat' (first|((with_reducible apply wl_v);exact rfl;(with_reducible apply v_sub2);(iterate 3 exact rfl);exact ⟨by omega,by omega⟩)|((with_reducible apply wl_callp);exact rfl;exact rfl;(intro w hm;exact hG w))|refine sT ?_|refine sS ?_|refine sT2 ?_|refine sN ?_|refine sM fun _=> ?_|(refine sC ?_ ?_<;>intro hb<;>try omega)|fail)
   all_goals first|(exfalso;omega)|skip
   have hf:(ints b).findIdx? (fun c=> !plainC c)=some i:=find_bat hlt (by simp [hc]) fun j hj=>by rw [hpl j hj];rfl
   rw [hf]
   exact retctt (.inl rfl) rfl rfl pK rfl rfl rfl (H' := [.own none 174 11 0 0 []]) mS ⟨none,0,rfl,rfl⟩
 ·
  have e:i=b.size:=by omega
  subst e
  have hf:(ints b).findIdx? (fun c=> !plainC c)=none:=nofind_bat fun j hj=>by rw [hpl j hj];rfl
  rw [hf]
  dsimp only
  have hcut:=fun w=>cut_at b eqB (by omega) w
  obtain ⟨⟨rest,is⟩,hx⟩: ∃ x,cutB b eqB=x:=⟨_,rfl⟩
  rw [hx] at hcut ⊢
  cases is with
  |false=>
   rw [if_pos rfl]
   repeat' (first|((with_reducible apply wl_callp);exact rfl;exact rfl;(intro w hm;exact hcut w))|((with_reducible apply wl_callp (f:=152));exact rfl;exact rfl;(intro w' hm';exact constant_at b (by omega) w' (hW.next hm')))|refine sT ?_|refine sS ?_|refine sT2 ?_|refine sN ?_|refine sM fun _=> ?_|(refine sC ?_ ?_<;>intro hb<;>try omega)|fail)
   all_goals first|(exfalso;omega)|skip
   exact retctt (.inl rfl) rfl rfl pK rfl rfl rfl (H' := [.own none 174 11 0 0 []]) mS ⟨none,0,rfl,rfl⟩
  |true=>
   rw [if_neg (by simp)]
   dsimp only
   have hF:=fun (w' :World) (h:Words w')=>Formula_at rest w' h _ rfl
   obtain ⟨⟨t,at0,e0⟩,hr⟩: ∃ x,formulaV (tokensV tokenP (ints rest)) (rest.size:Int)=x:=⟨_,rfl⟩
   simp only [hr,treeV] at hF
   rw [hr]
   dsimp only
   by_cases he:e0≠0
   ·
    rw [if_pos he]
    repeat' (first|((with_reducible apply wl_callp);exact rfl;exact rfl;(intro w hm;exact hcut w))|((with_reducible apply wl_call (f:=153));exact rfl;exact rfl;(intro w' hm';exact hF w' (hW.next hm'));rintro _ _ ⟨A,cap,rfl,rfl⟩)|((with_reducible apply wl_v);exact rfl;(with_reducible apply v_addw);exact rfl;exact rfl)|refine sT ?_|refine sS ?_|refine sT2 ?_|refine sN ?_|refine sM fun _=> ?_|(refine sC ?_ ?_<;>intro hb<;>try omega)|fail)
    all_goals first|(exfalso;omega)|skip
    exact retctt (.inl rfl) rfl rfl pK rfl rfl rfl (H' := [.own none 174 11 0 0 []]) mS ⟨none,0,rfl,rfl⟩
   ·
    rw [if_neg he]
    repeat' (first|((with_reducible apply wl_callp);exact rfl;exact rfl;(intro w hm;exact hcut w))|((with_reducible apply wl_call (f:=153));exact rfl;exact rfl;(intro w' hm';exact hF w' (hW.next hm'));rintro _ _ ⟨A,cap,rfl,rfl⟩)|((with_reducible apply wl_v);exact rfl;(with_reducible apply v_addw);exact rfl;exact rfl)|refine sT ?_|refine sS ?_|refine sT2 ?_|refine sN ?_|refine sM fun _=> ?_|(refine sC ?_ ?_<;>intro hb<;>try omega)|fail)
    all_goals first|(exfalso;omega)|skip
    exact retctt (.inl rfl) rfl rfl pK rfl rfl rfl (H' := [.own A 174 11 t.length cap (t.flatMap encN)]) mS ⟨A,cap,rfl,rfl⟩
end Go.SL
namespace Go.SL
open Go Go.Proofs Go.Sort Go.Shelf
def sortRf (L:List Rf):List Rf:=L.mergeSort fun x y=> !(lessF y x)
end Go.SL
namespace Go.SL
open Go Go.Proofs
attribute [local irreducible] W WL WQ WG WA WX WLI WR WT VOp RW thn blk cutP scp retP retPP endB FnAt FnIn FnP
def keyF (a:Rf):Value:= .agg (encF a).toArray
def gB (gg gm:Nat) (es:List (Rf × Value × Nat)) (clock:Nat):List Blk:= [.box gg 153 [.map (some gm)],.obj gm (mobj keyF es clock)]
end Go.SL
namespace Go.SL
open Go Go.Proofs
attribute [local irreducible] W WL WQ WG WA VOp thn blk cutP retP FnAt FnIn WLI
def useOf (n:Nd) (i:Nat) (r:List Nd):Us:=match r with
 |m::_=>if m.kind=7∧46≤m.fn then ⟨n.rect,((i+1:Nat):Int),m.fn⟩ else ⟨n.rect, -1,0⟩
 | []=>⟨n.rect, -1,0⟩
def usesFrom:List Nd→Nat→List Us
 | [],_=> []
 |n::r,i=>bif rangesF n then useOf n i r::usesFrom r (i+1) else usesFrom r (i+1)
def usesF (L:List Nd):List Us:=usesFrom L 0
end Go.SL
namespace Go.SL
open Go Go.Proofs
attribute [local irreducible] W WL WQ WG WA VOp thn blk cutP retP FnAt FnIn WLI WR WT endB bodyB assignQ roundQ
def rel (u:Us):Bool:=decide (0≤u.node)
def touch (r:Rct) (u:Us):Bool:=(meetR u.rect r).2
end Go.SL
namespace Go.SL
open Go
abbrev Gr:=List (Rf × List Nd × List Us)
def keysG (G:Gr):List Rf:=G.map fun e=>e.1
def SortG (G:Gr):Prop:=G.Pairwise fun x y=>lessF x.1 y.1=true
def lookG (G:Gr) (a:Rf):Option (List Nd × List Us):=(G.find? fun e=>decide (e.1=a)).map fun e=>e.2
def treeG (G:Gr) (a:Rf):List Nd:=((lookG G a).map fun x=>x.1).getD []
def usesG (G:Gr) (a:Rf):List Us:=((lookG G a).map fun x=>x.2).getD []
def touchesU (us:List Us) (r:Rct):Bool:=us.any (touch r)
def usersG (G:Gr) (r:Rct):List Rf:=if rectE r≠0 then [] else (G.filter fun e=>touchesU e.2.2 r).map fun e=>e.1
theorem lessF_irr (a:Rf):lessF a a=false:=by simp [lessF]
theorem lessF_ne {a b:Rf} (h:lessF a b=true):a≠b:=by
 rintro rfl
 rw [lessF_irr] at h
 cases h
theorem SortG.nodup {G:Gr} (h:SortG G):(keysG G).Nodup:=by
 rw [keysG,List.Nodup,List.pairwise_map]
 exact h.imp fun h=>lessF_ne h
theorem lookG_some {G:Gr} (h:SortG G) {a:Rf} {x:List Nd × List Us}:lookG G a=some x↔(a,x)∈G:=by
 constructor
 ·
  intro hl
  obtain ⟨e,he,rfl⟩:=Option.map_eq_some_iff.1 hl
  have h1:=List.find?_some he
  have h2:=List.mem_of_find?_eq_some he
  simp only [decide_eq_true_eq] at h1
  subst h1
  exact h2
 ·
  intro hm
  have hn:=h.nodup
  cases hf:G.find? fun e=>decide (e.1=a) with
  |none=>
   rw [List.find?_eq_none] at hf
   exact absurd (hf _ hm) (by simp)
  |some e=>
   have h1:=List.find?_some hf
   have h2:=List.mem_of_find?_eq_some hf
   simp only [decide_eq_true_eq] at h1
   have:=inj_of_map (fun e:Rf × List Nd × List Us=>e.1) hn h2 hm h1
   rw [lookG,hf,this];rfl
theorem lookG_none {G:Gr} {a:Rf}:lookG G a=none↔ ∀ e∈G,e.1≠a:=by
 rw [lookG,Option.map_eq_none_iff,List.find?_eq_none]
 simp
end Go.SL
namespace Go.SL
open Go Go.Proofs
attribute [local irreducible] W WL WQ WG WA WX WLI WR WT WC VOp RW thn blk cutP scp retP retPP endB FnAt FnIn FnP ceP
theorem w_drawC0 {P:Program} {n:Fr} {w0:World} {Q:Post} {s:Slots} {H:List Blk} {l:List Oper} {id:Nat} (es ps:List Nat) (hm:P.follows .mixedOrders=true) (hB:Region.lexB .any l.toArray=true) (hch:chainB l es ps=true)
  (h:WC P n w0 l H es ps Q l 0 s H):W P n w0 (.region id l.toArray true) Q s H:=w_drawC es ps H hm hB hch (MSub.refl H) h
structure En where
 at_:Rf
 ta:Option Addr
 tc:Nat
 ua:Option Addr
 uc:Nat
 tree:List Nd
 uses:List Us
 born:Nat
def En.tv (e:En):Value:= .slice e.ta e.tree.length e.tc
def En.uv (e:En):Value:= .slice e.ua e.uses.length e.uc
def En.m (e:En):Rf × Value × Nat:=(e.at_,.agg #[e.tv,e.uv],e.born)
def rdIn (R:List Blk) (v:Value) (m:Nat) (xs:List Value):Prop:= ∀ w0 w,Mem w0 w R→Reads w v m xs
structure EnOk (R:List Blk) (e:En):Prop where
 tree:rdIn R e.tv e.tree.length (e.tree.flatMap encN)
 uses:rdIn R e.uv e.uses.length (e.uses.flatMap encU)
 tl:e.tree.length≤1000000
 ul:e.uses.length≤1000000
def zeroEn (a:Rf):En:=⟨a,none,0,none,0,[],[],0⟩
def findE (E:List En) (a:Rf):Option En:=E.find? fun e=>decide (e.at_=a)
def foundE (E:List En) (a:Rf):En:=(findE E a).getD (zeroEn a)
end Go.SL
namespace Go.SL
open Go
def En.abs (e:En):Rf × List Nd × List Us:=(e.at_,e.tree,e.uses)
structure GOk (R:List Blk) (E:List En) (clock:Nat) (G:Gr):Prop where
 ok:MapOk (E.map En.m) clock
 en: ∀ e∈E,EnOk R e
 rel: ∀ x,x∈E.map En.abs↔x∈G
 sort:SortG G
theorem GOk.look {R:List Blk} {E:List En} {clock:Nat} {G:Gr} (h:GOk R E clock G) (a:Rf):(findE E a).map (fun e=>(e.tree,e.uses))=lookG G a:=by
 cases hf:findE E a with
 |some e=>
  have h1:=List.find?_some hf
  simp only [decide_eq_true_eq] at h1
  have h2:(a,e.tree,e.uses)∈G:=by
   rw [← h.rel]
   refine List.mem_map.2 ⟨e,List.mem_of_find?_eq_some hf,?_⟩
   rw [← h1];rfl
  rw [(lookG_some h.sort).2 h2];rfl
 |none=>
  rw [findE,List.find?_eq_none] at hf
  symm
  rw [Option.map_none,lookG_none]
  intro x hx
  rw [← h.rel] at hx
  obtain ⟨e,he,rfl⟩:=List.mem_map.1 hx
  have:=hf e he
  simpa [En.abs] using this
theorem GOk.uses {R:List Blk} {E:List En} {clock:Nat} {G:Gr} (h:GOk R E clock G) (a:Rf):(foundE E a).uses=usesG G a:=by
 rw [usesG,← h.look a,foundE]
 cases findE E a<;>rfl
theorem GOk.tree {R:List Blk} {E:List En} {clock:Nat} {G:Gr} (h:GOk R E clock G) (a:Rf):(foundE E a).tree=treeG G a:=by
 rw [treeG,← h.look a,foundE]
 cases findE E a<;>rfl
end Go.SL
namespace Go.SL
open Go Go.Proofs
attribute [local irreducible] W WL WQ WG WA WX WLI WR WT WC VOp RW thn blk cutP scp retP retPP endB FnAt FnIn FnP ceP
structure Et where
 at_:Rf
 input:ByteArray
def encEt (e:Et):List Value:= [.int .i64 e.at_.col,.int .i64 e.at_.row,.string e.input]
theorem encEt_len (e:Et):(encEt e).length=3:=rfl
def faultOf (b:Option Rf) (e:Et):Int:=if e.at_.valid=false then 3 else if (match b with|some p=>lessF p e.at_|none=>true)=false then 12 else if e.input=emptyB then 2 else (ofP e.input).2.2
def checkFrom:Nat→Option Rf→List Et→Int × Int
 |_,_,[]=>(0,0)
 |i,b,e::r=>if faultOf b e≠0 then ((i:Int),faultOf b e) else checkFrom (i+1) (some e.at_) r
def checkEt (L:List Et):Int × Int:=checkFrom 0 none L
def befEt (L:List Et) (i:Nat):Option Rf:=if i=0 then none else (L[i - 1]?).map Et.at_
set_option maxHeartbeats 2000000 in
theorem entryCheck_at (L : List Et) (tv : Value) (w : World) (ht : Reads w tv L.length (L.flatMap encEt)) (hlen : L.length ≤ 1000000) (hW : Words w) :
    Pure Tryz.prog 50 [tv] w (.tuple #[.int .i64 (checkEt L).1, .int .i64 (checkEt L).2]) := by
  obtain ⟨Al, cl, rfl, hl1, hl2, hl3⟩ := ht
  refine fn_at Tryz.func50 rfl Tryz.ntmps50 rfl ?_
  repeat' (first | refine sT ?_ | refine sS ?_ | refine sM fun _ => ?_ | (refine sC ?_ ?_ <;> intro hb <;> try omega) | fail)
  refine w_loopK [0, 2, 3, 9, 10] rfl (fun i : Nat => [(11, .int .i64 (i : Int))]) (fun _ => []) (fun i => i ≤ L.length ∧ checkEt L = checkFrom i (befEt L i) (L.drop i)) (fun i => L.length - i) 0 ⟨by omega, rfl⟩ sB (.refl _) ?_
  rintro i ⟨hi, hck⟩
  by_cases hlt : i < L.length
  · obtain ⟨gl, ol, rfl, hrl⟩ := hl3 (by omega)
    have he := hrl.elem encEt_len i hlt
    have hprev : ∀ h : 0 < i, Ro w gl (ol + (i - 1) * 3) (encEt L[i - 1]) := fun h => hrl.elem encEt_len (i - 1) (by omega)
    have hbef : ∀ h : 0 < i, befEt L i = some L[i - 1].at_ := fun h => by unfold befEt; rw [if_neg (by omega), List.getElem?_eq_getElem (by omega)]; rfl
    have hbef0 : i = 0 → befEt L i = none := fun h => by unfold befEt; rw [if_pos h]
    have hnext : befEt L (i + 1) = some L[i].at_ := by unfold befEt; rw [if_neg (by omega), Nat.add_sub_cancel, List.getElem?_eq_getElem hlt]; rfl
    rw [List.drop_eq_getElem_cons hlt, checkFrom, ← hnext] at hck
    generalize L[i] = e at he hck
    have hV : ∀ w', Pure Tryz.prog 64 [.agg (encF e.at_).toArray] w' (.bool e.at_.valid) := fun w' => valid_at e.at_.col e.at_.row w'
    have hO := fun (w' : World) (H' : List Blk) (hm : Mem w w' H') => Of_at e.input w' (hW.next hm)
    by_cases h0 : 0 < i
    · have hp := hprev h0
      rw [hbef h0] at hck
      generalize L[i - 1] = b at hp hck
      have hL := fun w' => Less_at b.at_ e.at_ w'
      unfold faultOf at hck
      simp only at hck
      have hofV : ∀ (A : Option Nat) (cap : Nat), ofV A cap (ofP e.input) = .tuple #[.agg (encM (ofP e.input).1 (sl A (ofP e.input).1.tree.length cap)).toArray, .int .i64 (ofP e.input).2.1, .int .i64 (ofP e.input).2.2] := fun _ _ => rfl
      simp only [hofV] at hO
      generalize ofP e.input = o at hO hck
      obtain ⟨⟨f1, f2, f3⟩, oa, oe⟩ := o
      simp only [encM] at hO
      simp only at hck
      generalize e.at_.valid = vd at hV hck
      generalize lessF b.at_ e.at_ = ls at hL hck
      repeat' (first | ((with_reducible apply wl_v (d := 14)); exact rfl; (with_reducible apply v_indexAddr); exact rfl; exact rfl; exact hlt) | ((with_reducible apply wl_v (d := 15)); exact rfl; (with_reducible apply v_loadw_ro); exact rfl; exact he; exact rfl) | ((with_reducible apply wc_v (d := 29)); (iterate 3 exact rfl); (with_reducible apply v_loads_ro (o := ol + (i - 1) * 3) (off := 0) hp (ys := encF b.at_)); (iterate 3 exact rfl)) | ((with_reducible apply wl_callp); exact rfl; exact rfl; (intro w hm; exact hV w)) | ((with_reducible apply (w_drawC0 (id := 6) [11] [])); kernel_rfl; kernel_rfl; kernel_rfl) | ((with_reducible apply wc_v); (iterate 3 exact rfl); (with_reducible apply v_indexAddr (j := i - 1)); exact rfl; exact rfl; omega) | ((with_reducible apply wl_callp (f := 60)); exact rfl; exact rfl; (intro w' hm; exact hL w')) | ((with_reducible apply wl_call (f := 106)); exact rfl; exact rfl; (intro w' hm; exact hO w' _ hm); rintro _ _ ⟨A, cap, rfl, rfl⟩) | refine sT ?_ | refine sS ?_ | refine sW ?_ | refine sN ?_ | refine sWN ?_ | refine sM fun _ => ?_ | (refine sC ?_ ?_ <;> intro hb <;> try omega) | (refine sCW ?_ ?_ <;> intro hb <;> try omega) | fail)
      all_goals clear hofV
      all_goals first
        | (refine ret2 eIO rfl rfl rfl (.nil _) ?_; rw [hck]; simp_all [emptyB]; done)
        | (refine ⟨i + 1, ⟨hlt, ?_⟩, by omega, ?_, ?_, .nil _⟩
           · rw [hck]; simp_all [emptyB]
           · exact sB
           · exact sB)
    · have h00 : i = 0 := by omega
      rw [hbef0 h00] at hck
      unfold faultOf at hck
      simp only at hck
      have hofV : ∀ (A : Option Nat) (cap : Nat), ofV A cap (ofP e.input) = .tuple #[.agg (encM (ofP e.input).1 (sl A (ofP e.input).1.tree.length cap)).toArray, .int .i64 (ofP e.input).2.1, .int .i64 (ofP e.input).2.2] := fun _ _ => rfl
      simp only [hofV] at hO
      generalize ofP e.input = o at hO hck
      obtain ⟨⟨f1, f2, f3⟩, oa, oe⟩ := o
      simp only [encM] at hO
      simp only at hck
      generalize e.at_.valid = vd at hV hck
      repeat' (first | ((with_reducible apply wl_v (d := 14)); exact rfl; (with_reducible apply v_indexAddr); exact rfl; exact rfl; exact hlt) | ((with_reducible apply wl_v (d := 15)); exact rfl; (with_reducible apply v_loadw_ro); exact rfl; exact he; exact rfl) | ((with_reducible apply wl_callp); exact rfl; exact rfl; (intro w hm; exact hV w)) | ((with_reducible apply (w_drawC0 (id := 6) [11] [])); kernel_rfl; kernel_rfl; kernel_rfl) | ((with_reducible apply wl_call (f := 106)); exact rfl; exact rfl; (intro w' hm; exact hO w' _ hm); rintro _ _ ⟨A, cap, rfl, rfl⟩) | refine sT ?_ | refine sS ?_ | refine sW ?_ | refine sN ?_ | refine sWN ?_ | refine sM fun _ => ?_ | (refine sC ?_ ?_ <;> intro hb <;> try omega) | (refine sCW ?_ ?_ <;> intro hb <;> try omega) | fail)
      all_goals clear hofV
      all_goals first
        | (refine ret2 eIO rfl rfl rfl (.nil _) ?_; rw [hck]; simp_all [emptyB]; done)
        | (refine ⟨i + 1, ⟨hlt, ?_⟩, by omega, ?_, ?_, .nil _⟩
           · rw [hck]; simp_all [emptyB]
           · exact sB
           · exact sB)
  · have e2 : i = L.length := by omega
    subst e2
    rw [List.drop_length, checkFrom] at hck
    repeat' (first | refine sT ?_ | refine sS ?_ | refine sM fun _ => ?_ | (refine sC ?_ ?_ <;> intro hb <;> try omega) | fail)
    all_goals (refine ret2 eIO rfl rfl rfl (.nil _) ?_; rw [hck])
end Go.SL
namespace Go.SL
open Go Go.Proofs
instance:DecidableEq Et:=fun a b=>decidable_of_iff (a.at_=b.at_∧a.input=b.input) (by
 obtain ⟨a1,a2⟩:=a
 obtain ⟨b1,b2⟩:=b
 simp)
theorem et_eq {a b:Et}:a=b↔a.at_=b.at_∧a.input=b.input:=by
 obtain ⟨a1,a2⟩:=a
 obtain ⟨b1,b2⟩:=b
 simp
theorem run_eqEt (w:World) (d:Nat) (a b:Et):(Op.equalIn (d+5) 53 (.agg (encEt a).toArray) (.agg (encEt b).toArray)).run Tryz.prog w= .ok (decide (a=b)) w:=by
 rw [run_equalIn_agg w (d+4) 53 _ _ (by rw [Program.fieldsOf,Tryz.underlying53]) Tryz.stoodInHeld53]
 simp only [Program.fieldsOf,Tryz.underlying53]
 have hr: ∀ (a b:Rf) w,(Op.equalIn (d+4) 51 (.agg #[.int .i64 a.col,.int .i64 a.row]) (.agg #[.int .i64 b.col,.int .i64 b.row])).run Tryz.prog w= .ok (eqF a b) w:=fun a b w=>run_eqF w (d+1) a b
 simp [Op.eqFields,encEt,part,go_sem,beqL,beqI,hr]
 by_cases h1:eqF a.at_ b.at_=true<;>by_cases h2:a.input=b.input<;>simp [h1,h2,et_eq]<;>(rw [eqF_iff] at h1;exact h1)
section
variable {w0:World} {s:Slots} {H:List Blk} {ty t' :TypeId} {x y:Operand}
theorem v_neqEt {a b:Et} (hx:ev s x=some (.agg (encEt a).toArray)) (hy:ev s y=some (.agg (encEt b).toArray)):VOp Tryz.prog w0 s H (.binOp .neq 53 x y t') ty (.bool (!decide (a=b))):=fun ρ w _ _ _ _ hρ _=>by
 have h:=run_eqEt w 9995 a b
 simp only [Nat.reduceAdd] at h
 simp only [execOp,hρ x _ hx,hρ y _ hy,Sem.run_bind,run_eqGuard_agg w _ _ _ _ _ _ Tryz.eqGuardType53,Result.andThen_ok,run_neq_struct,h,Sem.run_pure]
end
end Go.SL
namespace Go.SL
open Go Go.Proofs
attribute [local irreducible] W WL WQ WG WA WX WLI WR WT WC VOp RW thn blk cutP scp retP retPP endB FnAt FnIn FnP ceP
theorem EqualEntries_at (L M:List Et) (lv mv:Value) (w:World) (hl:Reads w lv L.length (L.flatMap encEt)) (hm:Reads w mv M.length (M.flatMap encEt)):
  Pure Tryz.prog 16 [lv,mv] w (.bool (decide (L=M))):=by
 obtain ⟨Al,cl,rfl,hl1,hl2,hl3⟩:=hl
 obtain ⟨Am,cm,rfl,hm1,hm2,hm3⟩:=hm
 refine fn_at Tryz.func16 rfl Tryz.ntmps16 rfl ?_
 by_cases hlen:L.length=M.length
 ·
  repeat' (first|refine sT ?_|refine sS ?_|refine sM fun _=> ?_|(refine sC ?_ ?_<;>intro hb<;>try omega)|fail)
  refine w_loop (fun i:Nat=> [(0,.slice Al L.length cl),(1,.slice Am M.length cm),(5,.int .i64 (i:Int))]) (fun _=> []) (fun i=>i≤L.length∧decide (L=M)=decide (L.drop i=M.drop i)) (fun i=>L.length - i) 0 ⟨by omega,rfl⟩ ?_ ?_ ?_
  ·
   exact sB
  ·
   exact mS
  ·
   rintro i ⟨hi,hrec⟩
   by_cases hlt:i<L.length
   ·
    have hlt2:i<M.length:=by omega
    obtain ⟨gl,ol,rfl,hrl⟩:=hl3 (by omega)
    obtain ⟨gm,om,rfl,hrm⟩:=hm3 (by omega)
    have he1:=hrl.elem encEt_len i hlt
    have he2:=hrm.elem encEt_len i hlt2
    rw [eq_drop hlt hlt2] at hrec
    repeat' (first|((with_reducible apply wq_v);exact rfl;(with_reducible apply v_indexAddr);exact rfl;exact rfl;(first|exact hlt|exact hlt2))|((with_reducible apply wq_v);exact rfl;(with_reducible apply v_loadw_ro);exact rfl;(first|exact he1|exact he2);exact rfl)|((with_reducible apply wq_v);exact rfl;(with_reducible apply v_neqEt);exact rfl;exact rfl)|((with_reducible apply wl_v);exact rfl;(with_reducible apply v_succN);exact rfl;exact rfl;(simp only [maxLen] at*;omega))|refine sT ?_|refine sS ?_|refine sQ ?_|refine sD ?_|refine sM fun _=> ?_|(refine sC ?_ ?_<;>intro hb<;>try omega)|(refine sCQ ?_ ?_<;>intro hb<;>try omega)|fail)
    ·
     (refine rT1 ?_)
     rw [hrec]
     simp_all
    ·
     refine ⟨i+1,⟨by omega,?_⟩,by omega,?_,?_⟩
     ·
      rw [hrec]
      simp_all
     ·
      exact sB
     ·
      exact mS
   ·
    have e:i=L.length:=by omega
    subst e
    repeat' (first|refine sT ?_|refine sS ?_|refine sM fun _=> ?_|(refine sC ?_ ?_<;>intro hb<;>try omega)|fail)
    (refine rT1 ?_)
    rw [hrec,List.drop_length,hlen,List.drop_length]
    rfl
 ·
  repeat' (first|refine sT ?_|refine sS ?_|refine sM fun _=> ?_|(refine sC ?_ ?_<;>intro hb<;>try omega)|fail)
  (refine rT1 ?_)
  rw [decide_eq_false]
  intro e
  exact hlen (congrArg List.length e)
section
variable {w0:World} {s:Slots} {H:List Blk} {ty t' :TypeId} {x y:Operand}
theorem v_eqlR_to {a b:Rct} {c:Bool} (h:decide (a=b)=c) (hx:ev s x=some (.agg (encR a).toArray)) (hy:ev s y=some (.agg (encR b).toArray)):VOp Tryz.prog w0 s H (.binOp .eql 33 x y t') ty (.bool c):=by
 have h1:=v_eqlR (w0:=w0) (H:=H) (ty:=ty) (t' :=t') hx hy
 rwa [eqR_dec,h] at h1
theorem v_neqR_to {a b:Rct} {c:Bool} (h:decide (a=b)=c) (hx:ev s x=some (.agg (encR a).toArray)) (hy:ev s y=some (.agg (encR b).toArray)):VOp Tryz.prog w0 s H (.binOp .neq 33 x y t') ty (.bool (!c)):=by
 have h1:=v_neqR (w0:=w0) (H:=H) (ty:=ty) (t' :=t') hx hy
 rwa [eqR_dec,h] at h1
theorem v_eqlF_to {a b:Rf} {c:Bool} (h:decide (a=b)=c) (hx:ev s x=some (.agg (encF a).toArray)) (hy:ev s y=some (.agg (encF b).toArray)):VOp Tryz.prog w0 s H (.binOp .eql 51 x y t') ty (.bool c):=by
 have h1:=v_eqlF (w0:=w0) (H:=H) (ty:=ty) (t' :=t') hx hy
 rwa [eqF_dec,h] at h1
end
end Go.SL
namespace Go.SL
open Go Go.Proofs
attribute [local irreducible] W WL WQ WG WA VOp thn blk cutP retP FnAt FnIn Held
def aT:List Nd:= [k2,k3,j7,k6]
end Go.SL
namespace Go.SL
open Go
structure STree where
 ns:List Nd
 d:Nat
def STree.kind (S:STree):Int:=((S.ns.getLast?).map Nd.kind).getD 0
def fit1 (n:Nd) (i:Int) (k:Int):Bool:= !(decide (k=3) && !mayAt n i) && !(decide (n.kind=7) && releasedF n.fn && decide (k≠2) && decide (k≠3))
def fitsF (n:Nd):Int→List STree→Bool
 |_,[]=>true
 |i,S::r=>fit1 n i S.kind && fitsF n (i+1) r
def lastK (st:List STree) (k:Nat):List STree:=st.drop (st.length - k)
def depthF (top:List STree):Nat:=top.foldl (fun d S=>max d (S.d+1)) 1
def flatS (st:List STree):List Nd:=st.flatMap STree.ns
def nodeF (n:Nd) (top:List STree):STree:=⟨flatS top++ [n],depthF top⟩
def stepF (n:Nd) (st:List STree):Int ⊕ (List STree × List STree):=
 if fieldsE n≠0 then .inl (fieldsE n)
 else if (st.length:Int)<below n∨fitsF n 0 (lastK st (below n).toNat)=false then .inl 4
 else if 32<depthF (lastK st (below n).toNat) then .inl 9
 else .inr (st.take (st.length - (below n).toNat),lastK st (below n).toNat)
abbrev Hist:=List (List STree × STree)
def walkF:List Nd→List STree→Hist→Int × List STree × Hist
 | [],st,h=>(if st.length=1 then 0 else 4,st,h)
 |n::r,st,h=>match stepF n st with
  | .inl e=>(e,st,h)
  | .inr (lo,top)=>walkF r (lo++ [nodeF n top]) (h++ [(top,nodeF n top)])
inductive Good:STree→Prop
 |mk (n:Nd) (top:List STree) (hg: ∀ S∈top,Good S) (hf:fieldsE n=0) (hb:(top.length:Int)=Go.SL.below n) (hfit:fitsF n 0 top=true) (hd:depthF top≤32):Good (nodeF n top)
def rootsFrom:Nat→List STree→List Nat
 |_,[]=> []
 |o,S::r=>(o+S.ns.length - 1)::rootsFrom (o+S.ns.length) r
def lo (i:Nat) (x:List STree × STree):Nat:=i+1 - x.2.ns.length
def kidsH (i:Nat) (x:List STree × STree):List Nat:=rootsFrom (lo i x) x.1
structure Inv (dn:List Nd) (st:List STree) (h:Hist):Prop where
 flat:flatS st=dn
 good: ∀ S∈st,Good S
 len:h.length=dn.length
 node: ∀ i x,h[i]? =some x→ ∃ n,dn[i]? =some n∧x.2=nodeF n x.1∧(∀ T∈x.1,Good T)∧Good x.2∧x.2.ns.length≤i+1∧(dn.take (i+1)).drop (lo i x)=x.2.ns
 deep: ∀ x∈h,∃ S∈st,x.2.d≤S.d
 cut: ∀ a b,st=a++b→ ∀ j x,h[j]? =some x→(flatS a).length≤j→(flatS a).length≤lo j x
 lam: ∀ i j x y,h[i]? =some x→h[j]? =some y→j≤i→lo i x≤j→lo i x≤lo j y
 mid: ∀ i j x y,h[i]? =some x→h[j]? =some y→ ∀ k∈kidsH j y,k<i→i<j→k<lo i x
 up: ∀ k<h.length,k∈rootsFrom 0 st∨ ∃ j y,h[j]? =some y∧k∈kidsH j y
 apart: ∀ j y,h[j]? =some y→ ∀ k∈kidsH j y,k∉rootsFrom 0 st
 one: ∀ i j x y,h[i]? =some x→h[j]? =some y→ ∀ k,k∈kidsH i x→k∈kidsH j y→i=j
structure RootOk (st:List STree) (h:Hist):Prop where
 root: ∀ a S b,st=a++S::b→ ∃ top,h[(flatS a).length+S.ns.length - 1]? =some (top,S)
 kid: ∀ j y,h[j]? =some y→ ∀ a S b,y.1=a++S::b→ ∃ top,h[lo j y+(flatS a).length+S.ns.length - 1]? =some (top,S)
def setAll (o:List Int) (ks:List Nat) (v:Int):List Int:=ks.foldl (fun o k=>o.set k v) o
def parStep (o:List Int) (x:(List STree × STree) × Nat):List Int:=setAll (o++ [-1]) (kidsH x.2 x.1) (x.2:Int)
def parH (h:Hist):List Int:=h.zipIdx.foldl parStep []
structure ParOk (st:List STree) (h:Hist):Prop where
 len:(parH h).length=h.length
 kid: ∀ j y,h[j]? =some y→ ∀ k∈kidsH j y,(parH h)[k]? =some (j:Int)
 root: ∀ k∈rootsFrom 0 st,(parH h)[k]? =some (-1)
structure Whole (L:List Nd) (S:STree) (h:Hist):Prop where
 walk:walkF L [] []=(0,[S],h)
 ns:S.ns=L
 good:Good S
 inv:Inv L [S] h
 rootOk:RootOk [S] h
 parOk:ParOk [S] h
 pos:0<L.length
 last: ∃ top,h[L.length - 1]? =some (top,S)
structure EntOk (e:Rf × List Nd × List Us):Prop where
 at_:e.1.valid=true
 tree:checkE e.2.1=0
 uses:e.2.2=usesF e.2.1
 len:e.2.1.length≤256
structure GrOk (G:Gr):Prop where
 sort:SortG G
 ent: ∀ e∈G,EntOk e
end Go.SL
namespace Go.SL
open Go Go.Proofs
attribute [local irreducible] W WL WQ WG WA WX WLI WR WT WC VOp RW thn blk cutP scp retP retPP endB FnAt FnIn FnP ceP
def encQ (e:En):List Value:= [.int .i64 e.at_.col,.int .i64 e.at_.row,e.tv,e.uv]
def rgB (g:Nat) (A:Option Nat) (cap:Nat) (L:List En):List Blk:= [.box g 220 [sl A L.length cap],.own A 255 4 L.length cap (L.flatMap encQ)]
structure RGOk (R:List Blk) (L:List En) (G:Gr):Prop where
 en: ∀ e∈L,EnOk R e
 rel:L.map En.abs=G
end Go.SL
namespace Go.SL
open Go
def inB:ByteArray:=⟨#[61,65,49,43,66,49]⟩
def inC:ByteArray:=⟨#[61,68,83,85,77,40,66,49,58,66,51,41]⟩
def inD:ByteArray:=⟨#[61,73,70,69,82,82,79,82,40,65,51,44,48,41,43,49]⟩
end Go.SL
namespace Go.SL
open Go Go.Proofs
attribute [local irreducible] W WL WQ WG WA WX WLI WR WT WC VOp RW thn blk cutP scp retP retPP endB FnAt FnP ceP
structure Gs where
 gg:Nat
 gm:Nat
 E:List En
 clock:Nat
 R1:List Blk
 gr:Nat
 A:Option Nat
 cap:Nat
 Q:List En
 R2:List Blk
end Go.SL
namespace Go.SL
open Go Go.Proofs Go.ChangeShapes Go.WideShapes Go.ChangeAt Go.RowKit Go.Deep
section
variable {H:Type} {enc:TypeId × Value→H} {P:Program} {w:World} {base:Nat} {spare:Nat→Bool} {held:Bool}
theorem post_of_below {f:Func} {s:ChangeSpec} {apart fresh handsOn again:Bool} {W W' :World} {args:Array Value} {v:Value} {ds gs:List (DataW H)} {before pa pv:List MemPlace}
  (hW:DataW.Whole enc P f.params.toList s.vars apart W args.toList ds gs before)
  (hres: ∀ (b:Nat) (sp:Nat→Bool) (hd:Bool),DataW.TrodAll enc P W' b sp hd f.resultTypes.toList (v.resultList f.resultTypes.size) (s.fn H (ds++gs)).results [])
  (hargs: ∀ sp:Nat→Bool,(∀ p∈before,sp p.block=true)→DataW.TrodAll enc P W' 0 sp true f.params.toList args.toList (s.fn H (ds++gs)).args pa)
  (hvars: ∀ sp:Nat→Bool,(∀ p∈before,sp p.block=true)→DataW.TrodVars enc P W' sp s.vars (s.fn H (ds++gs)).vars pv)
  (hps:before=pa++pv) (hb:Below W.heap.size W W')
  (hok: ∀ (j:Nat) (t:TypeId) (r:Value),f.resultTypes[j]? =some t→(v.resultList f.resultTypes.size)[j]? =some r→Value.okWide P W' .any 0 t r):
  s.post enc P f apart fresh handsOn again W args v W' :=by
 have hold: ∀ p∈before,(fun b=>decide (b<W.heap.size)) p.block=true:=fun p hp=>by simpa using hW.lt p hp
 refine ⟨ds,gs,before,[],pa,pv,hW,hres _ _ _,hargs _ hold,hvars _ hold,hb.frame _,fun _=> ?_⟩
 have hlt:=hW.lt
 obtain ⟨_,_,_,_,_,hz,hn⟩:=hW
 refine ⟨hok,_,_,([]++pa)++pv,⟨[]++pa,pv,trodAll_append (hargs _ (fun _ _=>rfl)) (hres _ _ _),hvars _ (fun _ _=>rfl),rfl,?_,?_⟩,?_⟩
 ·
  intro b off hp
  have hp' :MemPlace.cell b off∈before:=by rw [hps];simpa using hp
  have h1:=hz b off hp'
  have h2:=hlt _ hp'
  rw [← h1]
  exact hb.frozen h2
 ·
  intro ha
  have:=hn ha
  rw [hps] at this
  simpa using this
 ·
  intro p hp _
  rw [hps]
  simpa using hp
theorem trod_stays_of {t:TypeId} (hl:laidOutB P=true) (hr:P.readableRec t=true) (hrow:t<P.types.size) {W W' :World} {v:Value} {d:DataW H} {ps:List MemPlace} {sp:Nat→Bool}
  (h:DataW.Trod enc P W 0 (fun _=>true) true t v d ps) (hb:Below W.heap.size W W') (hlt: ∀ x∈ps,x.block<W.heap.size) (hs: ∀ x∈ps,sp x.block=true):DataW.Trod enc P W' 0 sp true t v d ps:=
 WideElems.Trod_stays hl hr hrow h (fun x hx=>hb.same (hlt x hx)) hs
end
theorem Try_own:ownKnob Tryz.prog.godebug=none:=by kernel_rfl
theorem Try_laidOut:laidOutB Tryz.prog=true:=by kernel_rfl
end Go.SL
namespace Go.SL
open Go Go.Proofs Go.Proofs.YthefeclkaaocnaaGreatDoor Go.ChangeShapes Go.WideShapes Go.ChangeAt Go.RowKit Go.Deep
def wordsU:List (List UInt8):= [[],[35,68,73,86,47,48,33],[35,86,65,76,85,69,33],[35,78,85,77,33],[35,78,47,65],[35,82,69,70,33],[35,67,89,67,76,69,33],[35,68,69,78,73,69,68]]
def laidWs:List (String × DataW Unit):= [("louvre/val.words",Rows.laid_louvre_val_words)]
theorem wordsU_laid:(Rows.laid_louvre_val_words:DataW Unit)= .agg (wordsU.map fun l=> .lit (.string l)):=rfl
theorem wordsU_B:wordsB=wordsU.map fun l=>⟨l.toArray⟩:=rfl
set_option maxRecDepth 100000 in
theorem words_of_laid {W:World} (h:laidMetH Tryz.prog laidWs W):Words W:=by
 rw [MakeChecks.laidMetH_plain _ _ _ (by kernel_rfl)] at h
 obtain ⟨ps,⟨g,t,cs,fuel,p,q,hg,ht,hv,hd,_,_⟩,_⟩:=h
 obtain rfl:=Option.some.inj ((show Tryz.prog.globalNamed "louvre/val.words" =some 0 by kernel_rfl).symm.trans hg)
 obtain rfl:=Option.some.inj ((show (Tryz.prog.globals[0]?).map (·.type)=some 328 by kernel_rfl).symm.trans ht)
 rw [wordsU_laid] at hd
 obtain ⟨xs,m,_,ex,_,hl,hel⟩:=DataW.trod_array Tryz.underlying328 hd
 have cS:Tryz.prog.cellsOf 9=1:=by kernel_rfl
 have hcell: ∀ (j:Nat) (v:Value),(wordsB.map Value.string)[j]? =some v→W.cell? ⟨0,0+j,none⟩=some v:=by
  intro j v hjv
  have hj:j<8:=by
   have:=(List.getElem?_eq_some_iff.1 hjv).1
   simpa [wordsB] using this
  have hE:=hel j hj
  rw [cS,Nat.mul_one,List.getElem?_eq_getElem (by omega)] at hE
  obtain ⟨s,e1,e2,_⟩:=DataW.trod_string Tryz.underlying9 hE
  have e3:(xs.map (·.1))=wordsU.map fun l=> .lit (.string l):=(DataW.agg.inj (Prod.mk.inj ex).1).symm
  have hwl:wordsU.length=8:=rfl
  have e4:(xs.map (·.1))[j]? =(wordsU.map fun l=>(DataW.lit (.string l):DataW Unit))[j]? :=by rw [e3]
  obtain ⟨u,hu⟩: ∃ u,wordsU[j]? =some u:=⟨_,List.getElem?_eq_getElem (by rw [hwl];exact hj)⟩
  rw [List.getElem?_map,List.getElem?_map,List.getElem?_eq_getElem (by omega:j<xs.length),hu,e2] at e4
  simp only [Option.map_some,Option.some.injEq,DataW.lit.injEq,Lit.string.injEq] at e4
  have hs:s=⟨u.toArray⟩:=by
   obtain ⟨d⟩:=s
   subst e4
   rfl
  have hvv:v= .string s:=by
   rw [wordsU_B,List.map_map,List.getElem?_map,hu] at hjv
   simp only [Option.map_some,Option.some.injEq,Function.comp] at hjv
   rw [← hjv,hs]
  rw [hvv,Nat.zero_add,World.var?_cell hg hv j]
  have:cs.toList[j]? =some (.string s):=by
   have h0:((cs.toList.drop j).take 1)[0]? =some (.string s):=by rw [e1];rfl
   simpa using h0
  simpa using this
 refine ⟨?_,hcell⟩
 have h5:=hcell 0 _ rfl
 simp only [World.cell?] at h5
 split at h5
 ·
  rename_i h6
  exact (Array.getElem?_eq_some_iff.1 h6).1
 ·
  cases h5
end Go.SL
namespace Go.SL
open Go Go.RowKit
section
variable {P:Program} {ops:Array Oper} {es ps:List Nat} {C:World→Prop}
theorem AnyE_firsti {Q:Act→World→Prop} {i:Nat} {oi:Oper} (hi:ops[i]? =some oi) (hsel: ∀ (j:Nat) (o:Oper) cs b,ops[j]? =some o→o.op≠ .select cs b)
  (hnb: ∀ x∈es,∀ y,y∈es∨y∈ps→x≠y→(x=i∨y=i)→NotBoth ops x y):
  ∀ (f:Nat) (L:Array Bool) (a:Act) (w:World),ClosedL ops L→C w→
   (∀ j oj,ops[j]? =some oj→j≠i→L.getD j true=false→(∀ e∈oj.after,Region.binds .any e=true→e.on≠i)→oi.apart ops oj=true)→
   i∈Region.ready .any ops L→EOp P ops es ps C (AnyE P ops es ps C Q f (L.setIfInBounds i true)) i oi a w→AnyE P ops es ps C Q (f+1) L a w
 |0,L,a,w,hcl,hC,_,hr,hy=>⟨hC,fun h=>(by rw [h] at hr;cases hr),fun j hj=>by
   by_cases hji:j=i
   ·
    subst hji;exact ⟨oi,hi,hy⟩
   ·
    exfalso
    have hne:=ready_mono hj hji
    have hE: ∃ a' w',AnyE P ops es ps C Q 0 (L.setIfInBounds i true) a' w' :=by
     cases hy with
     |pass _ hk=>exact ⟨_,_,hk⟩
     |quiet _ _ _ _ _ hk=>exact ⟨_,_,hk⟩
     |eff _ _ hk=>obtain ⟨v,w',h⟩:=hk.ex;exact ⟨_,_,h⟩
    obtain ⟨a',w',_,h0,_⟩:=hE
    rw [h0] at hne
    cases hne⟩
 |f+1,L,a,w,hcl,hC,hfree,hr,hy=>⟨hC,fun h=>(by rw [h] at hr;cases hr),fun j hj=>by
   by_cases hji:j=i
   ·
    subst hji;exact ⟨oi,hi,hy⟩
   ·
    have hj' :=ready_mono hj hji
    obtain ⟨hjun,oj,hoj,hall⟩:=mem_ready.1 hj
    have hnot: ∀ e∈oj.after,Region.binds .any e=true→e.on≠i:=fun e he hb heq=>by
     have h1:=hall e he hb
     have h0:=(mem_ready.1 hr).1
     rw [heq] at h1
     rcases Nat.lt_or_ge i L.size with h' |h'
     ·
      simp [h'] at h0 h1;rw [h0] at h1;cases h1
     ·
      simp [Array.getElem?_eq_none h'] at h1
    have hap:=hfree j oj hoj hji hjun hnot
    obtain ⟨h1,h2,h3⟩:=Oper.apart_spec hap
    have hsi:=fun cs b=>hsel i oi cs b hi
    have hsj:=fun cs b=>hsel j oj cs b hoj
    have hej: ∀ v,execOp (a.put oi.dst v).eval oj=execOp a.eval oj:=fun v=>execOp_put oj hsj a oi.dst v h1
    have hwj: ∀ v,Region.wanted oj (yielded ops (a.put oi.dst v).tmps)=Region.wanted oj (yielded ops a.tmps):=fun v=>wanted_put oj a oi.dst v h1
    have hcomm: ∀ v u,(a.put oi.dst v).put oj.dst u=(a.put oj.dst u).put oi.dst v:=fun v u=>Act.put_comm a v u h2
    have hset:(L.setIfInBounds i true).setIfInBounds j true=(L.setIfInBounds j true).setIfInBounds i true:=Array.setIfInBounds_comm _ _ (Ne.symm hji)
    have hfree' : ∀ k ok,ops[k]? =some ok→k≠i→(L.setIfInBounds j true).getD k true=false→
      (∀ e∈ok.after,Region.binds .any e=true→e.on≠i)→oi.apart ops ok=true:=fun k ok hk hki hun hno=>by
     refine hfree k ok hk hki ?_ hno
     by_cases hjk:j=k
     ·
      subst hjk;exact hjun
     ·
      rw [getD_set_ne true hjk] at hun;exact hun
    have ih:=AnyE_firsti (Q:=Q) hi hsel hnb f (L.setIfInBounds j true)
    have hcl' :=hcl.set hj
    have hr' :=ready_mono hr (Ne.symm hji)
    -- what comes of j behind an outcome of i
    have hJ: ∀ v w',AnyE P ops es ps C Q (f+1) (L.setIfInBounds i true) (a.put oi.dst v) w' →EOp P ops es ps C (AnyE P ops es ps C Q f ((L.setIfInBounds j true).setIfInBounds i true)) j oj (a.put oi.dst v) w' :=fun v w' h=>by
     obtain ⟨o,ho,hE⟩:=h.2.2 j hj'
     have e:o=oj:=Option.some.inj (ho.symm.trans hoj)
     subst e
     rw [hset] at hE
     exact hE
    refine ⟨oj,hoj,?_⟩
    have hstill:(∃ v,AnyE P ops es ps C Q (f+1) (L.setIfInBounds i true) (a.put oi.dst v) w∧ ∀ (u:Value) (w2:World) (K' :Act→World→Prop),C w2→(i∈ps→w2=w)→K' ((a.put oj.dst u).put oi.dst v) w2→EOp P ops es ps C K' i oi (a.put oj.dst u) w2)∨
      (Region.wanted oi (yielded ops a.tmps)=true∧i∈es∧NormUp P (fun v w' =>AnyE P ops es ps C Q (f+1) (L.setIfInBounds i true) (a.put oi.dst v) w') ((execOp a.eval oi).run P w)):=by
     cases hy with
     |pass hw hk=>exact .inl ⟨undef,hk,fun u w2 K' _ _ hk' => .pass ((wanted_put oi a oj.dst u h3).trans hw) hk'⟩
     |quiet hw hies v hrun hst hk=>
      refine .inl ⟨v,hk,fun u w2 K' hC2 hps hk' => ?_⟩
      have he:=execOp_put oi hsi a oj.dst u h3
      have hrun2:(execOp a.eval oi).run P w2= .ok (.value v) w2:=by
       rcases hst with h|h
       ·
        rw [hps h];exact hrun
       ·
        exact h w2 hC2
      exact .quiet ((wanted_put oi a oj.dst u h3).trans hw) hies v (by rw [he];exact hrun2) (by rw [he];exact hst) hk'
     |eff hw hies hk=>exact .inr ⟨hw,hies,hk⟩
    rcases hstill with ⟨v,hk,hS⟩|⟨hw,hies,hk⟩
    ·
     cases hJ v w hk with
     |pass hwj' hkj=>exact .pass ((hwj v).symm.trans hwj') (ih _ w hcl' hC hfree' hr' (hS undef w _ hC (fun _=>rfl) (by rw [← hcomm];exact hkj)))
     |quiet hwj' hjes u hrun hst hkj=>
      rw [hej] at hrun hst
      exact .quiet ((hwj v).symm.trans hwj') hjes u hrun hst (ih _ w hcl' hC hfree' hr' (hS u w _ hC (fun _=>rfl) (by rw [← hcomm];exact hkj)))
     |eff hwj' hjes hkj=>
      rw [hej] at hkj
      exact .eff ((hwj v).symm.trans hwj') hjes (hkj.mono fun u w2 hk2=>ih _ w2 hcl' hk2.inC hfree' hr' (hS u w2 _ hk2.inC (fun hps=>(hnb j hjes i (.inr hps) hji (.inr rfl) L hcl hj hr).elim) (by rw [← hcomm];exact hk2)))
    ·
     obtain ⟨v0,w1,h0⟩:=hk.ex
     cases hJ v0 w1 h0 with
     |pass hwj' hkj=>
      have hwa:=(hwj v0).symm.trans hwj'
      refine .pass hwa (ih _ w hcl' hC hfree' hr' (EOp.of_put hap hsi (.eff hw hies hk) fun v w' h=> ?_))
      cases hJ v w' h with
      |pass _ h' =>rw [← hcomm];exact h'
      |quiet hw2 _ _ _ _ _=>rw [hwj,hwa] at hw2;cases hw2
      |eff hw2 _ _=>rw [hwj,hwa] at hw2;cases hw2
     |quiet hwj' hjes u hrun hst hkj=>
      have hwa:=(hwj v0).symm.trans hwj'
      have hst2: ∀ w1,C w1→(execOp a.eval oj).run P w1= .ok (.value u) w1:=by
       rcases hst with h|h
       ·
        exact (hnb i hies j (.inr h) (Ne.symm hji) (.inl rfl) L hcl hr hj).elim
       ·
        rw [hej] at h;exact h
      refine .quiet hwa hjes u (hst2 w hC) (.inr hst2) (ih _ w hcl' hC hfree' hr' (EOp.of_put hap hsi (.eff hw hies hk) fun v w' h=> ?_))
      cases hJ v w' h with
      |pass hw2 _=>rw [hwj,hwa] at hw2;cases hw2
      |eff _ hjes2 _=>exact absurd hjes2 hjes
      |quiet _ _ u' hr2 hst' h' =>
       have hst3:(execOp a.eval oj).run P w= .ok (.value u') w:=by
        rcases hst' with h|h
        ·
         exact (hnb i hies j (.inr h) (Ne.symm hji) (.inl rfl) L hcl hr hj).elim
        ·
         have:=h w hC
         rw [hej] at this;exact this
       rw [hst2 w hC] at hst3
       injection hst3 with h4
       injection h4 with h4
       subst h4
       rw [← hcomm];exact h'
     |eff hwj' hjes hkj=>exact (hnb i hies j (.inl hjes) (Ne.symm hji) (.inl rfl) L hcl hr hj).elim⟩
end
section
variable {P:Program} {n:Fr} {w0:World} {Q:Post} {s:Slots} {H S:List Blk} {l:List Oper} {ty:TypeId} {p:String} {af:Array Edge} {es:List Nat} {gu:Option (Nat × Bool)} {f:Nat} {L:Array Bool}
def WE (P:Program) (n:Fr) (w0:World) (l:List Oper) (S:List Blk) (es:List Nat) (Q:Post) (f:Nat) (L:Array Bool) (s:Slots) (H:List Blk):Prop:=
 ∀ a w,St n s a→Mem w0 w H→Mem w0 w S→ClosedL l.toArray L→AnyE P l.toArray es [] (fun w=>Mem w0 w S) (post n w0 Q .normal) f L a w
theorem w_drawE {id:Nat} (es:List Nat) (S:List Blk) (N:Nat) (hN:l.length=N) (hm:P.follows .mixedOrders=true) (hS:MSub S H)
  (h:WE P n w0 l S es Q N (Array.replicate N false) s H):W P n w0 (.region id l.toArray true) Q s H:=by
 intro a w hs hmem
 subst hN
 refine wp_region_any hm (wpAny_of_AnyE (es:=es) (ps:= []) (C:=fun w=>Mem w0 w S) (Q:=post n w0 Q .normal) (fun _ _ h=>h) _ _ _ _ ?_)
 have hcl:ClosedL l.toArray (Array.replicate l.length false):=fun i o _ hi=>by
  rw [Array.getD_eq_getD_getElem?,Array.getElem?_replicate] at hi
  split at hi<;>cases hi
 have:=h a _ hs hmem.drew (hS.use hmem.drew) hcl
 simpa using this
theorem we_done (hr:Region.ready .any l.toArray L= []) (h:Q .normal s H):WE P n w0 l S es Q f L s H:=by
 intro a w hs hm hS hcl
 cases f with
 |zero=>exact ⟨hS,hr,s,H,hs,hm,h⟩
 |succ f=>exact ⟨hS,fun _=>⟨s,H,hs,hm,h⟩,fun i hi=>by rw [hr] at hi;cases hi⟩
theorem we_v {i:Nat} {op:Op} {d:Nat} {v:Value} (hi:l[i]? =some ⟨some d,op,ty,p,af,gu⟩) (hn:Nat.blt d n.sz=true) (hg:gok l s gu=some true) (hk:es.contains i=false) (hsel:Region.noSelect l.toArray=true)
  (hr:(Region.ready .any l.toArray L).contains i=true) (hf:Region.free .any l.toArray L i=true) (hv:VOp P w0 s S op ty v) (h:WE P n w0 l S es Q f (L.setIfInBounds i true) ((d,v)::s) H):WE P n w0 l S es Q (f+1) L s H:=by
 intro a w hs hm hS hcl
 have hi' :l.toArray[i]? =some ⟨some d,op,ty,p,af,gu⟩:=by simpa using hi
 have hr' :i∈Region.ready .any l.toArray L:=by simpa using hr
 have hk' :i∉es:=by simpa using hk
 refine AnyE_firsti hi' (Region.noSelect_spec hsel) (fun x hx y hy _ hxy=> ?_) f L a w hcl hS (Region.free_spec hi' hf) hr'
  (.quiet (gok_wanted rfl hg hs) hk' v (hv a.eval w (some d) p af gu hs.eval hS) (.inr fun w1 h1=>hv a.eval w1 (some d) p af gu hs.eval h1) (h _ _ (hs.put (Nat.blt_eq ▸ hn) v) hm hS (hcl.set hr')))
 rcases hxy with rfl|rfl
 ·
  exact (hk' hx).elim
 ·
  rcases hy with hy|hy
  ·
   exact (hk' hy).elim
  ·
   cases hy
theorem we_step {i:Nat} {op:Op} {dst:Option Tmp} (hi:l[i]? =some ⟨dst,op,ty,p,af,gu⟩) (hg:gok l s gu=some true) (hk:es.contains i=true) (hr:(Region.ready .any l.toArray L).contains i=true)
  (h:WL P n w0 #[] [⟨dst,op,ty,p,af,none⟩] (ceP S (WE P n w0 l S es Q f (L.setIfInBounds i true))) s H) (a:Act) (w:World) (hs:St n s a) (hm:Mem w0 w H) (hcl:ClosedL l.toArray L):
  EOp P l.toArray es [] (fun w=>Mem w0 w S) (AnyE P l.toArray es [] (fun w=>Mem w0 w S) (post n w0 Q .normal) f (L.setIfInBounds i true)) i ⟨dst,op,ty,p,af,gu⟩ a w:=by
 have hr' :i∈Region.ready .any l.toArray L:=by simpa using hr
 refine .eff (gok_wanted rfl hg hs) (by simpa using hk) ?_
 have h1:=h a w hs hm
 unfold wpList at h1
 simp only [Region.wanted,if_true] at h1
 replace h1:=h1.elim id fun ⟨_,a0,w1,s',H'',_,_,he,_⟩=>by cases he
 have hexec:execOp a.eval ⟨dst,op,ty,p,af,gu⟩=execOp a.eval ⟨dst,op,ty,p,af,none⟩:=rfl
 rw [hexec]
 have nxt: ∀ (a' :Act) (w' :World),wpList P #[] (post n w0 (ceP S (WE P n w0 l S es Q f (L.setIfInBounds i true)))) [] a' w' →AnyE P l.toArray es [] (fun w=>Mem w0 w S) (post n w0 Q .normal) f (L.setIfInBounds i true) a' w' :=by
  rintro a' w' ⟨s',H',hs',hm',_,hSub,hK⟩
  exact hK a' w' hs' hm' (hSub.use hm') (hcl.set hr')
 unfold Oper.wp at h1
 generalize (execOp a.eval ⟨dst,op,ty,p,af,none⟩).run P w=r at h1 ⊢
 cases r with
 |ok x w' =>
  cases x<;>simp only [Oper.upon] at h1<;>simp only [NormUp]
  case value u=>exact nxt _ _ h1
  case skip=>exact nxt _ _ h1
  case defer dd=>
   obtain ⟨s',H'',hs',_⟩:=h1
   have h2:=congrArg List.length (hs'.defers.trans hs.defers.symm)
   cases dst<;>simp [Act.put] at h2
  case enter f args=>
   refine h1.mono fun e w'' he=> ?_
   cases e with
   |returned v=>exact ⟨v,rfl,nxt _ _ he⟩
   |panicked c=>
    obtain ⟨s',H'',_,_,he',_⟩:=he
    cases he'
   |outgrown=>
    obtain ⟨a0,w1,s',H'',_,_,he',_⟩:=he
    cases he'
  case row f args=>exact Rows.mono h1 fun u w'' he=>nxt _ _ he
 |halt x w' =>
  cases x<;>simp only [Oper.upon] at h1
  all_goals
   obtain ⟨s',H'',_,_,he',_⟩:=h1
   cases he'
theorem we_one {i:Nat} {op:Op} {dst:Option Tmp} (hi:l[i]? =some ⟨dst,op,ty,p,af,gu⟩) (hg:gok l s gu=some true) (hk:es.contains i=true) (hr:Region.ready .any l.toArray L= [i])
  (h:WL P n w0 #[] [⟨dst,op,ty,p,af,none⟩] (ceP S (WE P n w0 l S es Q f (L.setIfInBounds i true))) s H):WE P n w0 l S es Q (f+1) L s H:=by
 intro a w hs hm hS hcl
 refine ⟨hS,fun h0=>(by rw [hr] at h0;cases h0),fun j hj=> ?_⟩
 rw [hr] at hj
 have e:j=i:=by simpa using hj
 subst e
 exact ⟨_,by simpa using hi,we_step hi hg hk (by rw [hr];simp) h a w hs hm hcl⟩
theorem we_two {i j:Nat} {op op' :Op} {dst dst' :Option Tmp} {ty' :TypeId} {p' :String} {af' :Array Edge} {gu' :Option (Nat × Bool)} (hi:l[i]? =some ⟨dst,op,ty,p,af,gu⟩) (hj:l[j]? =some ⟨dst',op',ty',p',af',gu'⟩) (hg:gok l s gu=some true) (hg' :gok l s gu' =some true)
  (hk:es.contains i=true) (hk' :es.contains j=true) (hr:Region.ready .any l.toArray L= [i,j])
  (h:WL P n w0 #[] [⟨dst,op,ty,p,af,none⟩] (ceP S (WE P n w0 l S es Q f (L.setIfInBounds i true))) s H)
  (h' :WL P n w0 #[] [⟨dst',op',ty',p',af',none⟩] (ceP S (WE P n w0 l S es Q f (L.setIfInBounds j true))) s H):WE P n w0 l S es Q (f+1) L s H:=by
 intro a w hs hm hS hcl
 refine ⟨hS,fun h0=>(by rw [hr] at h0;cases h0),fun k hk0=> ?_⟩
 rw [hr] at hk0
 rcases List.mem_cons.1 hk0 with e|hk0
 ·
  subst e
  exact ⟨_,by simpa using hi,we_step hi hg hk (by rw [hr];simp) h a w hs hm hcl⟩
 ·
  have e:k=j:=by simpa using hk0
  subst e
  exact ⟨_,by simpa using hj,we_step hj hg' hk' (by rw [hr];simp) h' a w hs hm hcl⟩
end
theorem zeroCells_mem (z:Array Value) (n:Nat) (u:Value) (h:u∈(Builtin.zeroCells z n).toList):u∈z.toList:=by
 rw [Array.mem_toList_iff,Builtin.zeroCells,Array.mem_map] at h
 obtain ⟨i,hi,rfl⟩:=h
 rw [Array.mem_range] at hi
 have hz:0<z.size:=by
  rcases Nat.eq_zero_or_pos z.size with h|h
  ·
   rw [h] at hi;simp at hi
  ·
   exact h
 have hl:i % z.size<z.size:=Nat.mod_lt _ hz
 rw [getElem!_pos z (i % z.size) hl,Array.mem_toList_iff]
 exact Array.getElem_mem hl
theorem wl_clear {P:Program} {n:Fr} {w0:World} {Q:Post} {s:Slots} {H:List Blk} {rest:List Oper} {ty:TypeId} {p:String} {af:Array Edge} {t e k n' c cx g sz:Nat} {x:Operand} {xs:List Value} {R:List Blk} {ops:Array Oper} {z:Value} [ht:Und P t (.slice e)] [hz:Zero P e z]
  (hx:ev s x=some (.slice (some ⟨g,k*sz,none⟩) (n' - k) cx)) (hk:k<n') (hsel:Sel (.own (some g) e sz n' c xs) H R) (hz1: ∀ u∈z.cells.toList,u.oneCell' =true) (hzs:z.cells.size=sz)
  (K:WL P n w0 ops rest Q s (.own (some g) e sz k c (xs.take (k*sz))::R)):
  WL P n w0 ops (⟨none,.call { callee:= .builtin .clear,args:= #[x],argTypes:= #[t] },ty,p,af,none⟩::rest) Q s H:=by
 intro a w hs hm
 have hm' :=hm.sel hsel
 obtain ⟨i,i1,i2⟩:=hz.out
 obtain ⟨b1,b2,b3,junk,b4,b5⟩:=(hm'.on _ List.mem_cons_self).1
 have hzl:(Builtin.zeroCells z.cells (n' - k)).toList.length=(n' - k)*sz:=by rw [Array.length_toList,size_zeroCells,hzs]
 have hkn:k*sz+(n' - k)*sz=n' *sz:=by rw [← Nat.add_mul];congr 1;omega
 have hst:=run_storeCells_at (P:=P) g (k*sz) e (Builtin.zeroCells z.cells (n' - k)).toList 0 _ w b5 (by simp only [List.size_toArray,List.length_append,hzl];omega) (fun u hu=>hz1 u (zeroCells_mem _ _ _ hu))
 simp only [Nat.add_zero,hzl,hkn] at hst
 have hn0: ¬ n' - k=0:=by omega
 obtain ⟨m,hm2⟩: ∃ m,n' - k=m+1:=⟨n' - k - 1,by omega⟩
 have hrun:(Builtin.clear_ #[t] ty #[.slice (some ⟨g,k*sz,none⟩) (n' - k) cx]).run P w= .ok (.tuple #[]) (w.setRow g ((xs++junk).take (k*sz)++(Builtin.zeroCells z.cells (n' - k)).toList++(xs++junk).drop (n' *sz)).toArray):=by
  rw [hm2] at hst ⊢
  simp [Builtin.clear_,run_underlying ht.out,zeroValue,typeInfo,i1,i2,hst]
 refine wpList_plain rfl fun K' hK=> ?_
 unfold Oper.wp execOp
 simp only [resolve,invoke,builtin,Sem.run_bind,Sem.run_pure,Result.andThen_ok,List.map_toArray,List.map_cons,List.map_nil,hs.eval x _ hx,hrun,Oper.upon]
 refine hK _ _ (K _ _ (hs.put_none _) (hm'.upd (setRow_grown _ _ _) (b' := .own (some g) e sz k c (xs.take (k*sz))) ⟨?_,by omega,b3,(Builtin.zeroCells z.cells (n' - k)).toList++(xs++junk).drop (n' *sz),?_,?_⟩ fun k hk=> .inl hk))
 ·
  rw [List.length_take,b1];omega
 ·
  have hle:n' *sz≤c*sz:=Nat.mul_le_mul_right _ b2
  simp only [List.length_append,List.length_take,List.length_drop,hzl]
  rw [List.length_append] at b4
  omega
 ·
  rw [List.take_append_of_le_length (by omega)]
  rw [← List.append_assoc]
  exact setRow_heap _ _ _ _ _ _ b5
end Go.SL
