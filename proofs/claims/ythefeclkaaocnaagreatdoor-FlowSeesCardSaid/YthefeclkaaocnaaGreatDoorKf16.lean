/-
  Lemmas and walks, put together: Gp D5 D6 D7 Gq D8 D9.
-/
import Derived.Test.YthefeclkaaocnaaGreatDoorKf15
set_option linter.unusedSimpArgs false
set_option linter.unusedVariables false
set_option maxRecDepth 20000
namespace Go.SL
open Go
abbrev Gr:=List (Rf × List Nd × List Us)
def aq (G:Gr):List Rf:=G.map fun e=>e.1
def SortG (G:Gr):Prop:=G.Pairwise fun x y=>bn x.1 y.1=true
def lK (G:Gr) (a:Rf):Option (List Nd × List Us):=(G.find? fun e=>decide (e.1=a)).map fun e=>e.2
def yM (G:Gr) (a:Rf):Gr:=G.filter fun e=>decide (e.1≠a)
def v7 (G:Gr) (a:Rf) (x:List Nd × List Us):Gr:=G.filter (fun e=>bn e.1 a)++(a,x)::G.filter fun e=>bn a e.1
def aK (G:Gr) (a:Rf):List Us:=((lK G a).map fun x=>x.2).getD []
def cM (us:List Us) (r:Rct):Bool:=us.any (og r)
def eJ (G:Gr) (r:Rct):List Rf:=if dY r≠0 then [] else (G.filter fun e=>cM e.2.2 r).map fun e=>e.1
def fQ (G:Gr) (a:Rf) (b:ByteArray):Gr × Int:=
 if a.valid=false then (G,3)
 else if (ofP b).2.2≠0 then (G,(ofP b).2.2)
 else if (ofP b).1.formula=false then (yM G a,0)
 else (v7 G a ((ofP b).1.tree,eu (ofP b).1.tree),0)
theorem mK {a b:Rf}:bn a b=true↔a.row<b.row∨(a.row=b.row∧a.col<b.col):=by simp [bn]
theorem qj (a:Rf):bn a a=false:=by simp [bn]
theorem pz {a b c:Rf} (h:bn a b=true) (k:bn b c=true):bn a c=true:=by
 rw [mK] at*
 omega
theorem lM {a b:Rf} (h:bn a b=true):bn b a=false:=by
 rw [← V5,mK]
 rw [mK] at h
 omega
theorem EU {a b:Rf} (h:a≠b):bn a b=true∨bn b a=true:=by
 rw [mK,mK]
 rcases Int.lt_trichotomy a.row b.row with h1|h1|h1
 ·
  exact .inl (.inl h1)
 ·
  rcases Int.lt_trichotomy a.col b.col with h2|h2|h2
  ·
   exact .inl (.inr ⟨h1,h2⟩)
  ·
   refine absurd ?_ h
   obtain ⟨a1,a2⟩:=a
   obtain ⟨b1,b2⟩:=b
   simp only at h1 h2
   subst h1 h2;rfl
  ·
   exact .inr (.inr ⟨h1.symm,h2⟩)
 ·
  exact .inr (.inl h1)
theorem jL {a b:Rf} (h:bn a b=true):a≠b:=by
 rintro rfl
 rw [qj] at h
 cases h
theorem SortG.nodup {G:Gr} (h:SortG G):(aq G).Nodup:=by
 rw [aq,List.Nodup,Wz]
 exact h.imp fun h=>jL h
theorem z1:SortG []:=List.Pairwise.nil
theorem ub {G:Gr} (h:SortG G) (a:Rf):SortG (yM G a):=h.filter _
theorem tZ {G:Gr} (h:SortG G) (a:Rf) (x:List Nd × List Us):SortG (v7 G a x):=by
 refine Vd.2 ⟨h.filter _,Un.2 ⟨fun e he=> ?_,h.filter _⟩,fun e he f hf=> ?_⟩
 ·
  exact (Vb.1 he).2
 ·
  have h1:=(Vb.1 he).2
  rcases TS.1 hf with rfl|hf
  ·
   exact h1
  ·
   exact pz h1 (Vb.1 hf).2
theorem Kv {G:Gr} (h:SortG G) (a:Rf) (b:ByteArray):SortG (fQ G a b).1:=by
 unfold fQ
 split
 ·
  exact h
 ·
  split
  ·
   exact h
  ·
   split
   ·
    exact ub h a
   ·
    exact tZ h a _
theorem mI {G:Gr} {a:Rf} {x:List Nd × List Us} {e:Rf × List Nd × List Us}:e∈v7 G a x↔e=(a,x)∨(e∈G∧e.1≠a):=by
 simp only [v7,Ub,TS,Vb]
 constructor
 ·
  rintro (⟨h1,h2⟩|rfl|⟨h1,h2⟩)
  ·
   exact .inr ⟨h1,jL h2⟩
  ·
   exact .inl rfl
  ·
   exact .inr ⟨h1,(jL h2).symm⟩
 ·
  rintro (rfl|⟨h1,h2⟩)
  ·
   exact .inr (.inl rfl)
  ·
   rcases EU h2 with h|h
   ·
    exact .inl ⟨h1,h⟩
   ·
    exact .inr (.inr ⟨h1,h⟩)
theorem o9 {G:Gr} {a:Rf} {e:Rf × List Nd × List Us}:e∈yM G a↔e∈G∧e.1≠a:=by simp [yM]
theorem rF {G:Gr} (h:SortG G) {a:Rf} {x:List Nd × List Us}:lK G a=some x↔(a,x)∈G:=by
 constructor
 ·
  intro hl
  obtain ⟨e,he,rfl⟩:=UL.1 hl
  have h1:=WP he
  have h2:=VP he
  simp only [decide_eq_true_eq] at h1
  subst h1
  exact h2
 ·
  intro hm
  have hn:=h.nodup
  cases hf:G.find? fun e=>decide (e.1=a) with
  |none=>
   rw [List.find?_eq_none] at hf
   exact absurd (hf _ hm) (by simp)
  |some e=>
   have h1:=WP hf
   have h2:=VP hf
   simp only [decide_eq_true_eq] at h1
   have:=nT (fun e:Rf × List Nd × List Us=>e.1) hn h2 hm h1
   rw [lK,hf,this];rfl
theorem nM {G:Gr} {a:Rf}:lK G a=none↔ ∀ e∈G,e.1≠a:=by
 rw [lK,Option.map_eq_none_iff,List.find?_eq_none]
 simp
theorem EZ {G:Gr} (h:SortG G):(aq G).Pairwise fun x y=>bn x y=true:=by
 rw [aq,Wz];exact h
theorem zh {L:List Rf} (h:L.Pairwise fun x y=>bn x y=true):sortRf L=L:=by
 refine List.mergeSort_of_pairwise ?_
 exact h.imp fun h=>by rw [lM h];rfl
end Go.SL
namespace Go.SL
open Go Go.Proofs
attribute [local irreducible] W WL WQ WG WA WX WLI WR WT WC VOp RW thn blk bF scp ba aZ bC FnAt FnIn FnP ceP
theorem eW {P:Program} {n:Fr} {w0:World} {Q:ck} {s:aB} {H:List Blk} {l:List Oper} {id:Nat} (es ps:List Nat) (hm:P.follows .mixedOrders=true) (hB:Region.lexB .any l.toArray=true) (hch:CM l es ps=true)
  (h:WC P n w0 l H es ps Q l 0 s H):W P n w0 (.region id l.toArray true) Q s H:=fu es ps H hm hB hch (MSub.refl H) h
theorem Ln (L:List Us): ∀ u∈L.flatMap cV,u.oneCell' =true:=by
 intro u hu
 obtain ⟨n,_,h⟩:=UM.1 hu
 simp only [cV,TS,Vr,or_false] at h
 rcases h with rfl|rfl|rfl|rfl|rfl|rfl<;>rfl
theorem LZ (L:List Us) (tv:Value) (w:World) (ht:Reads w tv L.length (L.flatMap cV)) (hlen:L.length≤1000000):
  FnAt Tryz.prog 93 [tv] w fun v H=> ∃ A cap,v=sl A L.length cap∧H= [.own A 100 6 L.length cap (L.flatMap cV)]:=by
 have ht' :=ht
 obtain ⟨At,ct,rfl,ht1,ht2,ht3⟩:=ht
 refine ax Tryz.func93 rfl Tryz.ntmps93 rfl ?_
 have hl:(L.flatMap cV).length=L.length*6:=aR yK L
 refine aW 100 6 ?_
 repeat' (first|(apply ak;exact rfl;apply DA;exact rfl)|(apply fT;exact rfl;intro gb)|(apply eF (n' :=0) (c:=0) (A:=some _) (m:=L.length);(iterate 3 exact rfl);exact pK;(intro w hm;exact ht'.of_w0 hm);exact hl;exact Ln L;omega;(simp only [maxLen];omega);intro A' cap' hA)|refine sT ?_|refine sM fun _=> ?_|(refine sC ?_ ?_<;>intro hb<;>try omega)|fail)
 ·
  have e:L.length=0:=by
   rcases VD L.length with h|h
   ·
    exact h
   ·
    obtain ⟨g,o,rfl,_⟩:=ht3 h
    cases hb
  have e' :L= []:=US e
  subst e'
  exact cA (.inl rfl) Tryz.results93 rfl (.refl _) ⟨none,0,rfl,rfl⟩
 ·
  exact cA (.inl rfl) Tryz.results93 rfl (H' := [.own A' 100 6 (0+L.length) cap' ([]++L.flatMap cV)]) mS ⟨A',cap',by rw [Uc],by rw [Uc];rfl⟩
structure En where
 at_:Rf
 ta:Option Addr
 tc:Nat
 ua:Option Addr
 uc:Nat
 tree:List Nd
 uses:List Us
 born:Nat
def En.tv (e:En):Value:= .slice e.ta e.tree.length e.tc
def En.uv (e:En):Value:= .slice e.ua e.uses.length e.uc
def En.m (e:En):Rf × Value × Nat:=(e.at_,.agg #[e.tv,e.uv],e.born)
abbrev wO:Value:= .agg [Value.slice none 0 0,.slice none 0 0].toArray
def rdIn (R:List Blk) (v:Value) (m:Nat) (xs:List Value):Prop:= ∀ w0 w,Mem w0 w R→Reads w v m xs
theorem rdIn.sub {R R' :List Blk} {v:Value} {m:Nat} {xs:List Value} (h:rdIn R v m xs) (hs:MSub R R'):rdIn R' v m xs:=fun w0 w hm=>h w0 w (hs.use hm)
theorem rdIn.nil (R:List Blk):rdIn R (.slice none 0 0) 0 []:=fun _ _ _=>⟨none,0,rfl,TQ _,TW _,fun h=>by cases h⟩
theorem rdIn.own {R:List Blk} {A:Option Nat} {t sz m c:Nat} {xs:List Value} (hi:In (.own A t sz m c xs) R):rdIn R (sl A m c) m xs:=fun _ _ hm=>Reads.of_own hm hi
structure EnOk (R:List Blk) (e:En):Prop where
 tree:rdIn R e.tv e.tree.length (e.tree.flatMap bR)
 uses:rdIn R e.uv e.uses.length (e.uses.flatMap cV)
 tl:e.tree.length≤1000000
 ul:e.uses.length≤1000000
theorem EnOk.sub {R R' :List Blk} {e:En} (h:EnOk R e) (hs:MSub R R'):EnOk R' e:=⟨h.tree.sub hs,h.uses.sub hs,h.tl,h.ul⟩
def Bo (a:Rf):En:=⟨a,none,0,none,0,[],[],0⟩
theorem JU (R:List Blk) (a:Rf):EnOk R (Bo a):=⟨rdIn.nil _,rdIn.nil _,by simp [Bo],by simp [Bo]⟩
def ja (E:List En) (a:Rf):Option En:=E.find? fun e=>decide (e.at_=a)
def dU (E:List En) (a:Rf):En:=(ja E a).getD (Bo a)
theorem Lh {E:List En} {a:Rf} {e:En} (h:ja E a=some e):e∈E:=VP h
theorem ut {R:List Blk} {E:List En} (h: ∀ e∈E,EnOk R e) (a:Rf):EnOk R (dU E a):=by
 unfold dU
 cases hf:ja E a with
 |none=>exact JU _ _
 |some e=>exact h e (Lh hf)
theorem JH (E:List En) (a:Rf): ∀ i:Nat,(bJ a (E.map En.m) i).map (fun x=>x.2)=(ja E a).map fun e=>e.m.2.1:=by
 induction E with
 |nil=>intro i;rfl
 |cons e r ih=>
  intro i
  simp only [Ud,bJ,ja,List.find?_cons]
  by_cases h:a=e.at_
  ·
   simp [En.m,h]
  ·
   have h' : ¬ e.at_=a:=fun x=>h x.symm
   simp only [En.m,h,if_false,h',decide_false]
   exact ih (i+1)
theorem NF (E:List En) (a:Rf):(match bJ a (E.map En.m) 0 with|some (_,v)=>v|none=>wO)= .agg #[(dU E a).tv,(dU E a).uv]:=by
 have h:=JH E a 0
 unfold dU
 cases hk:bJ a (E.map En.m) 0 with
 |none=>rw [hk] at h;cases hf:ja E a with
  |none=>rfl
  |some e=>rw [hf] at h;cases h
 |some x=>rw [hk] at h;cases hf:ja E a with
  |none=>rw [hf] at h;cases h
  |some e=>rw [hf] at h;exact Option.some.inj h
instance klaw_key:KLaw Tryz.prog 51 aY:=klaw_F
instance:FldT Tryz.prog 168 1 97 1:=⟨_,_,Tryz.underlying168,rfl,rfl,rfl⟩
set_option maxHeartbeats 1000000 in
theorem Ql (gg gm clock:Nat) (E:List En) (a:Rf) (R:List Blk) (w0:World) (hE: ∀ e∈E,EnOk R e):
  FnIn Tryz.prog 42 [.pointer (some ⟨gg,0,none⟩),aY a] w0 (gB gg gm (E.map En.m) clock++R) fun v H=> ∃ A cap,v=sl A (dU E a).uses.length cap∧H= .own A 100 6 (dU E a).uses.length cap ((dU E a).uses.flatMap cV)::(gB gg gm (E.map En.m) clock++R):=by
 refine cF Tryz.func42 rfl Tryz.ntmps42 rfl ?_
 have hl:=NF E a
 have hok:=ut hE a
 generalize dU E a=e at hl hok
 have hcl:=fun (w' :World) (H' :List Blk) (hs:MSub R H') (hm:Mem w0 w' H')=>LZ e.uses e.uv w' (hok.uses _ w' (hs.use hm)) hok.ul
 unfold gB
 repeat' (first|(apply ak;exact rfl;apply fU;exact rfl)|(apply eW (id:=3) [7] [];kernel_rfl;kernel_rfl;kernel_rfl)|(apply eG;(iterate 3 exact rfl);apply ep (enc:=aY) (z:=wO);exact rfl;exact rfl;exact pK;exact hl)|(apply eG;(iterate 3 exact rfl);apply dW;exact rfl;exact rfl)|(apply aF (f:=93);exact rfl;exact rfl;(intro w' hm;exact hcl w' _ mS hm);rintro _ _ ⟨A,cap,rfl,rfl⟩)|refine sT ?_|refine sS ?_|refine sW ?_|refine sM fun _=> ?_|(refine sC ?_ ?_<;>intro hb<;>try omega)|(refine sCW ?_ ?_<;>intro hb<;>try omega)|fail)
 all_goals exact cA eIO rfl rfl mS ⟨A,cap,rfl,rfl⟩
theorem ym (es:List (Rf × Value × Nat)):(kZ es).length=es.length:=by
 have:=(V7 (es.map fun e=>e.1) (fun x y=> !(bn y x))).length_eq
 simp [kZ,sortRf]
end Go.SL
namespace Go.SL
open Go
def En.abs (e:En):Rf × List Nd × List Us:=(e.at_,e.tree,e.uses)
structure GOk (R:List Blk) (E:List En) (clock:Nat) (G:Gr):Prop where
 ok:MapOk (E.map En.m) clock
 en: ∀ e∈E,EnOk R e
 rel: ∀ x,x∈E.map En.abs↔x∈G
 sort:SortG G
theorem JI (E:List En):((E.map En.m).map fun e=>e.1)=E.map En.at_:=by rw [VM];rfl
theorem Ol (E:List En):((E.map En.m).map fun e=>e.2.2)=E.map En.born:=by rw [VM];rfl
theorem GOk.sub {R R' :List Blk} {E:List En} {clock:Nat} {G:Gr} (h:GOk R E clock G) (hs:MSub R R'):GOk R' E clock G:=⟨h.ok,fun e he=>(h.en e he).sub hs,h.rel,h.sort⟩
theorem GOk.nodup {R:List Blk} {E:List En} {clock:Nat} {G:Gr} (h:GOk R E clock G):(E.map En.at_).Nodup:=JI E ▸ h.ok.keys
theorem GOk.perm {R:List Blk} {E:List En} {clock:Nat} {G:Gr} (h:GOk R E clock G):(E.map En.abs).Perm G:=by
 refine kU ?_ ?_ h.rel
 ·
  have:=h.nodup
  have e:E.map En.at_=(E.map En.abs).map fun x=>x.1:=by rw [VM];rfl
  rw [e] at this
  exact kr _ this
 ·
  exact kr (fun e:Rf × List Nd × List Us=>e.1) h.sort.nodup
theorem GOk.len {R:List Blk} {E:List En} {clock:Nat} {G:Gr} (h:GOk R E clock G):E.length=G.length:=by
 have:=h.perm.length_eq
 simpa using this
theorem GOk.forms {R:List Blk} {E:List En} {clock:Nat} {G:Gr} (h:GOk R E clock G):kZ (E.map En.m)=aq G:=by
 have hp:(E.map En.at_).Perm (aq G):=by
  have:=h.perm.map fun x=>x.1
  rw [VM] at this
  exact this
 rw [kZ,JI,u5 hp,zh (EZ h.sort)]
theorem GOk.look {R:List Blk} {E:List En} {clock:Nat} {G:Gr} (h:GOk R E clock G) (a:Rf):(ja E a).map (fun e=>(e.tree,e.uses))=lK G a:=by
 cases hf:ja E a with
 |some e=>
  have h1:=WP hf
  simp only [decide_eq_true_eq] at h1
  have h2:(a,e.tree,e.uses)∈G:=by
   rw [← h.rel]
   refine Ul.2 ⟨e,VP hf,?_⟩
   rw [← h1];rfl
  rw [(rF h.sort).2 h2];rfl
 |none=>
  rw [ja,List.find?_eq_none] at hf
  symm
  rw [WM,nM]
  intro x hx
  rw [← h.rel] at hx
  obtain ⟨e,he,rfl⟩:=Ul.1 hx
  have:=hf e he
  simpa [En.abs] using this
theorem GOk.uses {R:List Blk} {E:List En} {clock:Nat} {G:Gr} (h:GOk R E clock G) (a:Rf):(dU E a).uses=aK G a:=by
 rw [aK,← h.look a,dU]
 cases ja E a<;>rfl
theorem rG {κ:Type} [DecidableEq κ] {k:κ}: ∀ {es:List (κ × Value × Nat)} {i:Nat},bJ k es i=none→ ∀ e∈es,e.1≠k
 | [],_,_,e,he=>by cases he
 |x::r,i,h,e,he=>by
  rw [bJ] at h
  split at h
  ·
   cases h
  ·
   rename_i hk
   rcases TS.1 he with rfl|he
   ·
    exact fun e=>hk e.symm
   ·
    exact rG h e he
theorem GOk.del {R:List Blk} {E:List En} {clock:Nat} {G:Gr} (h:GOk R E clock G) (a:Rf): ∃ E',E'.map En.m=H7 a (E.map En.m)∧GOk R E' clock (yM G a):=by
 unfold H7
 cases hk:bJ a (E.map En.m) 0 with
 |none=>
  have hno:=rG hk
  refine ⟨E,rfl,h.ok,h.en,fun x=> ?_,ub h.sort a⟩
  rw [o9,← h.rel]
  refine ⟨fun hx=>⟨hx,?_⟩,fun hx=>hx.1⟩
  obtain ⟨e,he,rfl⟩:=Ul.1 hx
  exact hno e.m (Ul.2 ⟨e,he,rfl⟩)
 |some x=>
  obtain ⟨j,v⟩:=x
  obtain ⟨b,_,hj⟩:=kF hk
  rw [U9,Uq] at hj
  obtain ⟨e0,he0,hm0⟩:=UL.1 hj
  have ha:e0.at_=a:=congrArg Prod.fst hm0
  have hsub:(E.eraseIdx j).Sublist E:=List.eraseIdx_sublist E j
  have hin: ∀ e,e∈E.eraseIdx j↔e∈E∧e.at_≠a:=by
   intro e
   rw [List.mem_eraseIdx_iff_getElem?]
   obtain ⟨hjl,hj0⟩:=TV.1 he0
   constructor
   ·
    rintro ⟨i,hne,hi⟩
    refine ⟨Vp hi,fun hea=>hne ?_⟩
    obtain ⟨hil,hi0⟩:=TV.1 hi
    have hn:=h.nodup
    have:=List.getElem_inj (xs:=E.map En.at_) (h₀:=by simpa using hil) (h₁:=by simpa using hjl) hn
    refine this.1 ?_
    simp only [List.getElem_map,hi0,hj0,hea,ha]
   ·
    rintro ⟨he,hea⟩
    obtain ⟨i,hil,hi⟩:=UY he
    refine ⟨i,?_,by rw [TJ hil,hi]⟩
    rintro rfl
    rw [hj0] at hi
    exact hea (hi ▸ ha)
  refine ⟨E.eraseIdx j,nK _ _ _,?_,fun e he=>h.en e (hsub.subset he),fun x=> ?_,ub h.sort a⟩
  ·
   have hs2:((E.eraseIdx j).map En.m).Sublist (E.map En.m):=hsub.map _
   exact ⟨(hs2.map _).nodup h.ok.born,fun e he=>h.ok.old e (hs2.subset he),(hs2.map _).nodup h.ok.keys⟩
  ·
   rw [o9,← h.rel]
   constructor
   ·
    intro hx
    obtain ⟨e,he,rfl⟩:=Ul.1 hx
    obtain ⟨h1,h2⟩:=(hin e).1 he
    exact ⟨Ul.2 ⟨e,h1,rfl⟩,h2⟩
   ·
    rintro ⟨hx,hne⟩
    obtain ⟨e,he,rfl⟩:=Ul.1 hx
    exact Ul.2 ⟨e,(hin e).2 ⟨he,hne⟩,rfl⟩
theorem GOk.put {R:List Blk} {E:List En} {clock:Nat} {G:Gr} (h:GOk R E clock G) (n:En) (hn:EnOk R n): ∃ E',E'.map En.m=(iA n.at_ (.agg #[n.tv,n.uv]) clock (E.map En.m)).1∧GOk R E' (iA n.at_ (.agg #[n.tv,n.uv]) clock (E.map En.m)).2 (v7 G n.at_ (n.tree,n.uses)):=by
 unfold iA
 cases hk:bJ n.at_ (E.map En.m) 0 with
 |none=>
  have hno:=rG hk
  have hno' :n.at_∉E.map En.at_:=fun hx=>by
   obtain ⟨e,he,hea⟩:=Ul.1 hx
   exact hno e.m (Ul.2 ⟨e,he,rfl⟩) hea
  refine ⟨E++ [{ n with born:=clock }],by simp [En.m,En.tv,En.uv],⟨?_,?_,?_⟩,fun e he=> ?_,fun x=> ?_,tZ h.sort _ _⟩
  ·
   have hb:=h.ok.born
   rw [Ol] at hb ⊢
   rw [UG,Vu]
   refine ⟨hb,by simp,fun x hx y hy=> ?_⟩
   simp only [Ud,UQ,TX] at hy
   subst hy
   obtain ⟨e,he,rfl⟩:=Ul.1 hx
   have:=h.ok.old e.m (Ul.2 ⟨e,he,rfl⟩)
   simp only [En.m] at this
   omega
  ·
   intro e he
   rw [UG] at he
   rcases Ub.1 he with he|he
   ·
    have:=h.ok.old e he;simp only;omega
   ·
    simp only [Ud,UQ,TX] at he
    subst he
    simp [En.m]
  ·
   rw [JI,UG,Vu]
   refine ⟨h.nodup,by simp,fun x hx y hy e=> ?_⟩
   simp only [Ud,UQ,TX] at hy
   subst hy;subst e
   exact hno' hx
  ·
   rcases Ub.1 he with he|he
   ·
    exact h.en e he
   ·
    rw [TX.1 he]
    exact ⟨hn.tree,hn.uses,hn.tl,hn.ul⟩
  ·
   rw [mI,← h.rel,UG,Ub]
   constructor
   ·
    rintro (hx|hx)
    ·
     right
     obtain ⟨e,he,rfl⟩:=Ul.1 hx
     exact ⟨hx,fun hea=>hno' (Ul.2 ⟨e,he,hea⟩)⟩
    ·
     left
     simpa [En.abs] using hx
   ·
    rintro (rfl|⟨hx,_⟩)
    ·
     right;simp [En.abs]
    ·
     left;exact hx
 |some x=>
  obtain ⟨j,v⟩:=x
  obtain ⟨b,_,hj⟩:=kF hk
  rw [U9,Uq] at hj
  obtain ⟨e0,he0,hm0⟩:=UL.1 hj
  have ha:e0.at_=n.at_:=congrArg Prod.fst hm0
  obtain ⟨hjl,hj0⟩:=TV.1 he0
  have hget: ∀ i,(E.modify j fun e=>{ n with born:=e.born })[i]? =if j=i then (E[i]?).map (fun e=>{ n with born:=e.born }) else E[i]? :=fun i=>by
   rw [V0]
   split<;>rename_i hji
   ·
    rfl
   ·
    cases E[i]? <;>rfl
  have hin: ∀ e,e∈(E.modify j fun e=>{ n with born:=e.born })↔e={ n with born:=e0.born } ∨(e∈E∧e.at_≠n.at_):=by
   intro e
   constructor
   ·
    intro he
    obtain ⟨i,hi⟩:=Wk.1 he
    rw [hget] at hi
    split at hi
    ·
     rename_i hji
     subst hji
     rw [he0] at hi
     left
     exact (Option.some.inj hi).symm
    ·
     rename_i hji
     right
     refine ⟨Vp hi,fun hea=>hji ?_⟩
     obtain ⟨hil,hi0⟩:=TV.1 hi
     have:=List.getElem_inj (xs:=E.map En.at_) (h₀:=by simpa using hjl) (h₁:=by simpa using hil) h.nodup
     refine this.1 ?_
     simp only [List.getElem_map,hi0,hj0,hea,ha]
   ·
    rintro (rfl|⟨he,hea⟩)
    ·
     refine Wk.2 ⟨j,?_⟩
     rw [hget,if_pos rfl,he0];rfl
    ·
     obtain ⟨i,hil,hi⟩:=UY he
     refine Wk.2 ⟨i,?_⟩
     rw [hget,if_neg,TJ hil,hi]
     rintro rfl
     rw [hj0] at hi
     exact hea (hi ▸ ha)
  have hborn:(E.modify j fun e=>{ n with born:=e.born }).map En.born=E.map En.born:=by
   apply Vv
   intro i
   rw [Uq,Uq,hget]
   split
   ·
    cases E[i]? <;>rfl
   ·
    rfl
  have hkeys:(E.modify j fun e=>{ n with born:=e.born }).map En.at_=E.map En.at_:=by
   apply Vv
   intro i
   rw [Uq,Uq,hget]
   split
   ·
    rename_i hji
    subst hji
    rw [he0]
    simp [ha]
   ·
    rfl
  refine ⟨E.modify j fun e=>{ n with born:=e.born },?_,⟨?_,?_,?_⟩,fun e he=> ?_,fun x=> ?_,tZ h.sort _ _⟩
  ·
   apply Vv
   intro i
   simp only [V0,Uq]
   cases E[i]? with
   |none=>simp
   |some e=>by_cases hji:j=i<;>simp [hji,En.m,En.tv,En.uv]
  ·
   rw [Ol,hborn,← Ol];exact h.ok.born
  ·
   intro e he
   obtain ⟨e',he',rfl⟩:=Ul.1 he
   have:e'.born∈E.map En.born:=by rw [← hborn];exact Ul.2 ⟨e',he',rfl⟩
   obtain ⟨e2,he2,hb2⟩:=Ul.1 this
   have:=h.ok.old e2.m (Ul.2 ⟨e2,he2,rfl⟩)
   simp only [En.m] at this ⊢
   omega
  ·
   rw [JI,hkeys];exact h.nodup
  ·
   rcases (hin e).1 he with rfl|⟨he,_⟩
   ·
    exact ⟨hn.tree,hn.uses,hn.tl,hn.ul⟩
   ·
    exact h.en e he
  ·
   rw [mI,← h.rel]
   constructor
   ·
    intro hx
    obtain ⟨e,he,rfl⟩:=Ul.1 hx
    rcases (hin e).1 he with rfl|⟨he,hea⟩
    ·
     left;rfl
    ·
     right;exact ⟨Ul.2 ⟨e,he,rfl⟩,hea⟩
   ·
    rintro (rfl|⟨hx,hne⟩)
    ·
     exact Ul.2 ⟨_,(hin _).2 (.inl rfl),rfl⟩
    ·
     obtain ⟨e,he,rfl⟩:=Ul.1 hx
     exact Ul.2 ⟨e,(hin e).2 (.inr ⟨he,hne⟩),rfl⟩
theorem iK {o:Option Out} {k:Nat→PS→Option Out} {x:Int × Int} (h:gI o k=some (.error x)) (h1: ∀ y,o=some (.error y)→y.2≠0) (h2: ∀ n p y,k n p=some (.error y)→y.2≠0):x.2≠0:=by
 obtain ⟨r1,hr,⟨e,rfl,he⟩|⟨n,p,rfl,hk⟩⟩:=bU h
 ·
  cases he;exact h1 _ hr
 ·
  exact h2 _ _ _ hk
theorem vK {fin:Int} {name:Tk} {fn:Int} {n:Nat} {p:PS} {x:Int × Int} (h:dx fin name fn n p=some (.error x)):x.2≠0:=by
 unfold dx at h
 dsimp only at h
 split at h
 ·
  cases h;simp
 ·
  split at h
  ·
   cases h;simp
  ·
   split at h
   ·
    cases h;simp
   ·
    cases h
theorem MU (fin:Int): ∀ (f:Nat) (j:Job) (p:PS) (x:Int × Int),bL fin f j p=some (.error x)→x.2≠0:=by
 intro f
 induction f with
 |zero=>intro j p x h;cases j<;>cases h
 |succ f ih=>
  intro j p x h
  cases j with
  |level k=>
   rw [bL] at h
   split at h
   ·
    exact ih _ _ _ h
   ·
    exact iK h (ih _ _) fun _ _=>ih _ _
  |loop k=>
   rw [bL] at h
   try dsimp only at h
   split at h
   ·
    exact iK h (ih _ _) fun _ _=>ih _ _
   ·
    cases h
  |sign=>
   rw [bL] at h
   try dsimp only at h
   split at h
   ·
    exact iK h (ih _ _) fun _ _ _ h=>by cases h
   ·
    refine iK h (ih _ _) fun _ _ y h=> ?_
    split at h
    ·
     exact iK h (ih _ _) fun _ _ _ h=>by cases h
    ·
     cases h
  |pct=>
   rw [bL] at h
   exact iK h (ih _ _) fun _ _=>ih _ _
  |pctl=>
   rw [bL] at h
   try dsimp only at h
   split at h
   ·
    exact ih _ _ _ h
   ·
    cases h
  |prim=>
   rw [bL] at h
   try dsimp only at h
   split at h
   ·
    cases h
   ·
    split at h
    ·
     cases h
    ·
     split at h
     ·
      refine iK h (ih _ _) fun _ _ y h=> ?_
      split at h
      ·
       cases h;simp
      ·
       cases h
     ·
      split at h
      ·
       split at h
       ·
        cases h;simp
       ·
        split at h
        ·
         cases h;simp
        ·
         split at h
         ·
          exact vK h
         ·
          exact iK h (ih _ _) fun _ _ _ h=>vK h
      ·
       cases h;simp
  |args fn n=>
   rw [bL] at h
   try dsimp only at h
   have hgo: ∀ (p:PS) (y:Int × Int),(if (hdT fin p.l).kind=11 then bL fin f (.args fn (n+1)) p.skip else some (.ok (n+1,p)))=some (.error y)→y.2≠0:=by
    intro p y h
    split at h
    ·
     exact ih _ _ _ h
    ·
     cases h
   split at h
   ·
    exact iK h (ih _ _) fun _ _ _ h=>hgo _ _ h
   ·
    split at h
    ·
     cases h;simp
    ·
     exact hgo _ _ h
theorem qR {x:List Tk × Int × Int} {fin:Int}:(bX x fin).1.length≤x.1.length∧((bX x fin).2.2=0→dI (bX x fin).1=0):=by
 have hends:=ug fin (20*x.1.length+40) (.level 1) ⟨x.1,[]⟩ ⟨by omega,by omega⟩ (by simp only [Job.c];omega)
 have hgrew:=fun n p hp=>kC fin (20*x.1.length+40) (.level 1) ⟨x.1,[]⟩ n p hp
 unfold bX
 split
 ·
  rename_i h;exact ⟨TW _,fun h' =>absurd h' h⟩
 ·
  split
  ·
   rename_i h
   obtain ⟨r,hr,_⟩:=hends
   rw [h] at hr;cases hr
  ·
   rename_i a e h
   exact ⟨TW _,fun h' =>absurd h' (MU _ _ _ _ _ h)⟩
  ·
   rename_i n p hp
   split
   ·
    exact ⟨TW _,fun h' =>by cases h'⟩
   ·
    split
    ·
     rename_i hc;exact ⟨TW _,fun h' =>absurd h' hc⟩
    ·
     rename_i hc
     obtain ⟨⟨m,h1,h2,h3⟩,_,_⟩:=hgrew _ _ hp
     simp only [U2,Uc] at h3
     exact ⟨Uo h3 h2,fun _=>by simpa using hc⟩
theorem xW {b:ByteArray} (h:(ofP b).2.2=0) (hf:(ofP b).1.formula=true):dI (ofP b).1.tree=0:=by
 unfold ofP at h hf ⊢
 split at hf
 ·
  cases hf
 ·
  rename_i h1
  rw [if_neg h1] at h ⊢
  split at hf
  ·
   cases hf
  ·
   rename_i h2
   rw [h2] at h
   simp only at h ⊢
   split at hf
   ·
    cases hf
   ·
    rename_i h3
    rw [if_neg h3] at h ⊢
    have ht:=qR (x:=bH dG (ap (lf b eqB).1)) (fin:=((lf b eqB).1.size:Int))
    generalize bX (bH dG (ap (lf b eqB).1)) ((lf b eqB).1.size:Int)=r at h hf ht ⊢
    obtain ⟨t,at_,e⟩:=r
    simp only at h hf ht ⊢
    split at hf
    ·
     cases hf
    ·
     rename_i h4
     rw [if_neg h4]
     exact ht.2 (by simpa using h4)
theorem Cg (b:ByteArray):(ofP b).1.tree.length≤256:=by
 unfold ofP
 split
 ·
  exact TW _
 ·
  split
  ·
   exact TW _
  ·
   split
   ·
    exact TW _
   ·
    have ht:=(qR (x:=bH dG (ap (lf b eqB).1)) (fin:=((lf b eqB).1.size:Int))).1
    have hl:=oN dG (ap (lf b eqB).1)
    generalize bX (bH dG (ap (lf b eqB).1)) ((lf b eqB).1.size:Int)=r at ht ⊢
    obtain ⟨t,at_,e⟩:=r
    simp only at ht ⊢
    split
    ·
     exact TW _
    ·
     exact Uo ht hl
end Go.SL
namespace Go.SL
open Go Go.Proofs
attribute [local irreducible] W WL WQ WG WA WX WLI WR WT WC VOp RW thn blk bF scp ba aZ bC FnAt FnIn FnP ceP
set_option maxHeartbeats 2000000 in
theorem Qp (gg gm clock:Nat) (E:List En) (G:Gr) (a:Rf) (b:ByteArray) (R F:List Blk) (w0:World) (hG:GOk R E clock G) (hW:Words w0):
  FnIn Tryz.prog 92 [.pointer (some ⟨gg,0,none⟩),aY a,.string b] w0 (gB gg gm (E.map En.m) clock++(R++F)) fun v H=>v= .int .i64 (fQ G a b).2∧ ∃ E' clock' R',H=gB gg gm (E'.map En.m) clock' ++(R' ++F)∧MSub R R' ∧GOk R' E' clock' (fQ G a b).1:=by
 refine cF Tryz.func92 rfl Tryz.ntmps92 rfl ?_
 have hV:=fun (w' :World) (H' :List Blk) (hm:Mem w0 w' H')=>(iJ a.col a.row w' :aD Tryz.prog 64 [aY a] w' (.bool (valid a.col a.row)))
 have hO:=fun (w' :World) (H' :List Blk) (hm:Mem w0 w' H')=>QK b w' (hW.next hm)
 unfold gB
 unfold fQ
 by_cases hv:a.valid=false
 ·
  rw [if_pos hv]
  have hv' :valid a.col a.row=false:=hv
  rw [hv'] at hV
  repeat' (first|(apply aa (f:=64);exact rfl;exact rfl;(intro w' hm;exact hV w' _ hm))|refine sT ?_|refine sS ?_|refine sW ?_|refine sM fun _=> ?_|(refine sC ?_ ?_<;>intro hb<;>try omega)|(refine sCW ?_ ?_<;>intro hb<;>try omega)|fail)
  all_goals exact cA eIO rfl rfl mS ⟨rfl,E,clock,R,rfl,MSub.refl _,hG⟩
 rw [if_neg hv]
 have hv' :valid a.col a.row=true:=by
  have:a.valid=valid a.col a.row:=rfl
  rw [this] at hv
  simpa using hv
 rw [hv'] at hV
 have hlen:=Cg b
 have htree:=xW (b:=b)
 generalize ofP b=r at hO hlen htree
 obtain ⟨⟨fm,v,t⟩,at_,e⟩:=r
 simp only [ofV,CK] at hO
 dsimp only at hlen htree ⊢
 by_cases he:e≠0
 ·
  rw [if_pos he]
  repeat' (first|(apply aa (f:=64);exact rfl;exact rfl;(intro w' hm;exact hV w' _ hm))|(apply aF (f:=106);exact rfl;exact rfl;(intro w' hm;exact hO w' _ hm);rintro _ _ ⟨A,cap,rfl,rfl⟩)|refine sT ?_|refine sS ?_|refine sW ?_|refine sM fun _=> ?_|(refine sC ?_ ?_<;>intro hb<;>try omega)|(refine sCW ?_ ?_<;>intro hb<;>try omega)|fail)
  all_goals exact cA eIO rfl rfl mS ⟨rfl,E,clock,R,rfl,MSub.refl _,hG⟩
 rw [if_neg he]
 have he0:e=0:=by omega
 subst he0
 cases fm with
 |false=>
  obtain ⟨E',hE',hG'⟩:=hG.del a
  rw [if_pos rfl]
  repeat' (first|(apply aa (f:=64);exact rfl;exact rfl;(intro w' hm;exact hV w' _ hm))|(apply aF (f:=106);exact rfl;exact rfl;(intro w' hm;exact hO w' _ hm);rintro _ _ ⟨A,cap,rfl,rfl⟩)|refine sT ?_|refine sS ?_|refine sW ?_|refine sM fun _=> ?_|(refine sC ?_ ?_<;>intro hb<;>try omega)|(refine sCW ?_ ?_<;>intro hb<;>try omega)|fail)
  rename_i g4 g7
  refine fu (id:=9) [5] [] [.box gg 153 [.map (some gm)],.box g4 51 (aC a)] (by kernel_rfl) (by kernel_rfl) (by kernel_rfl) mS ?_
  repeat' (first|(apply eG;(iterate 3 exact rfl);apply fU;exact rfl)|(apply J2 (enc:=aY) (t:=151);(iterate 3 exact rfl);exact pK;rw [← hE'])|refine sT ?_|refine sS ?_|refine sW ?_|refine sM fun _=> ?_|(refine sC ?_ ?_<;>intro hb<;>try omega)|(refine sCW ?_ ?_<;>intro hb<;>try omega)|fail)
  all_goals exact cA eIO rfl rfl mS ⟨rfl,E',clock,R,rfl,MSub.refl _,hG'⟩
 |true=>
  have hck:=htree rfl rfl
  rw [if_neg (by simp)]
  have hU:=fun (w' :World) (A:Option Nat) (cap:Nat) (H' :List Blk) (hi:In (.own A 174 11 t.length cap (t.flatMap bR)) H') (hm:Mem w0 w' H')=>Qm t (sl A t.length cap) w' (Reads.of_own hm hi) (by omega)
  have hue:iX t=(eu t,0):=by unfold iX;rw [hck];rfl
  have hul:(eu t).length≤256:=Uo (gC t 0) hlen
  rw [hue] at hU
  repeat' (first|(apply aa (f:=64);exact rfl;exact rfl;(intro w' hm;exact hV w' _ hm))|(apply aF (f:=106);exact rfl;exact rfl;(intro w' hm;exact hO w' _ hm);rintro _ _ ⟨A,cap,rfl,rfl⟩)|(apply aF (f:=141);exact rfl;exact rfl;(intro w' hm;exact hU w' _ _ _ pK hm);rintro _ _ ⟨A2,cap2,rfl,rfl⟩)|refine sT ?_|refine sS ?_|refine sW ?_|refine sM fun _=> ?_|(refine sC ?_ ?_<;>intro hb<;>try omega)|(refine sCW ?_ ?_<;>intro hb<;>try omega)|fail)
  rename_i g4 g7
  have hGR:=hG.sub (R' := .own A 174 11 t.length cap (t.flatMap bR):: .own A2 100 6 (eu t).length cap2 ((eu t).flatMap cV)::R) mS
  obtain ⟨E',hE',hG'⟩:=hGR.put ⟨a,A.map fun g=>⟨g,0,none⟩,cap,A2.map fun g=>⟨g,0,none⟩,cap2,t,eu t,0⟩ ⟨rdIn.own (A:=A) pK,rdIn.own (A:=A2) pK,by dsimp only;omega,by dsimp only;omega⟩
  generalize hck2:(iA a (.agg #[sl A t.length cap,sl A2 (eu t).length cap2]) clock (E.map En.m))=kp
  have hE2:E'.map En.m=kp.1:=hck2 ▸ hE'
  have hG2:GOk _ E' kp.2 (v7 G a (t,eu t)):=hck2 ▸ hG'
  refine fu (id:=14) [9] [] [.box gg 153 [.map (some gm)],.box g4 51 (aC a),.box g7 192 [.bool true,.int .u8 v.kind,.int .i64 v.num,.string v.text,sl A t.length cap]] (by kernel_rfl) (by kernel_rfl) (by kernel_rfl) mS ?_
  repeat' (first|(apply eG;(iterate 3 exact rfl);apply fU;exact rfl)|(apply eU (enc:=aY);(iterate 3 exact rfl);exact pK;rw [hck2,← hE2])|refine sT ?_|refine sS ?_|refine sW ?_|refine sM fun _=> ?_|(refine sC ?_ ?_<;>intro hb<;>try omega)|(refine sCW ?_ ?_<;>intro hb<;>try omega)|fail)
  all_goals exact cA eIO rfl rfl (H' :=gB gg gm (E'.map En.m) kp.2++((.own A 174 11 t.length cap (t.flatMap bR):: .own A2 100 6 (eu t).length cap2 ((eu t).flatMap cV)::R)++F)) (by unfold gB;simp only [TT,TK,TL];exact mS) ⟨rfl,E',kp.2,_,rfl,mS,hG2⟩
theorem Sq (gg gm clock:Nat) (E:List En) (G:Gr) (a:Rf) (b:ByteArray) (R:List Blk) (w0:World) (hG:GOk R E clock G) (hW:Words w0):
  FnIn Tryz.prog 92 [.pointer (some ⟨gg,0,none⟩),aY a,.string b] w0 (gB gg gm (E.map En.m) clock++R) fun v H=>v= .int .i64 (fQ G a b).2∧ ∃ E' clock' R',H=gB gg gm (E'.map En.m) clock' ++R' ∧MSub R R' ∧GOk R' E' clock' (fQ G a b).1:=by
 have h:=Qp gg gm clock E G a b R [] w0 hG hW
 simp only [TR] at h
 exact h
end Go.SL
namespace Go.SL
open Go Go.Proofs
theorem MSub.appL (R H1:List Blk):MSub R (R++H1):=⟨H1,.refl _⟩
theorem MSub.appR (R H1:List Blk):MSub R (H1++R):=⟨H1,Ut⟩
theorem MSub.appC (X Hc H1:List Blk):MSub (H1++(Hc++X)) (X++(Hc++H1)):=⟨[],by
 rw [TR]
 refine List.Perm.trans ?_ (List.Perm.append_left H1 (Ut (l₁:=X) (l₂:=Hc)))
 refine List.Perm.trans (List.Perm.append_left X (Ut (l₁:=Hc) (l₂:=H1))) ?_
 rw [← TY,← TY]
 exact (Ut (l₁:=X) (l₂:=H1)).append_right Hc⟩
theorem MSub.appD (X Hc H2:List Blk):MSub (X++(Hc++H2)) (H2++(Hc++X)):=MSub.appC H2 Hc X
theorem MSub.appS (Hc H1:List Blk):MSub (H1++Hc) (Hc++H1):=⟨[],by rw [TR];exact Ut⟩
theorem MSub.appE (X Hc H2:List Blk):MSub (H2++Hc) (H2++(Hc++X)):=⟨X,by rw [TY]⟩
theorem MSub.tailX (X Hc H2:List Blk) (b:Blk):MSub (H2++(Hc++X)) (H2++(Hc++b::X)):=⟨[b],by
 rw [TY,TY]
 refine List.Perm.append_left H2 (List.Perm.append_left Hc ?_)
 exact (Ut (l₁:= [b]) (l₂:=X))⟩
section
variable {P:Program} {n:Fr} {w0:World} {Q:ck} {s:aB} {H:List Blk} {ty:TypeId}
theorem Tz {c:Code} {A:Option Addr} {m cap:Nat} {xs:List Value} {R:List Blk} (h:rdIn R (.slice A m cap) m xs) (hs:MSub R H) (hm:0<m)
  (k: ∀ g o,A=some ⟨g,o,none⟩→(∀ w,Mem w0 w R→Ro w g o xs)→W P n w0 c Q s H):W P n w0 c Q s H:=fun a w hst hmem=>by
 have key: ∀ w',Mem w0 w' R→ ∃ g o,A=some ⟨g,o,none⟩∧Ro w' g o xs:=fun w' hm' =>by
  obtain ⟨A',cap',he,_,_,h3⟩:=h _ w' hm'
  injection he with h4 h5 h6
  subst h4
  exact h3 hm
 obtain ⟨g,o,rfl,_⟩:=key w (hs.use hmem)
 refine k g o rfl (fun w' hm' => ?_) a w hst hmem
 obtain ⟨g',o',he,hr⟩:=key w' hm'
 injection he with he
 injection he with h1 h2
 subst h1;subst h2
 exact hr
theorem Gl {x:Operand} {t g o off m:Nat} {xs ys:List Value} {R:List Blk} [Agg P t m] (hx:ev s x=some (.pointer (some ⟨g,o+off,none⟩))) (hc: ∀ w,Mem w0 w R→Ro w g o xs) (hs:MSub R H) (hv:(xs.drop off).take m=ys) (hl:ys.length=m):
  VOp P w0 s H (.load t x) ty (.agg ys.toArray):=fun ρ w _ _ _ _ hρ hm=>by
 subst hv
 have hcc:Cells w g (o+off) ((xs.drop off).take m):=((hc w (hs.use hm)).cells.drop (k:=off)).take (k:=m)
 simp [execOp,hρ x _ hx,Instr.loadAt,Instr.sureAddr,iN (P:=P) hl hcc]
end
attribute [local irreducible] W WL WQ WG WA WX WLI WR WT WC VOp RW thn blk bF scp ba aZ bC FnAt FnIn FnP ceP
def jz (E:List En) (a:Rf):List (Rf × Us):=(dU E a).uses.map fun u=>(a,u)
def yU (E:List En):List (Rf × Us):=(kZ (E.map En.m)).flatMap (jz E)
def QI (x:Rf × Us):List Value:= [aY x.1,.agg (aN x.2.rect).toArray]
set_option maxHeartbeats 4000000 in
theorem Qj (gg gm clock:Nat) (E:List En) (hok:MapOk (E.map En.m) clock) (hlen:E.length≤1000) (R:List Blk) (w0:World) (hE: ∀ e∈E,EnOk R e) (g:Nat):
  Seqs Tryz.prog 222 [.pointer (some ⟨g,0,none⟩)] w0 (.box g 79 [.pointer (some ⟨gg,0,none⟩)]::(gB gg gm (E.map En.m) clock++R)) (yU E) QI:=by
 intro l I J H0 hy h0
 refine FnIn.msub (H' :=(.box g 79 [.pointer (some ⟨gg,0,none⟩)]::(gB gg gm (E.map En.m) clock++R))++H0) ?_ (MSub.appC H0 [] _)
 refine cF Tryz.func222 rfl Tryz.ntmps222 rfl ?_
 have hF:=fun R=>vT gg gm clock (E.map En.m) hok (by simp;omega) R w0
 have hfl:(kZ (E.map En.m)).length≤1000:=by rw [ym];simpa using hlen
 have hl2:(E.map En.m).length=(kZ (E.map En.m)).length:=(ym _).symm
 unfold yU at hy ⊢
 rw [hl2] at hF
 generalize kZ (E.map En.m)=F at hF hfl hy ⊢
 have hall: ∀ us,us=F.flatMap (jz E)→F.flatMap (jz E)=us:=fun us h=>h.symm
 unfold gB at hy ⊢
 repeat' (first|(apply au (f:=34);exact rfl;exact rfl;exact FnIn.msub (hF (.box g 79 [.pointer (some ⟨gg,0,none⟩)]::(R++H0))) (by unfold gB;exact mS);rintro _ _ ⟨A0,c0,rfl,rfl⟩)|refine sT ?_|refine sS ?_|refine sM fun _=> ?_|(refine sC ?_ ?_<;>intro hb<;>try omega)|fail)
 unfold gB
 refine ay [0,1,8,9] rfl (fun y:Nat × List (Rf × Us) × List Blk=> [(10,.int .i64 (y.1:Int))])
  (fun y=> .own A0 51 2 F.length c0 (F.flatMap aC)::((.box g 79 [.pointer (some ⟨gg,0,none⟩)]::([.box gg 153 [.map (some gm)],.obj gm (aU aY (E.map En.m) clock)]++R))++y.2.2))
  (fun y=>y.1≤F.length∧F.flatMap (jz E)=y.2.1++(F.drop y.1).flatMap (jz E)∧I y.2.1 y.2.2) (fun y=>F.length - y.1) (0,[],H0) ⟨by omega,rfl,h0⟩ ?_ ?_ ?_
 ·
  exact sB
 ·
  exact mS
 rintro ⟨i,pre,H1⟩ ⟨hi,hus,hI⟩
 dsimp only at hi hus hI ⊢
 by_cases hlt:i<F.length
 ·
  have hv0:((F.flatMap aC).drop (i*2)).take 2=aC F[i]:=cf fj F i hlt
  rw [TN hlt,T9] at hus
  have hl:=NF E F[i]
  have hoke:=ut hE F[i]
  have hrow:jz E F[i]=(dU E F[i]).uses.map fun u=>(F[i],u):=rfl
  rw [hrow] at hus
  generalize F[i]=a at hv0 hl hoke hus
  generalize dU E a=e at hl hoke hus
  refine bK (A:=A0) pK (by omega) fun g0 hA0=> ?_
  subst hA0
  repeat' (first|(apply ak;exact rfl;apply aj;exact rfl;exact rfl;exact hlt)|(apply ak;exact rfl;apply aA (ys:=aC a);exact rfl;exact pK;(rw [Uc];exact hv0);exact rfl)|(apply eG;(iterate 3 exact rfl);apply fU;exact rfl)|(apply eW (id:=3) [] [];kernel_rfl;kernel_rfl;kernel_rfl)|(apply eG;(iterate 3 exact rfl);apply ep (enc:=aY) (z:=wO);exact rfl;exact rfl;exact pK;exact hl)|(apply eG;(iterate 3 exact rfl);apply dW;exact rfl;exact rfl)|refine sT ?_|refine sS ?_|refine sW ?_|refine sN ?_|refine sWN ?_|refine sM fun _=> ?_|(refine sC ?_ ?_<;>intro hb<;>try omega)|(refine sCW ?_ ?_<;>intro hb<;>try omega)|fail)
  rename_i g4
  have hul:=hoke.ul
  refine ay [0,1,8,9,10,4,20,21] rfl (fun y:Nat × List (Rf × Us) × List Blk=> [(22,.int .i64 (y.1:Int))])
   (fun y=> .box g4 51 (aC a):: .own (some g0) 51 2 F.length c0 (F.flatMap aC)::((.box g 79 [.pointer (some ⟨gg,0,none⟩)]::([.box gg 153 [.map (some gm)],.obj gm (aU aY (E.map En.m) clock)]++R))++y.2.2))
   (fun y=>y.1≤e.uses.length∧F.flatMap (jz E)=y.2.1++((e.uses.drop y.1).map (fun u=>(a,u))++(F.drop (i+1)).flatMap (jz E))∧I y.2.1 y.2.2) (fun y=>e.uses.length - y.1) (0,pre,H1) ⟨by omega,hus,hI⟩ sB (by exact MSub.refl _) ?_
  rintro ⟨k,pre2,H2⟩ ⟨hk,hus2,hI2⟩
  dsimp only at hk hus2 hI2 ⊢
  by_cases hkt:k<e.uses.length
  ·
   rw [TN hkt,Ud,TK] at hus2
   have hv1:((e.uses.flatMap cV).drop (k*6)).take 6=cV e.uses[k]:=cf yK e.uses k hkt
   generalize e.uses[k]=u at hus2 hv1
   have hsubR: ∀ X:List Blk,MSub R (X++((.box g 79 [.pointer (some ⟨gg,0,none⟩)]::([.box gg 153 [.map (some gm)],.obj gm (aU aY (E.map En.m) clock)]++R))++H2)):=fun X=>by
    refine MSub.trans ?_ (MSub.appR _ X)
    refine MSub.drop .hd (MSub.drop .hd (MSub.drop .hd ?_))
    exact MSub.appL _ _
   refine Tz hoke.uses (hsubR [.box g4 51 (aC a),.own (some g0) 51 2 F.length c0 (F.flatMap aC)]) (by omega) fun gu ou hua hur=> ?_
   have huv:e.uv= .slice (some ⟨gu,ou,none⟩) e.uses.length e.uc:=by unfold En.uv;rw [hua]
   rw [huv]
   repeat' (first|(apply ak;exact rfl;apply aj;exact rfl;exact rfl;exact hkt)|(apply ak;exact rfl;apply Gl (ys:=cV u);exact rfl;exact hur;exact hsubR [.box g4 51 (aC a),.own (some g0) 51 2 F.length c0 (F.flatMap aC)];exact hv1;exact rfl)|(apply je (id:=6))|(apply IZ;exact rfl;exact rfl;apply oG (ys:=aN u.rect);exact rfl;exact pK;exact rfl;exact rfl)|refine sT ?_|refine sS ?_|refine sI ?_|refine sN ?_|refine sM fun _=> ?_|(refine sC ?_ ?_<;>intro hb<;>try omega)|fail)
   rename_i g6
   (with_reducible apply il)
   ·
    exact rfl
   ·
    exact rfl
   ·
    exact rfl
   ·
    exact MSub.appC [.box g6 100 (cV u),.box g4 51 (aC a),.own (some g0) 51 2 F.length c0 (F.flatMap aC)] (.box g 79 [.pointer (some ⟨gg,0,none⟩)]::([.box gg 153 [.map (some gm)],.obj gm (aU aY (E.map En.m) clock)]++R)) H2
   ·
    exact fun w hm=>hy pre2 (a,u) _ hus2 H2 _ hI2 w hm
   intro bb H3 hq
   cases bb
   ·
    repeat' (first|refine sT ?_|refine sS ?_|refine sI ?_|refine sM fun _=> ?_|(refine sC ?_ ?_<;>intro hb<;>try omega)|fail)
    exact fL eIO Tryz.results222 (MSub.appE [.box g6 100 (cV u),.box g4 51 (aC a),.own (some g0) 51 2 F.length c0 (F.flatMap aC)] (.box g 79 [.pointer (some ⟨gg,0,none⟩)]::([.box gg 153 [.map (some gm)],.obj gm (aU aY (E.map En.m) clock)]++R)) H3) ⟨H3,.inr ⟨_,hq⟩,MSub.refl _⟩
   ·
    repeat' (first|refine sT ?_|refine sS ?_|refine sI ?_|refine sN ?_|refine sM fun _=> ?_|(refine sC ?_ ?_<;>intro hb<;>try omega)|fail)
    refine ⟨(k+1,_,H3),⟨hkt,hus2.trans (by rw [List.append_assoc];rfl),hq⟩,(by dsimp only;omega),?_,?_,?_⟩
    ·
     exact sB
    ·
     exact sB
    ·
     dsimp only
     exact MSub.trans (MSub.appD [.box g4 51 (aC a),.own (some g0) 51 2 F.length c0 (F.flatMap aC)] (.box g 79 [.pointer (some ⟨gg,0,none⟩)]::Blk.box gg 153 [.map (some gm)]::Blk.obj gm (aU aY (E.map En.m) clock)::R) H3) (MSub.tailX _ _ _ _)
  ·
   have e2:k=e.uses.length:=by omega
   subst e2
   rw [UB,UQ,TL] at hus2
   repeat' (first|refine sT ?_|refine sS ?_|refine sN ?_|refine sM fun _=> ?_|(refine sC ?_ ?_<;>intro hb<;>try omega)|fail)
   refine ⟨(i+1,pre2,H2),⟨hlt,hus2,hI2⟩,(by dsimp only;omega),?_,?_,?_⟩
   ·
    exact sB
   ·
    exact sB
   ·
    exact MSub.drop .hd (MSub.refl _)
 ·
  have e2:i=F.length:=by omega
  subst e2
  rw [UB,Up,TR] at hus
  repeat' (first|refine sT ?_|refine sS ?_|refine sM fun _=> ?_|(refine sC ?_ ?_<;>intro hb<;>try omega)|fail)
  refine fL (.inr rfl) Tryz.results222 (MSub.drop .hd (MSub.appS (.box g 79 [.pointer (some ⟨gg,0,none⟩)]::([.box gg 153 [.map (some gm)],.obj gm (aU aY (E.map En.m) clock)]++R)) H1)) ⟨H1,.inl ?_,MSub.refl _⟩
  rw [hus];exact hI
end Go.SL
