/-
  Lemmas and walks, put together: Sl2 Sl4 Ty La Ra Rb Pg2 Pf Fp Ng Nd Ne.
-/
import Derived.Test.YthefeclkaaocnaaGreatDoorKf35
set_option linter.unusedSimpArgs false
set_option linter.unusedVariables false
set_option maxRecDepth 20000
namespace Go.SL
open Go Go.RowKit
section
variable {P:Program} {n:Fr} {w0:World} {Q:ck} {s:aB} {H:List Blk} {ops:Array Oper} {rest:List Oper} {ty:TypeId} {p:String} {af:Array Edge}
section ap
variable {x y:Operand} {k:IntKind} {a b:Int} {t t' :TypeId}
end ap
section bools
variable {x y:Operand} {a b:Bool} {t t' :TypeId}
theorem Mw [ht:Und P t .bool] (hx:ev s x=some (.bool a)) (hy:ev s y=some (.bool b)):VOp P w0 s H (.binOp .neq t x y t') ty (.bool (!(a==b))):=fun ρ w _ _ _ _ hρ _=>by
 simp [execOp,hρ x _ hx,hρ y _ hy,eqGuard,run_neq_bool w t a b ht.out]
end bools
section strings
variable {x y:Operand} {a b:ByteArray} {t t' :TypeId}
end strings
end
theorem FnAt.mono {P:Program} {f:FuncId} {args:List Value} {w:World} {R R' :Value→List Blk→Prop} (h:FnAt P f args w R) (hr: ∀ v H,R v H→R' v H):FnAt P f args w R' :=
 Calls.mono h fun _ _ ⟨v,H',h1,h2,h3⟩=>⟨v,H',h1,h2,hr _ _ h3⟩
section
variable {P:Program} {n:Fr} {w0:World} {Q:ck} {s:aB} {H:List Blk} {l rest:List Oper} {ty:TypeId} {p:String} {af:Array Edge}
section res
variable {fn:Func} {R:Value→List Blk→Prop} {e:Exit}
end res
variable {K:aB→Prop}
end
end Go.SL
namespace Go.SL
end Go.SL
namespace Go.SL
open Go Go.Proofs
instance:Callable Tryz.prog 36:=⟨fun args w=>Tryz.call36 args w⟩
end Go.SL
namespace Go.SL
open Go Go.Proofs
attribute [local irreducible] W WL WQ WG WA WX WLI WR WT WC VOp RW thn blk bF scp ba aZ bC FnAt FnIn FnP ceP
theorem BF {P:Program} {w0:World} {s:aB} {H:List Blk} {ty t t' :TypeId} [Und P t .bool] {x y:Operand} {b:Bool} (hx:ev s x=some (.bool b)) (hy:ev s y=some (.bool b)):VOp P w0 s H (.binOp .neq t x y t') ty (.bool false):=by
 have h:=Mw (P:=P) (w0:=w0) (s:=s) (H:=H) (ty:=ty) (t:=t) (t' :=t') hx hy
 simpa using h
end Go.SL
namespace Go.SL
open Go Go.Proofs
attribute [local irreducible] W WL WQ WG WA WX WLI WR WT WC WE VOp RW thn blk bF scp ba aZ bC FnAt FnIn FnP ceP
theorem rectE_zero (r:Rct):dY r=0↔aH r=true:=by
 have:=xM (r:=r)
 cases h:aH r
 ·
  rw [h] at this
  simp only [iff_true,Ur,iff_false] at this ⊢
  exact this
 ·
  rw [h] at this
  simpa using this
end Go.SL
namespace Go.SL
open Go Go.Proofs
def setFrom (S:List Rf) (j:Nat):List (Rf × Value × Nat):=(S.zipIdx j).map fun x=>(x.1,.bool true,x.2)
def setM (S:List Rf):List (Rf × Value × Nat):=setFrom S 0
theorem setFrom_cons (a:Rf) (S:List Rf) (j:Nat):setFrom (a::S) j=(a,.bool true,j)::setFrom S (j+1):=by simp [setFrom,Wn]
theorem setFrom_app (a:Rf): ∀ (S:List Rf) (j:Nat),setFrom (S++ [a]) j=setFrom S j++ [(a,.bool true,j+S.length)]
 | [],j=>rfl
 |b::S,j=>by
  rw [TK,setFrom_cons,setFrom_cons,setFrom_app a S (j+1),TK,TZ,show j+1+S.length=j+(S.length+1) by omega]
theorem look_from (a:Rf): ∀ (S:List Rf) (j i:Nat),(match bJ a (setFrom S j) i with|some (_,v)=>v|none=>Value.bool false)= .bool (decide (a∈S))
 | [],_,_=>rfl
 |b::S,j,i=>by
  rw [setFrom_cons,bJ]
  by_cases h:a=b
  ·
   rw [if_pos h]
   simp [h]
  ·
   rw [if_neg h,look_from a S (j+1) (i+1)]
   simp [h]
theorem look_set (S:List Rf) (a:Rf):(match bJ a (setM S) 0 with|some (_,v)=>v|none=>Value.bool false)= .bool (decide (a∈S)):=look_from a S 0 0
theorem kfind_none_from (a:Rf): ∀ (S:List Rf) (j i:Nat),a∉S→bJ a (setFrom S j) i=none
 | [],_,_,_=>rfl
 |b::S,j,i,h=>by
  rw [setFrom_cons,bJ,if_neg (fun e=>h (by rw [e];exact TI))]
  exact kfind_none_from a S _ _ (fun hs=>h (TM _ hs))
theorem put_set {S:List Rf} {a:Rf} (h:a∉S):iA a (.bool true) S.length (setM S)=(setM (S++ [a]),S.length+1):=by
 unfold iA setM
 rw [kfind_none_from a S 0 0 h,setFrom_app,Uc]
end Go.SL
namespace Go.SL
open Go
theorem hasR_iff {r:Rct} {a:Rf}:cj r a=true↔r.c1≤a.col∧a.col≤r.c2∧r.r1≤a.row∧a.row≤r.r2:=by
 unfold cj
 simp only [TU,decide_eq_true_eq,and_assoc]
structure DfI (G:Gr) (w:Lw) (u:Nat) (c:Rf) (S work:List Rf):Prop where
 nd:S.Nodup
 here:c∈S
 keys: ∀ d∈S,d=c∨d∈aq G
 sees:seesP G w u c→ ∀ d∈S,seesP G w u d
 sub: ∀ d∈work,d∈S
 done: ∀ d∈S,d∉work→(w.rd d).getLsbD u=true∧ ∀ x∈aK G d,(w.to x).getLsbD u=true∨((w.ov x.rect).getLsbD u=true∧ ∀ f∈aq G,cj x.rect f=true→f∈S)
theorem DfI.start {G:Gr} {w:Lw} {u:Nat} {c:Rf}:DfI G w u c [c] [c]:=
 ⟨U4 _ _,TX.2 rfl,fun d hd=> .inl (TX.1 hd),fun h d hd=>by rw [TX.1 hd];exact h,fun _ h=>h,fun d hd hn=>absurd hd hn⟩
theorem DfI.all {G:Gr} {w:Lw} {u:Nat} {c:Rf} {S:List Rf} (h:DfI G w u c S []):seesP G w u c:=⟨fun d=>d∈S,h.here,fun d hd=>h.done d hd (by simp)⟩
theorem DfI.len {G:Gr} (hG:GrOk G) {w:Lw} {u:Nat} {c:Rf} {S work:List Rf} (h:DfI G w u c S work):S.length≤G.length+1:=by
 have h1:(S.filter fun d=>decide (d≠c)).length≤G.length:=E0 hG (h.nd.filter _) fun d hd=>by
  obtain ⟨hd,hn⟩:=Vb.1 hd
  exact (h.keys d hd).resolve_left (by simpa using hn)
 have h2:(S.filter fun d=>decide (d=c)).length≤1:=by
  have hnd:=h.nd.filter (fun d=>decide (d=c))
  generalize hF:S.filter (fun d=>decide (d=c))=F at hnd
  have hm: ∀ d∈F,d=c:=fun d hd=>by rw [← hF] at hd;simpa using (Vb.1 hd).2
  match F,hnd,hm with
  | [],_,_=>simp
  | [_],_,_=>simp
  |a::b::F,hnd,hm=>
   have:=(VH.1 hnd).1
   rw [hm a (by simp),← hm b (by simp)] at this
   exact absurd TI this
 have h3: ∀ L:List Rf,L.length=(L.filter fun d=>decide (d≠c)).length+(L.filter fun d=>decide (d=c)).length:=by
  intro L
  induction L with
  |nil=>rfl
  |cons a L ih=>
   by_cases e:a=c<;>simp [e] at ih ⊢ <;>omega
 have:=h3 S
 omega
theorem DfI.add {G:Gr} {w:Lw} {u:Nat} {c d f:Rf} {S work:List Rf} {x:Us} (h:DfI G w u c S (d::work)) (hx:x∈aK G d) (hto:(w.to x).getLsbD u=false) (hf:f∈aq G) (hh:cj x.rect f=true) (hn:f∉S):DfI G w u c (S++ [f]) (d::(work++ [f])):=by
 have hd:d∈S:=h.sub d TI
 refine ⟨?_,Uv _ h.here,fun e he=> ?_,fun hc e he=> ?_,fun e he=> ?_,fun e he hne=> ?_⟩
 ·
  exact Vu.2 ⟨h.nd,U4 _ _,fun a ha b hb e=>hn (by rw [TX.1 hb] at e;exact e ▸ ha)⟩
 ·
  rcases Ub.1 he with he|he
  ·
   exact h.keys e he
  ·
   rw [TX.1 he];exact .inr hf
 ·
  rcases Ub.1 he with he|he
  ·
   exact h.sees hc e he
  ·
   rw [TX.1 he]
   rcases (h.sees hc d hd).out.2 x hx with h1|⟨_,h2⟩
   ·
    rw [hto] at h1;cases h1
   ·
    exact h2 f hf hh
 ·
  rcases TS.1 he with rfl|he
  ·
   exact Uv _ hd
  ·
   rcases Ub.1 he with he|he
   ·
    exact Uv _ (h.sub e (TM _ he))
   ·
    exact UJ _ he
 ·
  rw [TS,Ub,not_or,not_or] at hne
  rcases Ub.1 he with he|he
  ·
   obtain ⟨h1,h2⟩:=h.done e he (by rw [TS,not_or];exact ⟨hne.1,hne.2.1⟩)
   refine ⟨h1,fun y hy=> ?_⟩
   rcases h2 y hy with h3|⟨h3,h4⟩
   ·
    exact .inl h3
   ·
    exact .inr ⟨h3,fun g hg hgh=>Uv _ (h4 g hg hgh)⟩
  ·
   exact absurd he hne.2.2
theorem DfI.pop {G:Gr} {w:Lw} {u:Nat} {c d:Rf} {S work:List Rf} (h:DfI G w u c S (d::work)) (hr:(w.rd d).getLsbD u=true) (hall: ∀ x∈aK G d,(w.to x).getLsbD u=true∨((w.ov x.rect).getLsbD u=true∧ ∀ f∈aq G,cj x.rect f=true→f∈S)):DfI G w u c S work:=by
 refine ⟨h.nd,h.here,h.keys,h.sees,fun e he=>h.sub e (TM _ he),fun e he hn=> ?_⟩
 by_cases e1:e=d
 ·
  subst e1;exact ⟨hr,hall⟩
 ·
  exact h.done e he (by rw [TS,not_or];exact ⟨e1,hn⟩)
theorem DfI.no_rd {G:Gr} {w:Lw} {u:Nat} {c d:Rf} {S work:List Rf} (h:DfI G w u c S (d::work)) (hr:(w.rd d).getLsbD u=false): ¬ seesP G w u c:=fun hc=>by
 have:=(h.sees hc d (h.sub d TI)).out.1
 rw [hr] at this;cases this
theorem DfI.no_ov {G:Gr} {w:Lw} {u:Nat} {c d:Rf} {S work:List Rf} {x:Us} (h:DfI G w u c S (d::work)) (hx:x∈aK G d) (hto:(w.to x).getLsbD u=false) (hov:(w.ov x.rect).getLsbD u=false): ¬ seesP G w u c:=fun hc=>by
 rcases (h.sees hc d (h.sub d TI)).out.2 x hx with h1|⟨h1,_⟩
 ·
  rw [hto] at h1;cases h1
 ·
  rw [hov] at h1;cases h1
end Go.SL
namespace Go.SL
open Go Go.Proofs Go.ChangeShapes Go.WideShapes Go.ChangeAt Go.RowKit Go.Deep
section
variable {H:Type} {enc:TypeId × Value→H} {w:World} {base:Nat} {spare:Nat→Bool} {held:Bool}
set_option maxRecDepth 100000 in
theorem KT {v:Value} {d:DataW H} {p:List MemPlace} (hv:Value.okWide Tryz.prog w .any base 65 v) (h:DataW.Trod enc Tryz.prog w 0 spare held 65 v d p): ∃ L:List Rf,Reads w v L.length (L.flatMap aC)∧ ∀ a∈L,okF a:=
 qf Tryz.underlying65 (by kernel_rfl) (by decide) fj (fun _ _ _ h=>DF h) hv h
end
end Go.SL
namespace Go.SL
open Go
theorem ovE_ok {L:List Rl} (h:(dw 64 L).2=0) {r:Rct} (hr:aH r=true):ovE r L=((lW (fun x=>x.read) r L,lW (fun x=>x.write) r L,lW (fun x=>x.own) r L),0):=by
 have hz:iT r L=0:=by
  unfold iT
  rw [if_neg (by rw [hr];decide)];exact h
 unfold ovE
 rw [if_neg (by rw [hz];decide)]
end Go.SL
namespace Go.SL
open Go Go.Proofs
attribute [local irreducible] W WL WQ WG WA WX WLI WR WT WC WE VOp RW thn blk bF scp ba aZ bC FnAt FnIn FnP ceP gA cP dR
theorem PA (a:BitVec 64):(a.toNat:Int).tmod 2=((a &&& 1#64).toNat:Int):=by
 have h1:(a &&& 1#64).toNat=a.toNat % 2:=by
  rw [BitVec.toNat_and,show (1#64).toNat=1 from rfl,Nat.and_one_is_mod]
 rw [h1,VZ (by omega)]
 omega
section
variable {P:Program} {w0:World} {s:aB} {H:List Blk} {ty:TypeId}
theorem tR {x y:Operand} {a:BitVec 64} {t t' :TypeId} (hx:ev s x=some (vS a)) (hy:ev s y=some (.int .u64 2)):VOp P w0 s H (.binOp .rem t x y t') ty (vS (a &&& 1#64)):=
 mg hx hy (by decide) (PA a)
theorem fW {c:Bool} {x y:Operand} {a b:BitVec 64} {t t' :TypeId} (h:decide (a=b)=c) (hx:ev s x=some (vS a)) (hy:ev s y=some (vS b)):VOp P w0 s H (.binOp .eql t x y t') ty (.bool c):=h ▸ p9 hx hy
end
theorem CQ (x:BitVec 64) (m:Nat):decide ((x>>>m) &&& 1#64=1#64)=x.getLsbD m:=BO x m
theorem FK (x:BitVec 64) (m:Nat):decide ((x>>>m) &&& 1#64=0#64)= !x.getLsbD m:=by
 rw [← BO]
 have h:(x>>>m) &&& 1#64=0#64∨(x>>>m) &&& 1#64=1#64:=by
  have h1:((x>>>m) &&& 1#64).toNat=(x>>>m).toNat % 2:=by
   rw [BitVec.toNat_and,show (1#64).toNat=1 from rfl,Nat.and_one_is_mod]
  have h2:(x>>>m).toNat % 2=0∨(x>>>m).toNat % 2=1:=by omega
  rcases h2 with h2|h2
  ·
   left;apply VW;rw [h1,h2];rfl
  ·
   right;apply VW;rw [h1,h2];rfl
 rcases h with h|h<;>rw [h]<;>rfl
theorem DfI.perm {G:Gr} {w:Lw} {u:Nat} {c:Rf} {S work work' :List Rf} (h:DfI G w u c S work) (hw: ∀ d,d∈work' ↔d∈work):DfI G w u c S work' :=
 ⟨h.nd,h.here,h.keys,h.sees,fun d hd=>h.sub d ((hw d).1 hd),fun d hd hn=>h.done d hd fun hm=>hn ((hw d).2 hm)⟩
theorem Lf {W0:List Rf} {d:Rf}:(((W0++ [d]).flatMap aC).drop (0+((W0++ [d]).length - 1)*2)).take 2=aC d:=by
 have h:=xJ (L:=W0++ [d]) (k:=(W0++ [d]).length - 1) (by simp)
 rw [h]
 simp
theorem Lg {W0:List Rf} {d:Rf}:((W0++ [d]).flatMap aC).take (W0.length*2)=W0.flatMap aC:=by
 rw [Ua]
 exact List.take_left' (aR fj W0)
set_option maxHeartbeats 16000000 in
theorem Ky (m : Nat) (hm : m < 64) (c : Rf) (hcv : c.valid = true) (gg : Nat) (G : Gr) (B F : List Blk) (w0 : World) (R : Rdr gg G B w0) (hB : MSub B F) (L : List Rl) (N : List Gn) (Al An : Option Addr) (cl cn : Nat) (hl : ∀ w', Mem w0 w' F → Reads w' (.slice Al L.length cl) L.length (L.flatMap bM)) (hn : ∀ w', Mem w0 w' F → Reads w' (.slice An N.length cn) N.length (N.flatMap bp)) (hN : N.length ≤ 1000000) (hL0 : (dw 64 L).2 = 0) (hN0 : (gQ 64 N).2 = 0) :
    FnIn Tryz.prog 36 [.int .i64 (m : Int), aY c, .pointer (some ⟨gg, 0, none⟩), .slice Al L.length cl, .slice An N.length cn] w0 F fun v H' => ∃ b, v = .bool b ∧ (b = true ↔ seesP G (aI L N) m c) ∧ H' = F := by
  refine cF Tryz.func36 rfl Tryz.ntmps36 rfl ?_
  have hG := R.g
  have hGl := R.l
  have hFm := R.fm
  have hUs := R.us
  obtain ⟨K, hK⟩ : ∃ K, aq G = K := ⟨_, rfl⟩
  have hKl : K.length ≤ 900 := by rw [← hK, aq, Uf]; exact hGl
  rw [hK] at hFm
  have hput0 : iA c (.bool true) 0 ([] : List (Rf × Value × Nat)) = (setM [c], 1) := put_set (S := []) (a := c) (by simp)
  repeat' (first
    | ((with_reducible apply au (f := 34)); exact rfl; exact rfl; exact hFm _ (MSub.trans hB (by (repeat (first | exact MSub.nil _ | refine MSub.pick (by (repeat first | exact .hd | apply Sel.tl | apply In.tl)) ?_ | exact MSub.refl _ | refine MSub.drop .hd ?_)))); rintro _ _ ⟨Ac, cap, rfl, rfl⟩)
    | ((with_reducible apply fS (d := 29) (enc := aY)); exact rfl; intro gs)
    | ((with_reducible apply zB (enc := aY) (k := c)); exact rfl; exact rfl; exact rfl; (repeat first | exact .hd | apply Sel.tl | apply In.tl); rw [hput0])
    | ((with_reducible apply ak); exact rfl; (first | ((with_reducible apply QY); exact rfl) | ((with_reducible apply Dz); exact rfl) | ((with_reducible apply SI); exact rfl) | ((with_reducible apply Mx); exact rfl) | ((with_reducible apply w7); exact rfl; (repeat first | exact .hd | apply Sel.tl | apply In.tl); exact rfl) | ((with_reducible apply Rx); exact rfl; exact rfl) | ((with_reducible apply Mw); exact rfl; exact rfl) | ((with_reducible apply Dx); exact rfl; (repeat first | exact .hd | apply Sel.tl | apply In.tl); exact rfl) | ((with_reducible apply oH); exact rfl; (repeat first | exact .hd | apply Sel.tl | apply In.tl); exact rfl; exact rfl) | ((with_reducible apply v_shr); exact rfl; exact rfl; exact rfl)))
    | ((with_reducible apply OW); exact rfl; exact rfl)
    | ((with_reducible apply Me); exact rfl; exact rfl; exact rfl; exact rfl)
    | ((with_reducible apply Mc); exact rfl; exact rfl; exact rfl)
    | ((with_reducible apply OX); exact rfl; exact rfl; intro _)
    | ((with_reducible apply OY); exact rfl; exact rfl; exact rfl; intro _)
    | ((with_reducible apply Mi); exact rfl; intro _)
    | ((with_reducible apply y6); exact rfl; exact rfl; (repeat first | exact .hd | apply Sel.tl | apply In.tl); exact rfl; exact rfl; exact rfl)
    | ((with_reducible apply Dg); exact rfl; exact rfl; (repeat first | exact .hd | apply Sel.tl | apply In.tl); exact rfl; exact rfl; exact rfl; exact rfl)
    | ((with_reducible apply y7); exact rfl; exact rfl; exact rfl; exact rfl; exact rfl; exact rfl; exact rfl; intro _)
    | ((with_reducible apply J1) <;> first | exact rfl | (intro hb; (replace hb := Tidy.out hb; try (exfalso; omega))))
    | (with_reducible first | apply F9 | apply SQ | apply Sw | apply Mr | apply Sx | apply QT | apply QW | apply O3 | apply SN | apply SS | apply Tl | apply Ti | apply Tm | apply O0 | apply O2 | apply scp_n | apply SU | apply scp_e)
    | ((with_reducible apply Du); exact rfl)
    | ((with_reducible apply BC); exact rfl)
    | ((with_reducible apply QX) <;> first | exact rfl | (intro hb; (replace hb := Tidy.out hb; try (exfalso; omega))))
    | ((with_reducible apply Th); exact rfl)
    | ((with_reducible apply ak); exact rfl; (with_reducible apply lp); exact rfl; exact rfl; (simp only [maxLen] at *; omega))
    | ((with_reducible apply ak); exact rfl; (with_reducible apply Je); exact rfl; exact rfl; (simp only [maxLen] at *; omega))
    | ((with_reducible apply ak); exact rfl; (with_reducible apply dP); exact rfl; exact rfl; (simp only [maxLen] at *; omega))
    | ((with_reducible apply ak); exact rfl; (with_reducible apply di); exact rfl; exact rfl; omega; (simp only [maxLen] at *; omega))
    | ((with_reducible apply ak); exact rfl; (with_reducible apply lT); exact rfl; exact rfl; omega; (simp only [maxLen] at *; omega)))
  all_goals first | (exfalso; omega) | skip
  rename_i gw
  refine ay [0, 2, 3, 4, 11, 12] rfl (fun y : Option Nat × Nat × List Rf × List Rf => [(13, sl y.1 y.2.2.2.length y.2.1)]) (fun y => .own y.1 51 2 y.2.2.2.length y.2.1 (y.2.2.2.flatMap aC) :: .obj gs (aU aY (setM y.2.2.1) y.2.2.1.length) :: .own Ac 51 2 K.length cap (K.flatMap aC) :: F) (fun y => DfI G (aI L N) m c y.2.2.1 y.2.2.2 ∧ 2 * (G.length + 1 - y.2.2.1.length) + y.2.2.2.length ≤ 2 * G.length + 1) (fun y => 2 * (G.length + 1 - y.2.2.1.length) + y.2.2.2.length) (some gw, 1, [c], [c]) ⟨DfI.start, by simp only [TH]; omega⟩ (by (repeat (first | exact Sub.nil _ | refine Sub.cons rfl ?_))) (by simp only [T9, Up, TR, TH]; (repeat (first | exact MSub.nil _ | refine MSub.pick (by (repeat first | exact .hd | apply Sel.tl | apply In.tl)) ?_ | exact MSub.refl _ | refine MSub.drop .hd ?_))) ?_
  rintro ⟨Aw, cw, S, WW⟩ ⟨hI, hms⟩
  dsimp only at hI hms ⊢
  have hWW : WW = [] ∨ ∃ (l : List Rf) (b : Rf), WW = l ++ [b] := by
    rcases List.eq_nil_or_concat WW with h | ⟨l, b, h⟩
    · exact .inl h
    · exact .inr ⟨l, b, by rw [h, List.concat_eq_append]⟩
  rcases hWW with rfl | ⟨W0, d, rfl⟩
  · have hall := hI.all
    repeat' (first
      | ((with_reducible apply ak); exact rfl; (first | ((with_reducible apply QY); exact rfl) | ((with_reducible apply Dz); exact rfl) | ((with_reducible apply SI); exact rfl) | ((with_reducible apply Mx); exact rfl) | ((with_reducible apply w7); exact rfl; (repeat first | exact .hd | apply Sel.tl | apply In.tl); exact rfl) | ((with_reducible apply Rx); exact rfl; exact rfl) | ((with_reducible apply Mw); exact rfl; exact rfl) | ((with_reducible apply Dx); exact rfl; (repeat first | exact .hd | apply Sel.tl | apply In.tl); exact rfl) | ((with_reducible apply oH); exact rfl; (repeat first | exact .hd | apply Sel.tl | apply In.tl); exact rfl; exact rfl) | ((with_reducible apply v_shr); exact rfl; exact rfl; exact rfl)))
      | ((with_reducible apply OW); exact rfl; exact rfl)
      | ((with_reducible apply Me); exact rfl; exact rfl; exact rfl; exact rfl)
      | ((with_reducible apply Mc); exact rfl; exact rfl; exact rfl)
      | ((with_reducible apply OX); exact rfl; exact rfl; intro _)
      | ((with_reducible apply OY); exact rfl; exact rfl; exact rfl; intro _)
      | ((with_reducible apply Mi); exact rfl; intro _)
      | ((with_reducible apply y6); exact rfl; exact rfl; (repeat first | exact .hd | apply Sel.tl | apply In.tl); exact rfl; exact rfl; exact rfl)
      | ((with_reducible apply Dg); exact rfl; exact rfl; (repeat first | exact .hd | apply Sel.tl | apply In.tl); exact rfl; exact rfl; exact rfl; exact rfl)
      | ((with_reducible apply y7); exact rfl; exact rfl; exact rfl; exact rfl; exact rfl; exact rfl; exact rfl; intro _)
      | ((with_reducible apply J1) <;> first | exact rfl | (intro hb; (replace hb := Tidy.out hb; try (exfalso; omega))))
      | (with_reducible first | apply F9 | apply SQ | apply Sw | apply Mr | apply Sx | apply QT | apply QW | apply O3 | apply SN | apply SS | apply Tl | apply Ti | apply Tm | apply O0 | apply O2 | apply scp_n | apply SU | apply scp_e)
      | ((with_reducible apply Du); exact rfl)
      | ((with_reducible apply BC); exact rfl)
      | ((with_reducible apply QX) <;> first | exact rfl | (intro hb; (replace hb := Tidy.out hb; try (exfalso; omega))))
      | ((with_reducible apply Th); exact rfl)
      | ((with_reducible apply ak); exact rfl; (with_reducible apply lp); exact rfl; exact rfl; (simp only [maxLen] at *; omega))
      | ((with_reducible apply ak); exact rfl; (with_reducible apply Je); exact rfl; exact rfl; (simp only [maxLen] at *; omega))
      | ((with_reducible apply ak); exact rfl; (with_reducible apply dP); exact rfl; exact rfl; (simp only [maxLen] at *; omega))
      | ((with_reducible apply ak); exact rfl; (with_reducible apply di); exact rfl; exact rfl; omega; (simp only [maxLen] at *; omega))
      | ((with_reducible apply ak); exact rfl; (with_reducible apply lT); exact rfl; exact rfl; omega; (simp only [maxLen] at *; omega)))
    all_goals first
      | (exfalso; omega)
      | (exact cA (by first | exact .inl rfl | exact .inr rfl) rfl rfl (H' := F) (by (repeat (first | exact MSub.nil _ | refine MSub.pick (by (repeat first | exact .hd | apply Sel.tl | apply In.tl)) ?_ | exact MSub.refl _ | refine MSub.drop .hd ?_))) ⟨true, rfl, ⟨fun _ => hall, fun _ => rfl⟩, rfl⟩)
      | trace_state
  have hWl : (W0 ++ [d]).length = W0.length + 1 := by simp
  refine I5 (A := Aw) (by (repeat first | exact .hd | apply Sel.tl | apply In.tl)) fun _ hle _ => ?_
  refine bK (A := Aw) (by (repeat first | exact .hd | apply Sel.tl | apply In.tl)) (by omega) fun gw2 hA => ?_
  subst hA
  have hI2 : DfI G (aI L N) m c S (d :: W0) := hI.perm fun e => by simp [or_comm]
  have hSl := hI2.len hG
  have hdS : d ∈ S := hI2.sub d TI
  have hdv : d.valid = true := by
    rcases hI2.keys d hdS with rfl | h
    · exact hcv
    · exact jr hG h
  have hread := Lf (W0 := W0) (d := d)
  have hshr := Lg (W0 := W0) (d := d)
  rw [hWl, VJ] at hread
  have hat := fun (w' : World) (H : List Blk) (h' : MSub F H) (hm : Mem w0 w' H) => wN d L _ w' (hl w' (h'.use hm))
  rw [(uP hL0 hdv).2] at hat
  have hrd : (aI L N).rd d = (atE d L).1.1 := rfl
  have hno := fun h => hI2.no_rd (d := d) h
  have hpop := fun {S' W' : List Rf} (h : DfI G (aI L N) m c S' (d :: W')) => h.pop
  rw [hrd] at hno hpop
  generalize (atE d L).1.1 = rd at hat hno hpop
  generalize (atE d L).1.2.1 = rd2 at hat
  generalize (atE d L).1.2.2 = rd3 at hat
  have hbz := FK rd m
  have hms2 : 2 * (G.length + 1 - S.length) + (W0.length + 1) ≤ 2 * G.length + 1 := by omega
  generalize hxs : (W0 ++ [d]).flatMap aC = xs at hread hshr ⊢
  rw [hWl]
  cases hbit : rd.getLsbD m with
  | false =>
    rw [hbit] at hbz
    have hns := hno hbit
    repeat' (first
      | ((with_reducible apply ak); exact rfl; (with_reducible apply di (a := W0.length + 1)); exact rfl; exact rfl; omega; (simp only [maxLen]; omega))
      | ((with_reducible apply ak); exact rfl; (with_reducible apply aj (j := W0.length)); exact rfl; exact rfl; omega)
      | ((with_reducible apply ak); exact rfl; (with_reducible apply aA (ys := aC d)); exact rfl; (repeat first | exact .hd | apply Sel.tl | apply In.tl); exact hread; exact rfl)
      | ((with_reducible apply ak); exact rfl; (with_reducible apply rZ (hi := W0.length)); exact rfl; exact rfl; omega)
      | ((with_reducible apply aa (f := 31)); exact rfl; exact rfl; (intro w' hm; exact hat w' _ (by (repeat (first | exact MSub.nil _ | refine MSub.pick (by (repeat first | exact .hd | apply Sel.tl | apply In.tl)) ?_ | exact MSub.refl _ | refine MSub.drop .hd ?_))) hm))
      | ((with_reducible apply ak); exact rfl; (with_reducible apply bB (c := (m : Int))); exact rfl; (simp only [IntKind.wrap_u64]; omega))
      | ((with_reducible apply ak); exact rfl; (with_reducible apply m7 (a := rd) (m := m)); exact rfl; exact rfl; omega)
      | ((with_reducible apply ak); exact rfl; (with_reducible apply tR); exact rfl; exact rfl)
      | ((with_reducible apply ak); exact rfl; (with_reducible apply fW hbz); exact rfl; exact rfl)
      | ((with_reducible apply ak); exact rfl; (first | ((with_reducible apply QY); exact rfl) | ((with_reducible apply Dz); exact rfl) | ((with_reducible apply SI); exact rfl) | ((with_reducible apply Mx); exact rfl) | ((with_reducible apply w7); exact rfl; (repeat first | exact .hd | apply Sel.tl | apply In.tl); exact rfl) | ((with_reducible apply Rx); exact rfl; exact rfl) | ((with_reducible apply Mw); exact rfl; exact rfl) | ((with_reducible apply Dx); exact rfl; (repeat first | exact .hd | apply Sel.tl | apply In.tl); exact rfl) | ((with_reducible apply oH); exact rfl; (repeat first | exact .hd | apply Sel.tl | apply In.tl); exact rfl; exact rfl) | ((with_reducible apply v_shr); exact rfl; exact rfl; exact rfl)))
      | ((with_reducible apply OW); exact rfl; exact rfl)
      | ((with_reducible apply Me); exact rfl; exact rfl; exact rfl; exact rfl)
      | ((with_reducible apply Mc); exact rfl; exact rfl; exact rfl)
      | ((with_reducible apply OX); exact rfl; exact rfl; intro _)
      | ((with_reducible apply OY); exact rfl; exact rfl; exact rfl; intro _)
      | ((with_reducible apply Mi); exact rfl; intro _)
      | ((with_reducible apply y6); exact rfl; exact rfl; (repeat first | exact .hd | apply Sel.tl | apply In.tl); exact rfl; exact rfl; exact rfl)
      | ((with_reducible apply Dg); exact rfl; exact rfl; (repeat first | exact .hd | apply Sel.tl | apply In.tl); exact rfl; exact rfl; exact rfl; exact rfl)
      | ((with_reducible apply y7); exact rfl; exact rfl; exact rfl; exact rfl; exact rfl; exact rfl; exact rfl; intro _)
      | ((with_reducible apply J1) <;> first | exact rfl | (intro hb; (replace hb := Tidy.out hb; try (exfalso; omega))))
      | (with_reducible first | apply F9 | apply SQ | apply Sw | apply Mr | apply Sx | apply QT | apply QW | apply O3 | apply SN | apply SS | apply Tl | apply Ti | apply Tm | apply O0 | apply O2 | apply scp_n | apply SU | apply scp_e)
      | ((with_reducible apply Du); exact rfl)
      | ((with_reducible apply BC); exact rfl)
      | ((with_reducible apply QX) <;> first | exact rfl | (intro hb; (replace hb := Tidy.out hb; try (exfalso; omega))))
      | ((with_reducible apply Th); exact rfl)
      | ((with_reducible apply ak); exact rfl; (with_reducible apply lp); exact rfl; exact rfl; (simp only [maxLen] at *; omega))
      | ((with_reducible apply ak); exact rfl; (with_reducible apply Je); exact rfl; exact rfl; (simp only [maxLen] at *; omega))
      | ((with_reducible apply ak); exact rfl; (with_reducible apply dP); exact rfl; exact rfl; (simp only [maxLen] at *; omega))
      | ((with_reducible apply ak); exact rfl; (with_reducible apply di); exact rfl; exact rfl; omega; (simp only [maxLen] at *; omega))
      | ((with_reducible apply ak); exact rfl; (with_reducible apply lT); exact rfl; exact rfl; omega; (simp only [maxLen] at *; omega)))
    all_goals first
      | (exfalso; omega)
      | (exact cA (by first | exact .inl rfl | exact .inr rfl) rfl rfl (H' := F) (by (repeat (first | exact MSub.nil _ | refine MSub.pick (by (repeat first | exact .hd | apply Sel.tl | apply In.tl)) ?_ | exact MSub.refl _ | refine MSub.drop .hd ?_))) ⟨false, rfl, ⟨fun h => (by cases h), fun h => absurd h hns⟩, rfl⟩)
      | trace_state
  | true =>
  rw [hbit] at hbz
  have hUsd := hUs d
  have hUl := kM hG d
  have hadd := fun {S' W' : List Rf} {f : Rf} {x : Us} (h : DfI G (aI L N) m c S' (d :: W')) (hx : x ∈ aK G d) => h.add (f := f) (x := x) hx
  have hnov := fun {S' W' : List Rf} {x : Us} (h : DfI G (aI L N) m c S' (d :: W')) (hx : x ∈ aK G d) => h.no_ov hx
  have hpop2 := fun {S' W' : List Rf} (h : DfI G (aI L N) m c S' (d :: W')) => hpop h hbit
  have hUf := fun (u : Us) (hu : u ∈ aK G d) (hp : 0 ≤ u.node) => JL hG hL0 hN0 hu hp
  have hUr := fun (u : Us) (hu : u ∈ aK G d) => ovE_ok hL0 ((rectE_zero _).1 (jg hG hu))
  clear hpop hno hI
  rw [hK] at hadd hpop2
  generalize aK G d = U at hUsd hUl hadd hnov hpop2 hUf hUr
  repeat' (first
    | ((with_reducible apply ak); exact rfl; (with_reducible apply di (a := W0.length + 1)); exact rfl; exact rfl; omega; (simp only [maxLen]; omega))
    | ((with_reducible apply ak); exact rfl; (with_reducible apply aj (j := W0.length)); exact rfl; exact rfl; omega)
    | ((with_reducible apply ak); exact rfl; (with_reducible apply aA (ys := aC d)); exact rfl; (repeat first | exact .hd | apply Sel.tl | apply In.tl); exact hread; exact rfl)
    | ((with_reducible apply ak); exact rfl; (with_reducible apply rZ (hi := W0.length)); exact rfl; exact rfl; omega)
    | ((with_reducible apply aa (f := 31)); exact rfl; exact rfl; (intro w' hm; exact hat w' _ (by (repeat (first | exact MSub.nil _ | refine MSub.pick (by (repeat first | exact .hd | apply Sel.tl | apply In.tl)) ?_ | exact MSub.refl _ | refine MSub.drop .hd ?_))) hm))
    | ((with_reducible apply ak); exact rfl; (with_reducible apply bB (c := (m : Int))); exact rfl; (simp only [IntKind.wrap_u64]; omega))
    | ((with_reducible apply ak); exact rfl; (with_reducible apply m7 (a := rd) (m := m)); exact rfl; exact rfl; omega)
    | ((with_reducible apply ak); exact rfl; (with_reducible apply tR); exact rfl; exact rfl)
    | ((with_reducible apply ak); exact rfl; (with_reducible apply fW hbz); exact rfl; exact rfl)
    | ((with_reducible apply au (f := 42)); exact rfl; exact rfl; exact hUsd _ (MSub.trans hB (by (repeat (first | exact MSub.nil _ | refine MSub.pick (by (repeat first | exact .hd | apply Sel.tl | apply In.tl)) ?_ | exact MSub.refl _ | refine MSub.drop .hd ?_)))); rintro _ _ ⟨Au, cu, rfl, rfl⟩)
    | ((with_reducible apply ak); exact rfl; (first | ((with_reducible apply QY); exact rfl) | ((with_reducible apply Dz); exact rfl) | ((with_reducible apply SI); exact rfl) | ((with_reducible apply Mx); exact rfl) | ((with_reducible apply w7); exact rfl; (repeat first | exact .hd | apply Sel.tl | apply In.tl); exact rfl) | ((with_reducible apply Rx); exact rfl; exact rfl) | ((with_reducible apply Mw); exact rfl; exact rfl) | ((with_reducible apply Dx); exact rfl; (repeat first | exact .hd | apply Sel.tl | apply In.tl); exact rfl) | ((with_reducible apply oH); exact rfl; (repeat first | exact .hd | apply Sel.tl | apply In.tl); exact rfl; exact rfl) | ((with_reducible apply v_shr); exact rfl; exact rfl; exact rfl)))
    | ((with_reducible apply OW); exact rfl; exact rfl)
    | ((with_reducible apply Me); exact rfl; exact rfl; exact rfl; exact rfl)
    | ((with_reducible apply Mc); exact rfl; exact rfl; exact rfl)
    | ((with_reducible apply OX); exact rfl; exact rfl; intro _)
    | ((with_reducible apply OY); exact rfl; exact rfl; exact rfl; intro _)
    | ((with_reducible apply Mi); exact rfl; intro _)
    | ((with_reducible apply y6); exact rfl; exact rfl; (repeat first | exact .hd | apply Sel.tl | apply In.tl); exact rfl; exact rfl; exact rfl)
    | ((with_reducible apply Dg); exact rfl; exact rfl; (repeat first | exact .hd | apply Sel.tl | apply In.tl); exact rfl; exact rfl; exact rfl; exact rfl)
    | ((with_reducible apply y7); exact rfl; exact rfl; exact rfl; exact rfl; exact rfl; exact rfl; exact rfl; intro _)
    | ((with_reducible apply J1) <;> first | exact rfl | (intro hb; (replace hb := Tidy.out hb; try (exfalso; omega))))
    | (with_reducible first | apply F9 | apply SQ | apply Sw | apply Mr | apply Sx | apply QT | apply QW | apply O3 | apply SN | apply SS | apply Tl | apply Ti | apply Tm | apply O0 | apply O2 | apply scp_n | apply SU | apply scp_e)
    | ((with_reducible apply Du); exact rfl)
    | ((with_reducible apply BC); exact rfl)
    | ((with_reducible apply QX) <;> first | exact rfl | (intro hb; (replace hb := Tidy.out hb; try (exfalso; omega))))
    | ((with_reducible apply Th); exact rfl)
    | ((with_reducible apply ak); exact rfl; (with_reducible apply lp); exact rfl; exact rfl; (simp only [maxLen] at *; omega))
    | ((with_reducible apply ak); exact rfl; (with_reducible apply Je); exact rfl; exact rfl; (simp only [maxLen] at *; omega))
    | ((with_reducible apply ak); exact rfl; (with_reducible apply dP); exact rfl; exact rfl; (simp only [maxLen] at *; omega))
    | ((with_reducible apply ak); exact rfl; (with_reducible apply di); exact rfl; exact rfl; omega; (simp only [maxLen] at *; omega))
    | ((with_reducible apply ak); exact rfl; (with_reducible apply lT); exact rfl; exact rfl; omega; (simp only [maxLen] at *; omega)))
  all_goals first | (exfalso; omega) | skip
  refine Dt (A := some gw2) (t := 51) (sz := 2) (m := W0.length + 1) (cap := cw) (xs := xs) (.tl (.tl (.tl .hd))) W0.length (VS _) ?_
  rw [hshr]
  refine ay [0, 2, 3, 4, 11, 12, 17] rfl (fun y : Nat × Option Nat × Nat × List Rf × List Rf => [(13, sl y.2.1 y.2.2.2.2.length y.2.2.1), (18, .int .i64 (y.1 : Int))]) (fun y => .own Au 100 6 U.length cu (U.flatMap cV) :: .own y.2.1 51 2 y.2.2.2.2.length y.2.2.1 (y.2.2.2.2.flatMap aC) :: .obj gs (aU aY (setM y.2.2.2.1) y.2.2.2.1.length) :: .own Ac 51 2 K.length cap (K.flatMap aC) :: F) (fun y => y.1 ≤ U.length ∧ DfI G (aI L N) m c y.2.2.2.1 (d :: y.2.2.2.2) ∧ (∀ j (h : j < U.length), j < y.1 → ((aI L N).to U[j]).getLsbD m = true ∨ (((aI L N).ov U[j].rect).getLsbD m = true ∧ ∀ f ∈ K, cj U[j].rect f = true → f ∈ y.2.2.2.1)) ∧ 2 * (G.length + 1 - y.2.2.2.1.length) + y.2.2.2.2.length ≤ 2 * (G.length + 1 - S.length) + W0.length) (fun y => U.length - y.1) (0, some gw2, cw, S, W0) ⟨TW _, hI2, fun j _ h => absurd h (Wr _), TQ _⟩ (by (repeat (first | exact Sub.nil _ | refine Sub.cons rfl ?_))) (by (repeat (first | exact MSub.nil _ | refine MSub.pick (by (repeat first | exact .hd | apply Sel.tl | apply In.tl)) ?_ | exact MSub.refl _ | refine MSub.drop .hd ?_))) ?_
  rintro ⟨k, Aw3, cw3, S3, W3⟩ ⟨hk, hI3, hdone, hms3⟩
  dsimp only at hk hI3 hdone hms3 ⊢
  have hSl3 := hI3.len hG
  by_cases hltu : k < U.length
  · refine bK (A := Au) (by (repeat first | exact .hd | apply Sel.tl | apply In.tl)) (by omega) fun gu hA => ?_
    subst hA
    have hreadu := Aq hltu
    have hum := UA hltu
    have hstep : ∀ S' : List Rf, (∀ e ∈ S3, e ∈ S') → (((aI L N).to U[k]).getLsbD m = true ∨ (((aI L N).ov U[k].rect).getLsbD m = true ∧ ∀ f ∈ K, cj U[k].rect f = true → f ∈ S')) → ∀ j (h : j < U.length), j < k + 1 → ((aI L N).to U[j]).getLsbD m = true ∨ (((aI L N).ov U[j].rect).getLsbD m = true ∧ ∀ f ∈ K, cj U[j].rect f = true → f ∈ S') := fun S' hsub hnew j hj hjk => by
      by_cases e : j = k
      · subst e; exact hnew
      · rcases hdone j hj (by omega) with h | ⟨h1, h2⟩
        · exact .inl h
        · exact .inr ⟨h1, fun f hf hh => hsub f (h2 f hf hh)⟩
    generalize hu : U[k] = u at hreadu hum hstep
    clear hu
    have hov := hUr u hum
    have hovE := fun (w' : World) (H : List Blk) (h' : MSub F H) (hm : Mem w0 w' H) => wL u.rect L _ w' (hl w' (h'.use hm))
    rw [hov] at hovE
    have hovr : (aI L N).ov u.rect = lW (fun x => x.read) u.rect L := by
      show (ovE u.rect L).1.1 = _
      rw [hov]
    rw [hovr] at hstep
    have hnov3 := fun h1 (h2 : ((aI L N).ov u.rect).getLsbD m = false) => hnov hI3 hum h1 h2
    rw [hovr] at hnov3
    generalize lW (fun x => x.read) u.rect L = ov1 at hovE hstep hnov3
    generalize lW (fun x => x.write) u.rect L = ov2 at hovE
    generalize lW (fun x => x.own) u.rect L = ov3 at hovE
    clear hovr hov
    have hbo := FK ov1 m
    obtain ⟨tb, htb⟩ : ∃ tb, ((aI L N).to u).getLsbD m = tb := ⟨_, rfl⟩
    by_cases hp : 0 ≤ u.node ∧ tb = true
    · obtain ⟨hp, rfl⟩ := hp
      obtain ⟨hf1, hf2⟩ := hUf u hum hp
      have hfo := fun (w' : World) (H : List Blk) (h' : MSub F H) (hm : Mem w0 w' H) => C9 u.fn u.rect L N _ _ w' (hl w' (h'.use hm)) (hn w' (h'.use hm)) hN
      rw [hf1, hf2] at hfo
      have hb1 := CQ ((aI L N).to u) m
      rw [htb] at hb1
      have hst := hstep S3 (fun _ h => h) (.inl htb)
      generalize (aI L N).to u = tu at hfo hb1
      generalize (dO u.fn u.rect L N).2.1 = by_ at hfo
      repeat' (first
        | ((with_reducible apply ak); exact rfl; (with_reducible apply aj (j := k)); exact rfl; exact rfl; exact hltu)
        | ((with_reducible apply ak); exact rfl; (with_reducible apply aA); exact rfl; (repeat first | exact .hd | apply Sel.tl | apply In.tl); exact hreadu; exact rfl)
        | ((with_reducible apply aF (f := 44)); exact rfl; exact rfl; (intro w' hm; exact hfo w' _ (by (repeat (first | exact MSub.nil _ | refine MSub.pick (by (repeat first | exact .hd | apply Sel.tl | apply In.tl)) ?_ | exact MSub.refl _ | refine MSub.drop .hd ?_))) hm); rintro _ _ ⟨Ab, cb, rfl, rfl⟩)
        | ((with_reducible apply ak); exact rfl; (with_reducible apply bB (c := (m : Int))); exact rfl; (simp only [IntKind.wrap_u64]; omega))
        | ((with_reducible apply ak); exact rfl; (with_reducible apply m7 (a := tu) (m := m)); exact rfl; exact rfl; omega)
        | ((with_reducible apply ak); exact rfl; (with_reducible apply tR); exact rfl; exact rfl)
        | ((with_reducible apply ak); exact rfl; (with_reducible apply fW hb1); exact rfl; exact rfl)
        | ((with_reducible apply ak); exact rfl; (first | ((with_reducible apply QY); exact rfl) | ((with_reducible apply Dz); exact rfl) | ((with_reducible apply SI); exact rfl) | ((with_reducible apply Mx); exact rfl) | ((with_reducible apply w7); exact rfl; (repeat first | exact .hd | apply Sel.tl | apply In.tl); exact rfl) | ((with_reducible apply Rx); exact rfl; exact rfl) | ((with_reducible apply Mw); exact rfl; exact rfl) | ((with_reducible apply Dx); exact rfl; (repeat first | exact .hd | apply Sel.tl | apply In.tl); exact rfl) | ((with_reducible apply oH); exact rfl; (repeat first | exact .hd | apply Sel.tl | apply In.tl); exact rfl; exact rfl) | ((with_reducible apply v_shr); exact rfl; exact rfl; exact rfl)))
        | ((with_reducible apply OW); exact rfl; exact rfl)
        | ((with_reducible apply Me); exact rfl; exact rfl; exact rfl; exact rfl)
        | ((with_reducible apply Mc); exact rfl; exact rfl; exact rfl)
        | ((with_reducible apply OX); exact rfl; exact rfl; intro _)
        | ((with_reducible apply OY); exact rfl; exact rfl; exact rfl; intro _)
        | ((with_reducible apply Mi); exact rfl; intro _)
        | ((with_reducible apply y6); exact rfl; exact rfl; (repeat first | exact .hd | apply Sel.tl | apply In.tl); exact rfl; exact rfl; exact rfl)
        | ((with_reducible apply Dg); exact rfl; exact rfl; (repeat first | exact .hd | apply Sel.tl | apply In.tl); exact rfl; exact rfl; exact rfl; exact rfl)
        | ((with_reducible apply y7); exact rfl; exact rfl; exact rfl; exact rfl; exact rfl; exact rfl; exact rfl; intro _)
        | ((with_reducible apply J1) <;> first | exact rfl | (intro hb; (replace hb := Tidy.out hb; try (exfalso; omega))))
        | (with_reducible first | apply F9 | apply SQ | apply Sw | apply Mr | apply Sx | apply QT | apply QW | apply O3 | apply SN | apply SS | apply Tl | apply Ti | apply Tm | apply O0 | apply O2 | apply scp_n | apply SU | apply scp_e)
        | ((with_reducible apply Du); exact rfl)
        | ((with_reducible apply BC); exact rfl)
        | ((with_reducible apply QX) <;> first | exact rfl | (intro hb; (replace hb := Tidy.out hb; try (exfalso; omega))))
        | ((with_reducible apply Th); exact rfl)
        | ((with_reducible apply ak); exact rfl; (with_reducible apply lp); exact rfl; exact rfl; (simp only [maxLen] at *; omega))
        | ((with_reducible apply ak); exact rfl; (with_reducible apply Je); exact rfl; exact rfl; (simp only [maxLen] at *; omega))
        | ((with_reducible apply ak); exact rfl; (with_reducible apply dP); exact rfl; exact rfl; (simp only [maxLen] at *; omega))
        | ((with_reducible apply ak); exact rfl; (with_reducible apply di); exact rfl; exact rfl; omega; (simp only [maxLen] at *; omega))
        | ((with_reducible apply ak); exact rfl; (with_reducible apply lT); exact rfl; exact rfl; omega; (simp only [maxLen] at *; omega)))
      all_goals first
        | (exfalso; omega)
        | (refine ⟨(k + 1, Aw3, cw3, S3, W3), ⟨hltu, hI3, hst, hms3⟩, by dsimp only; omega, by (repeat (first | exact Sub.nil _ | refine Sub.cons rfl ?_)), by (repeat (first | exact Sub.nil _ | refine Sub.cons rfl ?_)), by (repeat (first | exact MSub.nil _ | refine MSub.pick (by (repeat first | exact .hd | apply Sel.tl | apply In.tl)) ?_ | exact MSub.refl _ | refine MSub.drop .hd ?_))⟩; done)
        | trace_state
    have hto : ((aI L N).to u).getLsbD m = false := by
      by_cases h0 : 0 ≤ u.node
      · rw [htb]; simpa using fun h => hp ⟨h0, h⟩
      · rw [MF (by omega)]; simp
    have hnov4 := hnov3 hto
    have hadd3 := fun {S' W' : List Rf} {f : Rf} (h : DfI G (aI L N) m c S' (d :: W')) => hadd (f := f) h hum hto
    have hb1 := CQ ((aI L N).to u) m
    rw [hto] at hb1
    have hfor : ∀ (w' : World) (H : List Blk), MSub F H → Mem w0 w' H → 0 ≤ u.node → FnAt Tryz.prog 44 [.int .u8 u.fn, .agg (aN u.rect).toArray, .slice Al L.length cl, .slice An N.length cn] w' fun v H => ∃ (A : Option Nat) (cap : Nat) (by_ : List Nat), v = .tuple #[vS ((aI L N).to u), sl A by_.length cap, .int .i64 0] ∧ H = [.own A 3 1 by_.length cap (fq by_)] := fun w' H h' hm hp => by
      obtain ⟨hf1, hf2⟩ := hUf u hum hp
      have hfo := C9 u.fn u.rect L N _ _ w' (hl w' (h'.use hm)) (hn w' (h'.use hm)) hN
      rw [hf1, hf2] at hfo
      exact hfo.mono fun v H ⟨A, cap, h1, h2⟩ => ⟨A, cap, _, h1, h2⟩
    have hstep2 := fun (S' : List Rf) hsub h => hstep S' hsub (.inr h)
    clear hstep hnov3 hnov hUf hUr hpop2 hadd
    generalize (aI L N).to u = tu at hb1 hfor
    clear htb hp hto hUsd
    cases hob : ov1.getLsbD m with
    | false =>
      rw [hob] at hbo
      have hns := hnov4 hob
      repeat' (first
        | ((with_reducible apply ak); exact rfl; (with_reducible apply aj (j := k)); exact rfl; exact rfl; exact hltu)
        | ((with_reducible apply ak); exact rfl; (with_reducible apply aA); exact rfl; (repeat first | exact .hd | apply Sel.tl | apply In.tl); exact hreadu; exact rfl)
        | ((with_reducible apply aF (f := 44)); exact rfl; exact rfl; (intro w' hm; exact hfor w' _ (by (repeat (first | exact MSub.nil _ | refine MSub.pick (by (repeat first | exact .hd | apply Sel.tl | apply In.tl)) ?_ | exact MSub.refl _ | refine MSub.drop .hd ?_))) hm (by omega)); rintro _ _ ⟨Ab, cb, by_, rfl, rfl⟩)
        | ((with_reducible apply aa (f := 30)); exact rfl; exact rfl; (intro w' hm; exact hovE w' _ (by (repeat (first | exact MSub.nil _ | refine MSub.pick (by (repeat first | exact .hd | apply Sel.tl | apply In.tl)) ?_ | exact MSub.refl _ | refine MSub.drop .hd ?_))) hm))
        | ((with_reducible apply ak); exact rfl; (with_reducible apply bB (c := (m : Int))); exact rfl; (simp only [IntKind.wrap_u64]; omega))
        | ((with_reducible apply ak); exact rfl; (with_reducible apply m7 (m := m)); exact rfl; exact rfl; omega)
        | ((with_reducible apply ak); exact rfl; (with_reducible apply tR); exact rfl; exact rfl)
        | ((with_reducible apply ak (d := 100)); exact rfl; (with_reducible apply fW hb1); exact rfl; exact rfl)
        | ((with_reducible apply ak (d := 118)); exact rfl; (with_reducible apply fW hbo); exact rfl; exact rfl)
        | ((with_reducible apply ak); exact rfl; (first | ((with_reducible apply QY); exact rfl) | ((with_reducible apply Dz); exact rfl) | ((with_reducible apply SI); exact rfl) | ((with_reducible apply Mx); exact rfl) | ((with_reducible apply w7); exact rfl; (repeat first | exact .hd | apply Sel.tl | apply In.tl); exact rfl) | ((with_reducible apply Rx); exact rfl; exact rfl) | ((with_reducible apply Mw); exact rfl; exact rfl) | ((with_reducible apply Dx); exact rfl; (repeat first | exact .hd | apply Sel.tl | apply In.tl); exact rfl) | ((with_reducible apply oH); exact rfl; (repeat first | exact .hd | apply Sel.tl | apply In.tl); exact rfl; exact rfl) | ((with_reducible apply v_shr); exact rfl; exact rfl; exact rfl)))
        | ((with_reducible apply OW); exact rfl; exact rfl)
        | ((with_reducible apply Me); exact rfl; exact rfl; exact rfl; exact rfl)
        | ((with_reducible apply Mc); exact rfl; exact rfl; exact rfl)
        | ((with_reducible apply OX); exact rfl; exact rfl; intro _)
        | ((with_reducible apply OY); exact rfl; exact rfl; exact rfl; intro _)
        | ((with_reducible apply Mi); exact rfl; intro _)
        | ((with_reducible apply y6); exact rfl; exact rfl; (repeat first | exact .hd | apply Sel.tl | apply In.tl); exact rfl; exact rfl; exact rfl)
        | ((with_reducible apply Dg); exact rfl; exact rfl; (repeat first | exact .hd | apply Sel.tl | apply In.tl); exact rfl; exact rfl; exact rfl; exact rfl)
        | ((with_reducible apply y7); exact rfl; exact rfl; exact rfl; exact rfl; exact rfl; exact rfl; exact rfl; intro _)
        | ((with_reducible apply J1) <;> first | exact rfl | (intro hb; (replace hb := Tidy.out hb; try (exfalso; omega))))
        | (with_reducible first | apply F9 | apply SQ | apply Sw | apply Mr | apply Sx | apply QT | apply QW | apply O3 | apply SN | apply SS | apply Tl | apply Ti | apply Tm | apply O0 | apply O2 | apply scp_n | apply SU | apply scp_e)
        | ((with_reducible apply Du); exact rfl)
        | ((with_reducible apply BC); exact rfl)
        | ((with_reducible apply QX) <;> first | exact rfl | (intro hb; (replace hb := Tidy.out hb; try (exfalso; omega))))
        | ((with_reducible apply Th); exact rfl)
        | ((with_reducible apply ak); exact rfl; (with_reducible apply lp); exact rfl; exact rfl; (simp only [maxLen] at *; omega))
        | ((with_reducible apply ak); exact rfl; (with_reducible apply Je); exact rfl; exact rfl; (simp only [maxLen] at *; omega))
        | ((with_reducible apply ak); exact rfl; (with_reducible apply dP); exact rfl; exact rfl; (simp only [maxLen] at *; omega))
        | ((with_reducible apply ak); exact rfl; (with_reducible apply di); exact rfl; exact rfl; omega; (simp only [maxLen] at *; omega))
        | ((with_reducible apply ak); exact rfl; (with_reducible apply lT); exact rfl; exact rfl; omega; (simp only [maxLen] at *; omega)))
      all_goals first
        | (exfalso; omega)
        | (exact cA (by first | exact .inl rfl | exact .inr rfl) rfl rfl (H' := F) (by (repeat (first | exact MSub.nil _ | refine MSub.pick (by (repeat first | exact .hd | apply Sel.tl | apply In.tl)) ?_ | exact MSub.refl _ | refine MSub.drop .hd ?_))) ⟨false, rfl, ⟨fun h => (by cases h), fun h => absurd h hns⟩, rfl⟩)
        | trace_state
    | true =>
      rw [hob] at hbo
      repeat' (first
        | ((with_reducible apply ak); exact rfl; (with_reducible apply aj (j := k)); exact rfl; exact rfl; exact hltu)
        | ((with_reducible apply ak); exact rfl; (with_reducible apply aA); exact rfl; (repeat first | exact .hd | apply Sel.tl | apply In.tl); exact hreadu; exact rfl)
        | ((with_reducible apply aF (f := 44)); exact rfl; exact rfl; (intro w' hm; exact hfor w' _ (by (repeat (first | exact MSub.nil _ | refine MSub.pick (by (repeat first | exact .hd | apply Sel.tl | apply In.tl)) ?_ | exact MSub.refl _ | refine MSub.drop .hd ?_))) hm (by omega)); rintro _ _ ⟨Ab, cb, by_, rfl, rfl⟩)
        | ((with_reducible apply aa (f := 30)); exact rfl; exact rfl; (intro w' hm; exact hovE w' _ (by (repeat (first | exact MSub.nil _ | refine MSub.pick (by (repeat first | exact .hd | apply Sel.tl | apply In.tl)) ?_ | exact MSub.refl _ | refine MSub.drop .hd ?_))) hm))
        | ((with_reducible apply ak); exact rfl; (with_reducible apply bB (c := (m : Int))); exact rfl; (simp only [IntKind.wrap_u64]; omega))
        | ((with_reducible apply ak); exact rfl; (with_reducible apply m7 (m := m)); exact rfl; exact rfl; omega)
        | ((with_reducible apply ak); exact rfl; (with_reducible apply tR); exact rfl; exact rfl)
        | ((with_reducible apply ak (d := 100)); exact rfl; (with_reducible apply fW hb1); exact rfl; exact rfl)
        | ((with_reducible apply ak (d := 118)); exact rfl; (with_reducible apply fW hbo); exact rfl; exact rfl)
        | ((with_reducible apply ak); exact rfl; (first | ((with_reducible apply QY); exact rfl) | ((with_reducible apply Dz); exact rfl) | ((with_reducible apply SI); exact rfl) | ((with_reducible apply Mx); exact rfl) | ((with_reducible apply w7); exact rfl; (repeat first | exact .hd | apply Sel.tl | apply In.tl); exact rfl) | ((with_reducible apply Rx); exact rfl; exact rfl) | ((with_reducible apply Mw); exact rfl; exact rfl) | ((with_reducible apply Dx); exact rfl; (repeat first | exact .hd | apply Sel.tl | apply In.tl); exact rfl) | ((with_reducible apply oH); exact rfl; (repeat first | exact .hd | apply Sel.tl | apply In.tl); exact rfl; exact rfl) | ((with_reducible apply v_shr); exact rfl; exact rfl; exact rfl)))
        | ((with_reducible apply OW); exact rfl; exact rfl)
        | ((with_reducible apply Me); exact rfl; exact rfl; exact rfl; exact rfl)
        | ((with_reducible apply Mc); exact rfl; exact rfl; exact rfl)
        | ((with_reducible apply OX); exact rfl; exact rfl; intro _)
        | ((with_reducible apply OY); exact rfl; exact rfl; exact rfl; intro _)
        | ((with_reducible apply Mi); exact rfl; intro _)
        | ((with_reducible apply y6); exact rfl; exact rfl; (repeat first | exact .hd | apply Sel.tl | apply In.tl); exact rfl; exact rfl; exact rfl)
        | ((with_reducible apply Dg); exact rfl; exact rfl; (repeat first | exact .hd | apply Sel.tl | apply In.tl); exact rfl; exact rfl; exact rfl; exact rfl)
        | ((with_reducible apply y7); exact rfl; exact rfl; exact rfl; exact rfl; exact rfl; exact rfl; exact rfl; intro _)
        | ((with_reducible apply J1) <;> first | exact rfl | (intro hb; (replace hb := Tidy.out hb; try (exfalso; omega))))
        | (with_reducible first | apply F9 | apply SQ | apply Sw | apply Mr | apply Sx | apply QT | apply QW | apply O3 | apply SN | apply SS | apply Tl | apply Ti | apply Tm | apply O0 | apply O2 | apply scp_n | apply SU | apply scp_e)
        | ((with_reducible apply Du); exact rfl)
        | ((with_reducible apply BC); exact rfl)
        | ((with_reducible apply QX) <;> first | exact rfl | (intro hb; (replace hb := Tidy.out hb; try (exfalso; omega))))
        | ((with_reducible apply Th); exact rfl)
        | ((with_reducible apply ak); exact rfl; (with_reducible apply lp); exact rfl; exact rfl; (simp only [maxLen] at *; omega))
        | ((with_reducible apply ak); exact rfl; (with_reducible apply Je); exact rfl; exact rfl; (simp only [maxLen] at *; omega))
        | ((with_reducible apply ak); exact rfl; (with_reducible apply dP); exact rfl; exact rfl; (simp only [maxLen] at *; omega))
        | ((with_reducible apply ak); exact rfl; (with_reducible apply di); exact rfl; exact rfl; omega; (simp only [maxLen] at *; omega))
        | ((with_reducible apply ak); exact rfl; (with_reducible apply lT); exact rfl; exact rfl; omega; (simp only [maxLen] at *; omega)))
      all_goals first | (exfalso; omega) | skip
      all_goals
        rename_i g19 _
        refine ay [0, 2, 3, 4, 11, 12, 17, 18, 19] rfl (fun y : Nat × Option Nat × Nat × List Rf × List Rf => [(13, sl y.2.1 y.2.2.2.2.length y.2.2.1), (25, .int .i64 (y.1 : Int))]) (fun y => .box g19 100 (cV u) :: .own (some gu) 100 6 U.length cu (U.flatMap cV) :: .own y.2.1 51 2 y.2.2.2.2.length y.2.2.1 (y.2.2.2.2.flatMap aC) :: .obj gs (aU aY (setM y.2.2.2.1) y.2.2.2.1.length) :: .own Ac 51 2 K.length cap (K.flatMap aC) :: F) (fun y => y.1 ≤ K.length ∧ DfI G (aI L N) m c y.2.2.2.1 (d :: y.2.2.2.2) ∧ (∀ j (h : j < K.length), j < y.1 → cj u.rect K[j] = true → K[j] ∈ y.2.2.2.1) ∧ (∀ e ∈ S3, e ∈ y.2.2.2.1) ∧ 2 * (G.length + 1 - y.2.2.2.1.length) + y.2.2.2.2.length ≤ 2 * (G.length + 1 - S.length) + W0.length) (fun y => K.length - y.1) (0, Aw3, cw3, S3, W3) ⟨TW _, hI3, fun j _ h => absurd h (Wr _), fun _ h => h, hms3⟩ (by (repeat (first | exact Sub.nil _ | refine Sub.cons rfl ?_))) (by (repeat (first | exact MSub.nil _ | refine MSub.pick (by (repeat first | exact .hd | apply Sel.tl | apply In.tl)) ?_ | exact MSub.refl _ | refine MSub.drop .hd ?_))) ?_
        rintro ⟨i, Aw4, cw4, S4, W4⟩ ⟨hi, hI4, hin, hsub, hms4⟩
        dsimp only at hi hI4 hin hsub hms4 ⊢
        have hSl4 := hI4.len hG
        by_cases hlti : i < K.length
        · refine bK (A := Ac) (by (repeat first | exact .hd | apply Sel.tl | apply In.tl)) (by omega) fun gk hA => ?_
          subst hA
          have hreadk := xJ hlti
          have hkm := UA hlti
          have hin2 : ∀ S' : List Rf, (∀ e ∈ S4, e ∈ S') → (cj u.rect K[i] = true → K[i] ∈ S') → ∀ j (h : j < K.length), j < i + 1 → cj u.rect K[j] = true → K[j] ∈ S' := fun S' hs hnew j hj hji hh => by
            by_cases e : j = i
            · subst e; exact hnew hh
            · exact hs _ (hin j hj (by omega) hh)
          generalize hf : K[i] = f at hreadk hkm hin2
          clear hf
          have hlk := look_set S4 f
          by_cases hh : cj u.rect f = true
          · have hhi := hasR_iff.1 hh
            by_cases hfS : f ∈ S4
            · rw [decide_eq_true hfS] at hlk
              have hin3 := hin2 S4 (fun _ h => h) (fun _ => hfS)
              repeat' (first
                | ((with_reducible apply ak); exact rfl; (with_reducible apply aj (j := i)); exact rfl; exact rfl; exact hlti)
                | ((with_reducible apply ak); exact rfl; (with_reducible apply aA); exact rfl; (repeat first | exact .hd | apply Sel.tl | apply In.tl); exact hreadk; exact rfl)
                | ((with_reducible apply ak); exact rfl; (with_reducible apply ep (enc := aY) (k := f)); exact rfl; exact rfl; (repeat first | exact .hd | apply Sel.tl | apply In.tl); exact hlk)
                | ((with_reducible apply ak); exact rfl; (first | ((with_reducible apply QY); exact rfl) | ((with_reducible apply Dz); exact rfl) | ((with_reducible apply SI); exact rfl) | ((with_reducible apply Mx); exact rfl) | ((with_reducible apply w7); exact rfl; (repeat first | exact .hd | apply Sel.tl | apply In.tl); exact rfl) | ((with_reducible apply Rx); exact rfl; exact rfl) | ((with_reducible apply Mw); exact rfl; exact rfl) | ((with_reducible apply Dx); exact rfl; (repeat first | exact .hd | apply Sel.tl | apply In.tl); exact rfl) | ((with_reducible apply oH); exact rfl; (repeat first | exact .hd | apply Sel.tl | apply In.tl); exact rfl; exact rfl) | ((with_reducible apply v_shr); exact rfl; exact rfl; exact rfl)))
                | ((with_reducible apply OW); exact rfl; exact rfl)
                | ((with_reducible apply Me); exact rfl; exact rfl; exact rfl; exact rfl)
                | ((with_reducible apply Mc); exact rfl; exact rfl; exact rfl)
                | ((with_reducible apply OX); exact rfl; exact rfl; intro _)
                | ((with_reducible apply OY); exact rfl; exact rfl; exact rfl; intro _)
                | ((with_reducible apply Mi); exact rfl; intro _)
                | ((with_reducible apply y6); exact rfl; exact rfl; (repeat first | exact .hd | apply Sel.tl | apply In.tl); exact rfl; exact rfl; exact rfl)
                | ((with_reducible apply Dg); exact rfl; exact rfl; (repeat first | exact .hd | apply Sel.tl | apply In.tl); exact rfl; exact rfl; exact rfl; exact rfl)
                | ((with_reducible apply y7); exact rfl; exact rfl; exact rfl; exact rfl; exact rfl; exact rfl; exact rfl; intro _)
                | ((with_reducible apply J1) <;> first | exact rfl | (intro hb; (replace hb := Tidy.out hb; try (exfalso; omega))))
                | (with_reducible first | apply F9 | apply SQ | apply Sw | apply Mr | apply Sx | apply QT | apply QW | apply O3 | apply SN | apply SS | apply Tl | apply Ti | apply Tm | apply O0 | apply O2 | apply scp_n | apply SU | apply scp_e)
                | ((with_reducible apply Du); exact rfl)
                | ((with_reducible apply BC); exact rfl)
                | ((with_reducible apply QX) <;> first | exact rfl | (intro hb; (replace hb := Tidy.out hb; try (exfalso; omega))))
                | ((with_reducible apply Th); exact rfl)
                | ((with_reducible apply ak); exact rfl; (with_reducible apply lp); exact rfl; exact rfl; (simp only [maxLen] at *; omega))
                | ((with_reducible apply ak); exact rfl; (with_reducible apply Je); exact rfl; exact rfl; (simp only [maxLen] at *; omega))
                | ((with_reducible apply ak); exact rfl; (with_reducible apply dP); exact rfl; exact rfl; (simp only [maxLen] at *; omega))
                | ((with_reducible apply ak); exact rfl; (with_reducible apply di); exact rfl; exact rfl; omega; (simp only [maxLen] at *; omega))
                | ((with_reducible apply ak); exact rfl; (with_reducible apply lT); exact rfl; exact rfl; omega; (simp only [maxLen] at *; omega)))
              all_goals first
                | (exfalso; omega)
                | (refine ⟨(i + 1, Aw4, cw4, S4, W4), ⟨hlti, hI4, hin3, hsub, hms4⟩, by dsimp only; omega, by (repeat (first | exact Sub.nil _ | refine Sub.cons rfl ?_)), by (repeat (first | exact Sub.nil _ | refine Sub.cons rfl ?_)), by (repeat (first | exact MSub.nil _ | refine MSub.pick (by (repeat first | exact .hd | apply Sel.tl | apply In.tl)) ?_ | exact MSub.refl _ | refine MSub.drop .hd ?_))⟩; done)
                | trace_state
            · rw [decide_eq_false hfS] at hlk
              have hI5 := hadd3 hI4 hkm hh hfS
              have hin3 := hin2 (S4 ++ [f]) (fun _ h => Uv _ h) (fun _ => UJ _ TI)
              have hput := put_set hfS
              have hSl5 := hI5.len hG
              rw [List.length_append, TH] at hSl5
              repeat' (first
                | ((with_reducible apply ak); exact rfl; (with_reducible apply aj (j := i)); exact rfl; exact rfl; exact hlti)
                | ((with_reducible apply ak); exact rfl; (with_reducible apply aA); exact rfl; (repeat first | exact .hd | apply Sel.tl | apply In.tl); exact hreadk; exact rfl)
                | ((with_reducible apply ak); exact rfl; (with_reducible apply ep (enc := aY) (k := f)); exact rfl; exact rfl; (repeat first | exact .hd | apply Sel.tl | apply In.tl); exact hlk)
                | ((with_reducible apply eU (enc := aY) (k := f)); exact rfl; exact rfl; exact rfl; (repeat first | exact .hd | apply Sel.tl | apply In.tl); rw [hput])
                | ((with_reducible apply aX (news := aC f)); exact rfl; exact rfl; exact rfl; (repeat first | exact .hd | apply Sel.tl | apply In.tl); (repeat first | exact .hd | apply Sel.tl | apply In.tl); exact rfl; (simp [aC, Value.oneCell']); omega; (simp only [maxLen]; omega); intro g8 c8)
                | ((with_reducible apply ak); exact rfl; (first | ((with_reducible apply QY); exact rfl) | ((with_reducible apply Dz); exact rfl) | ((with_reducible apply SI); exact rfl) | ((with_reducible apply Mx); exact rfl) | ((with_reducible apply w7); exact rfl; (repeat first | exact .hd | apply Sel.tl | apply In.tl); exact rfl) | ((with_reducible apply Rx); exact rfl; exact rfl) | ((with_reducible apply Mw); exact rfl; exact rfl) | ((with_reducible apply Dx); exact rfl; (repeat first | exact .hd | apply Sel.tl | apply In.tl); exact rfl) | ((with_reducible apply oH); exact rfl; (repeat first | exact .hd | apply Sel.tl | apply In.tl); exact rfl; exact rfl) | ((with_reducible apply v_shr); exact rfl; exact rfl; exact rfl)))
                | ((with_reducible apply OW); exact rfl; exact rfl)
                | ((with_reducible apply Me); exact rfl; exact rfl; exact rfl; exact rfl)
                | ((with_reducible apply Mc); exact rfl; exact rfl; exact rfl)
                | ((with_reducible apply OX); exact rfl; exact rfl; intro _)
                | ((with_reducible apply OY); exact rfl; exact rfl; exact rfl; intro _)
                | ((with_reducible apply Mi); exact rfl; intro _)
                | ((with_reducible apply y6); exact rfl; exact rfl; (repeat first | exact .hd | apply Sel.tl | apply In.tl); exact rfl; exact rfl; exact rfl)
                | ((with_reducible apply Dg); exact rfl; exact rfl; (repeat first | exact .hd | apply Sel.tl | apply In.tl); exact rfl; exact rfl; exact rfl; exact rfl)
                | ((with_reducible apply y7); exact rfl; exact rfl; exact rfl; exact rfl; exact rfl; exact rfl; exact rfl; intro _)
                | ((with_reducible apply J1) <;> first | exact rfl | (intro hb; (replace hb := Tidy.out hb; try (exfalso; omega))))
                | (with_reducible first | apply F9 | apply SQ | apply Sw | apply Mr | apply Sx | apply QT | apply QW | apply O3 | apply SN | apply SS | apply Tl | apply Ti | apply Tm | apply O0 | apply O2 | apply scp_n | apply SU | apply scp_e)
                | ((with_reducible apply Du); exact rfl)
                | ((with_reducible apply BC); exact rfl)
                | ((with_reducible apply QX) <;> first | exact rfl | (intro hb; (replace hb := Tidy.out hb; try (exfalso; omega))))
                | ((with_reducible apply Th); exact rfl)
                | ((with_reducible apply ak); exact rfl; (with_reducible apply lp); exact rfl; exact rfl; (simp only [maxLen] at *; omega))
                | ((with_reducible apply ak); exact rfl; (with_reducible apply Je); exact rfl; exact rfl; (simp only [maxLen] at *; omega))
                | ((with_reducible apply ak); exact rfl; (with_reducible apply dP); exact rfl; exact rfl; (simp only [maxLen] at *; omega))
                | ((with_reducible apply ak); exact rfl; (with_reducible apply di); exact rfl; exact rfl; omega; (simp only [maxLen] at *; omega))
                | ((with_reducible apply ak); exact rfl; (with_reducible apply lT); exact rfl; exact rfl; omega; (simp only [maxLen] at *; omega)))
              all_goals first
                | (exfalso; omega)
                | (refine ⟨(i + 1, some g8, c8, S4 ++ [f], W4 ++ [f]), ⟨hlti, hI5, hin3, fun e he => Uv _ (hsub e he), by dsimp only; rw [List.length_append, List.length_append, TH]; omega⟩, by dsimp only; omega, by dsimp only; rw [List.length_append, TH]; (repeat (first | exact Sub.nil _ | refine Sub.cons rfl ?_)), by (repeat (first | exact Sub.nil _ | refine Sub.cons rfl ?_)), by dsimp only; rw [List.length_append, List.length_append, TH, List.flatMap_append, List.flatMap_singleton]; (repeat (first | exact MSub.nil _ | refine MSub.pick (by (repeat first | exact .hd | apply Sel.tl | apply In.tl)) ?_ | exact MSub.refl _ | refine MSub.drop .hd ?_))⟩; done)
                | trace_state
          · have hhi := fun h => hh (hasR_iff.2 h)
            have hin3 := hin2 S4 (fun _ h => h) (fun h => absurd h hh)
            repeat' (first
              | ((with_reducible apply ak); exact rfl; (with_reducible apply aj (j := i)); exact rfl; exact rfl; exact hlti)
              | ((with_reducible apply ak); exact rfl; (with_reducible apply aA); exact rfl; (repeat first | exact .hd | apply Sel.tl | apply In.tl); exact hreadk; exact rfl)
              | ((with_reducible apply ak); exact rfl; (with_reducible apply ep (enc := aY) (k := f)); exact rfl; exact rfl; (repeat first | exact .hd | apply Sel.tl | apply In.tl); exact hlk)
              | ((with_reducible apply ak); exact rfl; (first | ((with_reducible apply QY); exact rfl) | ((with_reducible apply Dz); exact rfl) | ((with_reducible apply SI); exact rfl) | ((with_reducible apply Mx); exact rfl) | ((with_reducible apply w7); exact rfl; (repeat first | exact .hd | apply Sel.tl | apply In.tl); exact rfl) | ((with_reducible apply Rx); exact rfl; exact rfl) | ((with_reducible apply Mw); exact rfl; exact rfl) | ((with_reducible apply Dx); exact rfl; (repeat first | exact .hd | apply Sel.tl | apply In.tl); exact rfl) | ((with_reducible apply oH); exact rfl; (repeat first | exact .hd | apply Sel.tl | apply In.tl); exact rfl; exact rfl) | ((with_reducible apply v_shr); exact rfl; exact rfl; exact rfl)))
              | ((with_reducible apply OW); exact rfl; exact rfl)
              | ((with_reducible apply Me); exact rfl; exact rfl; exact rfl; exact rfl)
              | ((with_reducible apply Mc); exact rfl; exact rfl; exact rfl)
              | ((with_reducible apply OX); exact rfl; exact rfl; intro _)
              | ((with_reducible apply OY); exact rfl; exact rfl; exact rfl; intro _)
              | ((with_reducible apply Mi); exact rfl; intro _)
              | ((with_reducible apply y6); exact rfl; exact rfl; (repeat first | exact .hd | apply Sel.tl | apply In.tl); exact rfl; exact rfl; exact rfl)
              | ((with_reducible apply Dg); exact rfl; exact rfl; (repeat first | exact .hd | apply Sel.tl | apply In.tl); exact rfl; exact rfl; exact rfl; exact rfl)
              | ((with_reducible apply y7); exact rfl; exact rfl; exact rfl; exact rfl; exact rfl; exact rfl; exact rfl; intro _)
              | ((with_reducible apply J1) <;> first | exact rfl | (intro hb; (replace hb := Tidy.out hb; try (exfalso; omega))))
              | (with_reducible first | apply F9 | apply SQ | apply Sw | apply Mr | apply Sx | apply QT | apply QW | apply O3 | apply SN | apply SS | apply Tl | apply Ti | apply Tm | apply O0 | apply O2 | apply scp_n | apply SU | apply scp_e)
              | ((with_reducible apply Du); exact rfl)
              | ((with_reducible apply BC); exact rfl)
              | ((with_reducible apply QX) <;> first | exact rfl | (intro hb; (replace hb := Tidy.out hb; try (exfalso; omega))))
              | ((with_reducible apply Th); exact rfl)
              | ((with_reducible apply ak); exact rfl; (with_reducible apply lp); exact rfl; exact rfl; (simp only [maxLen] at *; omega))
              | ((with_reducible apply ak); exact rfl; (with_reducible apply Je); exact rfl; exact rfl; (simp only [maxLen] at *; omega))
              | ((with_reducible apply ak); exact rfl; (with_reducible apply dP); exact rfl; exact rfl; (simp only [maxLen] at *; omega))
              | ((with_reducible apply ak); exact rfl; (with_reducible apply di); exact rfl; exact rfl; omega; (simp only [maxLen] at *; omega))
              | ((with_reducible apply ak); exact rfl; (with_reducible apply lT); exact rfl; exact rfl; omega; (simp only [maxLen] at *; omega)))
            all_goals first
              | (exfalso; omega)
              | (exfalso; exact hhi ⟨by omega, by omega, by omega, by omega⟩)
              | (refine ⟨(i + 1, Aw4, cw4, S4, W4), ⟨hlti, hI4, hin3, hsub, hms4⟩, by dsimp only; omega, by (repeat (first | exact Sub.nil _ | refine Sub.cons rfl ?_)), by (repeat (first | exact Sub.nil _ | refine Sub.cons rfl ?_)), by (repeat (first | exact MSub.nil _ | refine MSub.pick (by (repeat first | exact .hd | apply Sel.tl | apply In.tl)) ?_ | exact MSub.refl _ | refine MSub.drop .hd ?_))⟩; done)
              | trace_state
        · have e : i = K.length := by omega
          subst e
          have hst := hstep2 S4 hsub ⟨hob, fun f hf hh => by
            obtain ⟨j, hj, rfl⟩ := UY hf
            exact hin j hj hj hh⟩
          repeat' (first
            | ((with_reducible apply ak); exact rfl; (first | ((with_reducible apply QY); exact rfl) | ((with_reducible apply Dz); exact rfl) | ((with_reducible apply SI); exact rfl) | ((with_reducible apply Mx); exact rfl) | ((with_reducible apply w7); exact rfl; (repeat first | exact .hd | apply Sel.tl | apply In.tl); exact rfl) | ((with_reducible apply Rx); exact rfl; exact rfl) | ((with_reducible apply Mw); exact rfl; exact rfl) | ((with_reducible apply Dx); exact rfl; (repeat first | exact .hd | apply Sel.tl | apply In.tl); exact rfl) | ((with_reducible apply oH); exact rfl; (repeat first | exact .hd | apply Sel.tl | apply In.tl); exact rfl; exact rfl) | ((with_reducible apply v_shr); exact rfl; exact rfl; exact rfl)))
            | ((with_reducible apply OW); exact rfl; exact rfl)
            | ((with_reducible apply Me); exact rfl; exact rfl; exact rfl; exact rfl)
            | ((with_reducible apply Mc); exact rfl; exact rfl; exact rfl)
            | ((with_reducible apply OX); exact rfl; exact rfl; intro _)
            | ((with_reducible apply OY); exact rfl; exact rfl; exact rfl; intro _)
            | ((with_reducible apply Mi); exact rfl; intro _)
            | ((with_reducible apply y6); exact rfl; exact rfl; (repeat first | exact .hd | apply Sel.tl | apply In.tl); exact rfl; exact rfl; exact rfl)
            | ((with_reducible apply Dg); exact rfl; exact rfl; (repeat first | exact .hd | apply Sel.tl | apply In.tl); exact rfl; exact rfl; exact rfl; exact rfl)
            | ((with_reducible apply y7); exact rfl; exact rfl; exact rfl; exact rfl; exact rfl; exact rfl; exact rfl; intro _)
            | ((with_reducible apply J1) <;> first | exact rfl | (intro hb; (replace hb := Tidy.out hb; try (exfalso; omega))))
            | (with_reducible first | apply F9 | apply SQ | apply Sw | apply Mr | apply Sx | apply QT | apply QW | apply O3 | apply SN | apply SS | apply Tl | apply Ti | apply Tm | apply O0 | apply O2 | apply scp_n | apply SU | apply scp_e)
            | ((with_reducible apply Du); exact rfl)
            | ((with_reducible apply BC); exact rfl)
            | ((with_reducible apply QX) <;> first | exact rfl | (intro hb; (replace hb := Tidy.out hb; try (exfalso; omega))))
            | ((with_reducible apply Th); exact rfl)
            | ((with_reducible apply ak); exact rfl; (with_reducible apply lp); exact rfl; exact rfl; (simp only [maxLen] at *; omega))
            | ((with_reducible apply ak); exact rfl; (with_reducible apply Je); exact rfl; exact rfl; (simp only [maxLen] at *; omega))
            | ((with_reducible apply ak); exact rfl; (with_reducible apply dP); exact rfl; exact rfl; (simp only [maxLen] at *; omega))
            | ((with_reducible apply ak); exact rfl; (with_reducible apply di); exact rfl; exact rfl; omega; (simp only [maxLen] at *; omega))
            | ((with_reducible apply ak); exact rfl; (with_reducible apply lT); exact rfl; exact rfl; omega; (simp only [maxLen] at *; omega)))
          all_goals first
            | (exfalso; omega)
            | (refine ⟨(k + 1, Aw4, cw4, S4, W4), ⟨hltu, hI4, hst, hms4⟩, by dsimp only; omega, by (repeat (first | exact Sub.nil _ | refine Sub.cons rfl ?_)), by (repeat (first | exact Sub.nil _ | refine Sub.cons rfl ?_)), by (repeat (first | exact MSub.nil _ | refine MSub.pick (by (repeat first | exact .hd | apply Sel.tl | apply In.tl)) ?_ | exact MSub.refl _ | refine MSub.drop .hd ?_))⟩; done)
            | trace_state
  · have e : k = U.length := by omega
    subst e
    have hI4 := hpop2 hI3 fun x hx => by
      obtain ⟨j, hj, rfl⟩ := UY hx
      exact hdone j hj hj
    repeat' (first
      | ((with_reducible apply ak); exact rfl; (first | ((with_reducible apply QY); exact rfl) | ((with_reducible apply Dz); exact rfl) | ((with_reducible apply SI); exact rfl) | ((with_reducible apply Mx); exact rfl) | ((with_reducible apply w7); exact rfl; (repeat first | exact .hd | apply Sel.tl | apply In.tl); exact rfl) | ((with_reducible apply Rx); exact rfl; exact rfl) | ((with_reducible apply Mw); exact rfl; exact rfl) | ((with_reducible apply Dx); exact rfl; (repeat first | exact .hd | apply Sel.tl | apply In.tl); exact rfl) | ((with_reducible apply oH); exact rfl; (repeat first | exact .hd | apply Sel.tl | apply In.tl); exact rfl; exact rfl) | ((with_reducible apply v_shr); exact rfl; exact rfl; exact rfl)))
      | ((with_reducible apply OW); exact rfl; exact rfl)
      | ((with_reducible apply Me); exact rfl; exact rfl; exact rfl; exact rfl)
      | ((with_reducible apply Mc); exact rfl; exact rfl; exact rfl)
      | ((with_reducible apply OX); exact rfl; exact rfl; intro _)
      | ((with_reducible apply OY); exact rfl; exact rfl; exact rfl; intro _)
      | ((with_reducible apply Mi); exact rfl; intro _)
      | ((with_reducible apply y6); exact rfl; exact rfl; (repeat first | exact .hd | apply Sel.tl | apply In.tl); exact rfl; exact rfl; exact rfl)
      | ((with_reducible apply Dg); exact rfl; exact rfl; (repeat first | exact .hd | apply Sel.tl | apply In.tl); exact rfl; exact rfl; exact rfl; exact rfl)
      | ((with_reducible apply y7); exact rfl; exact rfl; exact rfl; exact rfl; exact rfl; exact rfl; exact rfl; intro _)
      | ((with_reducible apply J1) <;> first | exact rfl | (intro hb; (replace hb := Tidy.out hb; try (exfalso; omega))))
      | (with_reducible first | apply F9 | apply SQ | apply Sw | apply Mr | apply Sx | apply QT | apply QW | apply O3 | apply SN | apply SS | apply Tl | apply Ti | apply Tm | apply O0 | apply O2 | apply scp_n | apply SU | apply scp_e)
      | ((with_reducible apply Du); exact rfl)
      | ((with_reducible apply BC); exact rfl)
      | ((with_reducible apply QX) <;> first | exact rfl | (intro hb; (replace hb := Tidy.out hb; try (exfalso; omega))))
      | ((with_reducible apply Th); exact rfl)
      | ((with_reducible apply ak); exact rfl; (with_reducible apply lp); exact rfl; exact rfl; (simp only [maxLen] at *; omega))
      | ((with_reducible apply ak); exact rfl; (with_reducible apply Je); exact rfl; exact rfl; (simp only [maxLen] at *; omega))
      | ((with_reducible apply ak); exact rfl; (with_reducible apply dP); exact rfl; exact rfl; (simp only [maxLen] at *; omega))
      | ((with_reducible apply ak); exact rfl; (with_reducible apply di); exact rfl; exact rfl; omega; (simp only [maxLen] at *; omega))
      | ((with_reducible apply ak); exact rfl; (with_reducible apply lT); exact rfl; exact rfl; omega; (simp only [maxLen] at *; omega)))
    all_goals first
      | (exfalso; omega)
      | (refine ⟨(Aw3, cw3, S3, W3), ⟨hI4, by dsimp only; omega⟩, by dsimp only; omega, by (repeat (first | exact Sub.nil _ | refine Sub.cons rfl ?_)), by (repeat (first | exact Sub.nil _ | refine Sub.cons rfl ?_)), by (repeat (first | exact MSub.nil _ | refine MSub.pick (by (repeat first | exact .hd | apply Sel.tl | apply In.tl)) ?_ | exact MSub.refl _ | refine MSub.drop .hd ?_))⟩; done)
      | trace_state
end Go.SL
