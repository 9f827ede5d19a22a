/-
  Lemmas and walks, put together: D10 D11 D12 E2 K1 Lq Lr.
-/
import Derived.ChangeKeysEq
import Derived.Test.YthefeclkaaocnaaGreatDoorKf16
set_option linter.unusedSimpArgs false
set_option linter.unusedVariables false
set_option maxRecDepth 20000
namespace Go.SL
open Go Go.Proofs
attribute [local irreducible] W WL WQ WG WA WX WLI WR WT WC VOp RW thn blk bF scp ba aZ bC FnAt FnIn FnP ceP gA cP dR
theorem dM {w0:World} {s:aB} {H:List Blk} {ty t' :TypeId} {x y:Operand} {a b:Rf} {c:Bool} (h:decide (a≠b)=c) (hx:ev s x=some (.agg (aC a).toArray)) (hy:ev s y=some (.agg (aC b).toArray)):VOp Tryz.prog w0 s H (.binOp .neq 51 x y t') ty (.bool c):=by
 have h1:=Rs (w0:=w0) (H:=H) (ty:=ty) (t' :=t') hx hy
 rw [CI] at h1
 rw [← h]
 have e:(!decide (a=b))=decide (a≠b):=by simp
 rwa [e] at h1
def bT (r:Rct) (out:List Rf) (x:Rf × Us):List Rf:=if og r x.2 && (match out.getLast? with|none=>true|some b=>decide (b≠x.1)) then out++ [x.1] else out
def tV (E:List En) (r:Rct):List Rf:=if dY r≠0 then [] else (yU E).foldl (bT r) []
theorem ni (r:Rct) (out:List Rf) (x:Rf × Us):bT r out x=if og r x.2 && (match out.getLast? with|none=>true|some b=>decide (b≠x.1)) then out++ [x.1] else out:=rfl
theorem za (r:Rct) (out:List Rf) (x:Rf × Us):(bT r out x).length≤out.length+1:=by
 unfold bT
 generalize (og r x.2 && (match out.getLast? with|none=>true|some b=>decide (b≠x.1)))=c
 cases c<;>simp
theorem qF (r:Rct): ∀ (us:List (Rf × Us)) (out:List Rf),(us.foldl (bT r) out).length≤out.length+us.length
 | [],_=>TQ _
 |x::us,out=>by
  have h1:=qF r us (bT r out x)
  have h2:=za r out x
  simp only [UK,TZ]
  omega
theorem Qk (x:Value) (g0:Nat) (w:World) (hx:x= .pointer (some ⟨g0,0,none⟩)):FnAt Tryz.prog 179 [x] w fun v H=> ∃ g,v= .func (.func 222) #[] #[.pointer (some ⟨g,0,none⟩)]∧H= [.box g 79 [x]]:=by
 refine ax Tryz.func179 rfl Tryz.ntmps179 rfl ?_
 subst hx
 repeat' (first|refine sT ?_|refine sM fun _=> ?_|(refine sC ?_ ?_<;>intro hb<;>try omega)|fail)
 rename_i g
 exact cA eIO rfl rfl (.refl _) ⟨g,rfl,rfl⟩
set_option maxHeartbeats 4000000 in
theorem OC (gg gm clock:Nat) (E:List En) (r:Rct) (hok:MapOk (E.map En.m) clock) (hlen:E.length≤1000) (hal:(yU E).length≤1000000) (R:List Blk) (w0:World) (hE: ∀ e∈E,EnOk R e):
    FnIn Tryz.prog 139 [.pointer (some ⟨gg,0,none⟩),.agg (aN r).toArray] w0 (gB gg gm (E.map En.m) clock++R) fun v H=> ∃ A cap,v=sl A (tV E r).length cap∧H= .own A 51 2 (tV E r).length cap ((tV E r).flatMap aC)::(gB gg gm (E.map En.m) clock++R):=by
  refine yt Tryz.func139 rfl Tryz.ntmps139 (by rfl) ?_
  have hrc:=fun w=>ko r w
  unfold tV
  refine oz ?_
  refine aW 51 2 ?_
  by_cases hre:dY r≠0
  · rw [if_pos hre]
    repeat' (first|(apply aa;exact rfl;exact rfl;(intro w hm;exact hrc w))|refine sT ?_|refine sS ?_|refine sR ?_|refine sM fun _=> ?_|(refine sC ?_ ?_<;>intro hb<;>try omega)|(refine sCR ?_ ?_<;>intro hb<;>try omega)|fail)
    all_goals first
      |(exfalso;omega)
      | (refine CJ ?_
         exact cA eIO rfl rfl (H' := .own none 51 2 0 0 []::(gB gg gm (E.map En.m) clock++R)) mS ⟨none,0,rfl,rfl⟩)
  rw [if_neg hre]
  have hre0:dY r=0:=by omega
  rw [hre0] at hrc
  repeat' (first|(apply aa;exact rfl;exact rfl;(intro w hm;exact hrc w))|(apply aF (f:=179);exact rfl;exact rfl;(intro w' hm;exact Qk _ gg w' rfl);rintro _ _ ⟨g,rfl,rfl⟩)|refine sT ?_|refine sS ?_|refine sR ?_|refine sM fun _=> ?_|(refine sC ?_ ?_<;>intro hb<;>try omega)|(refine sCR ?_ ?_<;>intro hb<;>try omega)|fail)
  rename_i g3 g5
  refine rO (ps:= [19,20]) (us:=yU E) (encs:=QI) (Hc:= .box g 79 [.pointer (some ⟨gg,0,none⟩)]::(gB gg gm (E.map En.m) clock++R)) (HU0:= [.box g5 65 [.slice none 0 0],.own none 51 2 0 0 [],.box g3 33 (aN r)]) rfl (fun _=>rfl) rfl (Qj gg gm clock E hok hlen R w0 hE g)
    (fun pre HU=> ∃ A cap,(0<(pre.foldl (bT r) []).length→ ∃ ga,A=some ga)∧HU= [.box g5 65 [sl A (pre.foldl (bT r) []).length cap],.own A 51 2 (pre.foldl (bT r) []).length cap ((pre.foldl (bT r) []).flatMap aC),.box g3 33 (aN r)]) (fun _=>False) ?_ ⟨none,0,by simp,rfl⟩ ?_ ?_ ?_
  · exact mS
  · rintro l pre ⟨at_,u⟩ post hus _ ⟨A,cap,hA,rfl⟩ F F'
    have hlu:=congrArg List.length hus
    simp only [TG,TZ] at hlu
    have hol:=qF r pre []
    have hfold:(pre++ [(at_,u)]).foldl (bT r) []=bT r (pre.foldl (bT r) []) (at_,u):=by rw [U8];rfl
    generalize pre.foldl (bT r) []=out at hA hol hfold ⊢
    simp only [U2,Uc] at hol
    change WR _ _ _ l _ _ ((20,Value.agg (aN u.rect).toArray)::(19,Value.agg (aC at_).toArray)::_) (.box g5 65 [sl A out.length cap]:: .own A 51 2 out.length cap (out.flatMap aC):: .box g3 33 (aN r)::F)
    repeat' (first|refine sT ?_|refine sR ?_|refine sM fun _=> ?_|(refine sC ?_ ?_<;>intro hb<;>try omega)|(refine sCR ?_ ?_<;>intro hb<;>try omega)|fail)
    rename_i g6 g7
    refine pU ⟨[.box g7 33 (aN u.rect),.box g6 51 (aC at_),.box g5 65 [sl A out.length cap],.own A 51 2 out.length cap (out.flatMap aC),.box g3 33 (aN r)],MSub.refl _,?_⟩
    change WR _ _ _ l _ _ _ (.box g7 33 (aN u.rect):: .box g6 51 (aC at_):: .box g5 65 [sl A out.length cap]:: .own A 51 2 out.length cap (out.flatMap aC):: .box g3 33 (aN r)::F')
    have hmeet:=fun w=>CZ u.rect r w
    have hto:og r u=(dZ u.rect r).2:=rfl
    generalize dZ u.rect r=mt at hmeet hto
    obtain ⟨mr,mb⟩:=mt
    dsimp only at hto
    rw [ni] at hfold
    simp only [hto] at hfold
    cases mb with
    |false=>
      simp only [Bool.false_and,Ur,if_false] at hfold
      repeat' (first|(apply aa;exact rfl;exact rfl;(intro w hm;exact hmeet w))|(apply (rQ (id:=8) [] [] _);kernel_rfl;kernel_rfl;kernel_rfl;exact rfl;exact MSub.refl _)|refine sT ?_|refine sS ?_|refine sR ?_|refine sW ?_|refine sM fun _=> ?_|(refine sC ?_ ?_<;>intro hb<;>try omega)|(refine sCR ?_ ?_<;>intro hb<;>try omega)|(refine sCW ?_ ?_<;>intro hb<;>try omega)|fail)
      all_goals
        refine lz [.box g5 65 [sl A out.length cap],.own A 51 2 out.length cap (out.flatMap aC),.box g3 33 (aN r)] ?_ ⟨A,cap,?_⟩
        · change MSub (_::_::_::F') _
          exact mS
        · rw [hfold];exact ⟨hA,rfl⟩
    |true=>
      simp only [VB] at hfold
      have hsn: ∀ b:Rf,(out++ [b]).flatMap aC=out.flatMap aC++aC b:=fun b=>by simp
      cases hlast:out.getLast? with
      |none=>
        have hnil:out= []:=List.getLast?_eq_none_iff.1 hlast
        subst hnil
        simp only [hlast,if_true] at hfold
        repeat' (first|(apply aa;exact rfl;exact rfl;(intro w hm;exact hmeet w))|(apply (rQ (id:=8) [] [] _);kernel_rfl;kernel_rfl;kernel_rfl;exact rfl;exact MSub.refl _)|(apply bi;(iterate 3 exact rfl);(repeat first|exact .hd|apply Sel.tl|apply In.tl);(intro w hm;exact hm.cells_own (by (repeat first|exact .hd|apply Sel.tl|apply In.tl)));exact rfl;(simp [Value.oneCell',sl]);omega;(simp only [maxLen];omega);(intro A' cap' hA'))|refine sT ?_|refine sS ?_|refine sR ?_|refine sW ?_|refine sN ?_|refine sWN ?_|refine sM fun _=> ?_|(refine sC ?_ ?_<;>intro hb<;>try omega)|(refine sCR ?_ ?_<;>intro hb<;>try omega)|(refine sCW ?_ ?_<;>intro hb<;>try omega)|fail)
        refine lz [.box g5 65 [sl A' (0+1) cap'],.own A' 51 2 (0+1) cap' ([]++aC at_),.box g3 33 (aN r)] ?_ ⟨A',cap',?_⟩
        · change MSub (_::_::_::F') _
          exact mS
        · rw [hfold];exact ⟨fun _=>hA' (by simp),rfl⟩
      |some b=>
        simp only [hlast] at hfold
        have hne:out≠ []:=fun h=>by rw [h] at hlast;cases hlast
        have hpos:0<out.length:=UX.2 hne
        obtain ⟨ga,rfl⟩:=hA hpos
        have hb1:((out.flatMap aC).drop ((out.length - 1)*2)).take 2=aC b:=by
          rw [cf fj out (out.length - 1) (by omega)]
          have:=hlast
          rw [Ve,TJ (by omega)] at this
          rw [Option.some.inj this]
        generalize hdec:decide (b≠at_)=c at hfold
        repeat' (first|(apply aa;exact rfl;exact rfl;(intro w hm;exact hmeet w))|(apply (rQ (id:=8) [] [] _);kernel_rfl;kernel_rfl;kernel_rfl;exact rfl;exact MSub.refl _)|(apply eG;(iterate 3 exact rfl);apply aj (j:=out.length - 1);exact rfl;exact rfl;omega)|(apply eG;(iterate 3 exact rfl);apply aA (ys:=aC b);exact rfl;exact pK;(rw [Uc];exact hb1);exact rfl)|(apply eG;(iterate 3 exact rfl);apply dM hdec;exact rfl;exact rfl)|(apply bi;(iterate 3 exact rfl);(repeat first|exact .hd|apply Sel.tl|apply In.tl);(intro w hm;exact hm.cells_own (by (repeat first|exact .hd|apply Sel.tl|apply In.tl)));exact rfl;(simp [Value.oneCell',sl]);omega;(simp only [maxLen];omega);(intro A' cap' hA'))|refine sT ?_|refine sS ?_|refine sR ?_|refine sW ?_|refine sN ?_|refine sWN ?_|refine sM fun _=> ?_|(refine sC ?_ ?_<;>intro hb<;>try omega)|(refine sCR ?_ ?_<;>intro hb<;>try omega)|(refine sCW ?_ ?_<;>intro hb<;>try omega)|fail)
        · rw [hb] at hfold
          simp only [if_true] at hfold
          refine lz [.box g5 65 [sl A' (out.length+1) cap'],.own A' 51 2 (out.length+1) cap' (out.flatMap aC++aC at_),.box g3 33 (aN r)] ?_ ⟨A',cap',?_⟩
          · change MSub (_::_::_::F') _
            exact mS
          · rw [hfold,hsn,TG];exact ⟨fun _=>hA' (by simp),rfl⟩
        · rw [hb] at hfold
          simp only [Ur,if_false] at hfold
          refine lz [.box g5 65 [sl (some ga) out.length cap],.own (some ga) 51 2 out.length cap (out.flatMap aC),.box g3 33 (aN r)] ?_ ⟨some ga,cap,?_⟩
          · change MSub (_::_::_::F') _
            exact mS
          · rw [hfold];exact ⟨fun _=>⟨ga,rfl⟩,rfl⟩
  · rintro D _ ⟨A,cap,_,rfl⟩
    change bC _ _ _ _ _ (dH D:: .box g5 65 [sl A ((yU E).foldl (bT r) []).length cap]:: .own A 51 2 ((yU E).foldl (bT r) []).length cap (((yU E).foldl (bT r) []).flatMap aC):: .box g3 33 (aN r)::_)
    repeat' (first|refine sT ?_|refine sR ?_|refine sM fun _=> ?_|(refine sC ?_ ?_<;>intro hb<;>try omega)|(refine sCR ?_ ?_<;>intro hb<;>try omega)|fail)
    refine pP .hd ?_
    exact cA eIO rfl rfl mS ⟨A,cap,rfl,rfl⟩
  · rintro D HU h
    exact h.elim
end Go.SL
namespace Go.SL
open Go Go.Proofs
attribute [local irreducible] W WL WQ WG WA WX WLI WR WT WC VOp RW thn blk bF scp ba aZ bC FnAt FnIn FnP ceP
theorem PX (R:List Blk):GOk R [] 0 []:=⟨⟨List.nodup_nil,(fun _ h=>by cases h),List.nodup_nil⟩,(fun _ h=>by cases h),(fun _=>Iff.rfl),z1⟩
structure Et where
 at_:Rf
 input:ByteArray
def du (e:Et):List Value:= [.int .i64 e.at_.col,.int .i64 e.at_.row,.string e.input]
theorem fk (e:Et):(du e).length=3:=rfl
def fF (b:Option Rf) (e:Et):Int:=if e.at_.valid=false then 3 else if (match b with|some p=>bn p e.at_|none=>true)=false then 12 else if e.input=az then 2 else (ofP e.input).2.2
def cQ:Nat→Option Rf→List Et→Int × Int
 |_,_,[]=>(0,0)
 |i,b,e::r=>if fF b e≠0 then ((i:Int),fF b e) else cQ (i+1) (some e.at_) r
def fP (L:List Et):Int × Int:=cQ 0 none L
def jO (L:List Et) (i:Nat):Option Rf:=if i=0 then none else (L[i - 1]?).map Et.at_
set_option maxHeartbeats 2000000 in
theorem zw (L:List Et) (tv:Value) (w:World) (ht:Reads w tv L.length (L.flatMap du)) (hlen:L.length≤1000000) (hW:Words w):
    aD Tryz.prog 50 [tv] w (.tuple #[.int .i64 (fP L).1,.int .i64 (fP L).2]):=by
  obtain ⟨Al,cl,rfl,hl1,hl2,hl3⟩:=ht
  refine ax Tryz.func50 rfl Tryz.ntmps50 rfl ?_
  repeat' (first|refine sT ?_|refine sS ?_|refine sM fun _=> ?_|(refine sC ?_ ?_<;>intro hb<;>try omega)|fail)
  refine ay [0,2,3,9,10] rfl (fun i:Nat=> [(11,.int .i64 (i:Int))]) (fun _=> []) (fun i=>i≤L.length∧fP L=cQ i (jO L i) (L.drop i)) (fun i=>L.length - i) 0 ⟨by omega,rfl⟩ sB (.refl _) ?_
  rintro i ⟨hi,hck⟩
  by_cases hlt:i<L.length
  · obtain ⟨gl,ol,rfl,hrl⟩:=hl3 (by omega)
    have he:=hrl.elem fk i hlt
    have hprev: ∀ h:0<i,Ro w gl (ol+(i - 1)*3) (du L[i - 1]):=fun h=>hrl.elem fk (i - 1) (by omega)
    have hbef: ∀ h:0<i,jO L i=some L[i - 1].at_:=fun h=>by unfold jO;rw [if_neg (by omega),TJ (by omega)];rfl
    have hbef0:i=0→jO L i=none:=fun h=>by unfold jO;rw [if_pos h]
    have hnext:jO L (i+1)=some L[i].at_:=by unfold jO;rw [if_neg (by omega),VJ,TJ hlt];rfl
    rw [TN hlt,cQ,← hnext] at hck
    generalize L[i]=e at he hck
    have hV: ∀ w',aD Tryz.prog 64 [.agg (aC e.at_).toArray] w' (.bool e.at_.valid):=fun w' =>iJ e.at_.col e.at_.row w'
    have hO:=fun (w' :World) (H' :List Blk) (hm:Mem w w' H')=>QK e.input w' (hW.next hm)
    by_cases h0:0<i
    · have hp:=hprev h0
      rw [hbef h0] at hck
      generalize L[i - 1]=b at hp hck
      have hL:=fun w' =>Qs b.at_ e.at_ w'
      unfold fF at hck
      simp only at hck
      have hofV: ∀ (A:Option Nat) (cap:Nat),ofV A cap (ofP e.input)= .tuple #[.agg (CK (ofP e.input).1 (sl A (ofP e.input).1.tree.length cap)).toArray,.int .i64 (ofP e.input).2.1,.int .i64 (ofP e.input).2.2]:=fun _ _=>rfl
      simp only [hofV] at hO
      generalize ofP e.input=o at hO hck
      obtain ⟨⟨f1,f2,f3⟩,oa,oe⟩:=o
      simp only [CK] at hO
      simp only at hck
      generalize e.at_.valid=vd at hV hck
      generalize bn b.at_ e.at_=ls at hL hck
      repeat' (first|(apply ak (d:=14);exact rfl;apply aj;exact rfl;exact rfl;exact hlt)|(apply ak (d:=15);exact rfl;apply aP;exact rfl;exact he;exact rfl)|(apply eG (d:=29);(iterate 3 exact rfl);apply dC (o:=ol+(i - 1)*3) (off:=0) hp (ys:=aC b.at_);(iterate 3 exact rfl))|(apply aa;exact rfl;exact rfl;(intro w hm;exact hV w))|(apply (eW (id:=6) [11] []);kernel_rfl;kernel_rfl;kernel_rfl)|(apply eG;(iterate 3 exact rfl);apply aj (j:=i - 1);exact rfl;exact rfl;omega)|(apply aa (f:=60);exact rfl;exact rfl;(intro w' hm;exact hL w'))|(apply aF (f:=106);exact rfl;exact rfl;(intro w' hm;exact hO w' _ hm);rintro _ _ ⟨A,cap,rfl,rfl⟩)|refine sT ?_|refine sS ?_|refine sW ?_|refine sN ?_|refine sWN ?_|refine sM fun _=> ?_|(refine sC ?_ ?_<;>intro hb<;>try omega)|(refine sCW ?_ ?_<;>intro hb<;>try omega)|fail)
      all_goals clear hofV
      all_goals first
        |(refine dc eIO rfl rfl rfl (.nil _) ?_;rw [hck];simp_all [az];done)
        | (refine ⟨i + 1, ⟨hlt, ?_⟩, by omega, ?_, ?_, .nil _⟩
           · rw [hck];simp_all [az]
           · exact sB
           · exact sB)
    · have h00:i=0:=by omega
      rw [hbef0 h00] at hck
      unfold fF at hck
      simp only at hck
      have hofV: ∀ (A:Option Nat) (cap:Nat),ofV A cap (ofP e.input)= .tuple #[.agg (CK (ofP e.input).1 (sl A (ofP e.input).1.tree.length cap)).toArray,.int .i64 (ofP e.input).2.1,.int .i64 (ofP e.input).2.2]:=fun _ _=>rfl
      simp only [hofV] at hO
      generalize ofP e.input=o at hO hck
      obtain ⟨⟨f1,f2,f3⟩,oa,oe⟩:=o
      simp only [CK] at hO
      simp only at hck
      generalize e.at_.valid=vd at hV hck
      repeat' (first|(apply ak (d:=14);exact rfl;apply aj;exact rfl;exact rfl;exact hlt)|(apply ak (d:=15);exact rfl;apply aP;exact rfl;exact he;exact rfl)|(apply aa;exact rfl;exact rfl;(intro w hm;exact hV w))|(apply (eW (id:=6) [11] []);kernel_rfl;kernel_rfl;kernel_rfl)|(apply aF (f:=106);exact rfl;exact rfl;(intro w' hm;exact hO w' _ hm);rintro _ _ ⟨A,cap,rfl,rfl⟩)|refine sT ?_|refine sS ?_|refine sW ?_|refine sN ?_|refine sWN ?_|refine sM fun _=> ?_|(refine sC ?_ ?_<;>intro hb<;>try omega)|(refine sCW ?_ ?_<;>intro hb<;>try omega)|fail)
      all_goals clear hofV
      all_goals first
        |(refine dc eIO rfl rfl rfl (.nil _) ?_;rw [hck];simp_all [az];done)
        | (refine ⟨i + 1, ⟨hlt, ?_⟩, by omega, ?_, ?_, .nil _⟩
           · rw [hck];simp_all [az]
           · exact sB
           · exact sB)
  · have e2:i=L.length:=by omega
    subst e2
    rw [UB,cQ] at hck
    repeat' (first|refine sT ?_|refine sS ?_|refine sM fun _=> ?_|(refine sC ?_ ?_<;>intro hb<;>try omega)|fail)
    all_goals (refine dc eIO rfl rfl rfl (.nil _) ?_;rw [hck])
def zp:Gr→List Et→Option Gr × Int
 |G,[]=>(some G,0)
 |G,e::r=>if (fQ G e.at_ e.input).2≠0 then (none,(fQ G e.at_ e.input).2) else zp (fQ G e.at_ e.input).1 r
def rA (L:List Et):Option Gr × Int:=if (fP L).2≠0 then (none,(fP L).2) else zp [] L
def TC (r:Option Gr × Int) (v:Value) (H:List Blk):Prop:=match r with
 |(none,e)=>v= .tuple #[.pointer none,.int .i64 e]∧H= []
 |(some G,_)=> ∃ gg gm E clock R,v= .tuple #[.pointer (some ⟨gg,0,none⟩),.int .i64 0]∧H=gB gg gm (E.map En.m) clock++R∧GOk R E clock G
set_option maxHeartbeats 2000000 in
theorem IQ (L:List Et) (tv:Value) (w:World) (ht:Reads w tv L.length (L.flatMap du)) (hlen:L.length≤1000000) (hW:Words w):
  FnAt Tryz.prog 39 [tv] w (TC (rA L)):=by
 have hC:=fun (w' :World) (H:List Blk) (hm:Mem w w' H)=>zw L tv w' (ht.of_w0 hm) hlen (hW.next hm)
 obtain ⟨Al,cl,rfl,hl1,hl2,hl3⟩:=ht
 refine ax Tryz.func39 rfl Tryz.ntmps39 rfl ?_
 unfold rA
 generalize fP L=c at hC
 obtain ⟨ci,ce⟩:=c
 dsimp only at hC ⊢
 by_cases hce:ce≠0
 ·
  rw [if_pos hce]
  repeat' (first|(apply aa (f:=50);exact rfl;exact rfl;(intro w' hm;exact hC w' _ hm))|refine sT ?_|refine sS ?_|refine sM fun _=> ?_|(refine sC ?_ ?_<;>intro hb<;>try omega)|fail)
  all_goals exact dc eIO rfl rfl rfl (.nil _) ⟨rfl,rfl⟩
 rw [if_neg hce]
 have hce0:ce=0:=by omega
 subst hce0
 repeat' (first|(apply aa (f:=50);exact rfl;exact rfl;(intro w' hm;exact hC w' _ hm))|(apply fS (enc:=aY);exact rfl;intro gm)|refine sT ?_|refine sS ?_|refine sM fun _=> ?_|(refine sC ?_ ?_<;>intro hb<;>try omega)|fail)
 rename_i gg
 refine ay [6,21,22] rfl (fun x:Nat × List En × Nat × Gr × List Blk=> [(23,.int .i64 (x.1:Int))]) (fun x=>gB gg gm (x.2.1.map En.m) x.2.2.1++x.2.2.2.2) (fun x=>x.1≤L.length∧GOk x.2.2.2.2 x.2.1 x.2.2.1 x.2.2.2.1∧zp [] L=zp x.2.2.2.1 (L.drop x.1)) (fun x=>L.length - x.1) (0,[],0,[],[]) ⟨by simp,PX [],rfl⟩ sB (by unfold gB;exact mS) ?_
 rintro ⟨i,E,clock,G,R⟩ ⟨hi,hG,hnew⟩
 dsimp only at hi hG hnew ⊢
 by_cases hlt:i<L.length
 ·
  obtain ⟨gl,ol,rfl,hrl⟩:=hl3 (by omega)
  have he:=hrl.elem fk i hlt
  rw [TN hlt,zp] at hnew
  generalize L[i]=e at he hnew
  have hS:=Sq gg gm clock E G e.at_ e.input R w hG hW
  generalize fQ G e.at_ e.input=sg at hS hnew
  obtain ⟨G',se⟩:=sg
  dsimp only at hS hnew
  repeat' (first|(apply ak (d:=25);exact rfl;apply aj;exact rfl;exact rfl;exact hlt)|(apply ak (d:=26);exact rfl;apply aP;exact rfl;exact he;exact rfl)|(apply au (f:=92);exact rfl;exact rfl;exact FnIn.msub hS (by unfold gB;exact mS);rintro _ _ ⟨rfl,E',clock',R',rfl,hsub,hG'⟩)|refine sT ?_|refine sS ?_|refine sN ?_|refine sM fun _=> ?_|(refine sC ?_ ?_<;>intro hb<;>try omega)|fail)
  ·
   rw [hnew,if_pos (by assumption)]
   exact dc eIO rfl rfl rfl (.nil _) ⟨rfl,rfl⟩
  ·
   rw [if_neg (by assumption)] at hnew
   refine ⟨(i+1,E',clock',G',R'),⟨hlt,hG',hnew⟩,(by dsimp only;omega),sB,sB,?_⟩
   unfold gB
   exact mS
 ·
  have e2:i=L.length:=by omega
  subst e2
  rw [UB,zp] at hnew
  rw [hnew]
  repeat' (first|refine sT ?_|refine sS ?_|refine sM fun _=> ?_|(refine sC ?_ ?_<;>intro hb<;>try omega)|fail)
  all_goals exact dc eIO rfl rfl rfl (MSub.refl _) ⟨gg,gm,E,clock,R,rfl,rfl,hG⟩
end Go.SL
namespace Go.SL
open Go
theorem fI (c:Int):aJ c=true↔48≤c∧c≤57:=by simp [aJ]
theorem iP (c:Int):cy c=true↔(65≤c∧c≤90)∨(97≤c∧c≤122):=by simp [cy]
theorem PO (c:Int):cy c=false↔ ¬ ((65≤c∧c≤90)∨(97≤c∧c≤122)):=by rw [← iP];simp
theorem ET (c:Int):cy (upC c)=cy c:=by
 rw [Uy,iP,iP,upC]
 by_cases h:97≤c∧c≤122
 ·
  rw [if_pos h];omega
 ·
  rw [if_neg h]
theorem Oh (c:Int):aJ (upC c)=aJ c:=by
 rw [Uy,fI,fI,upC]
 by_cases h:97≤c∧c≤122
 ·
  rw [if_pos h];omega
 ·
  rw [if_neg h]
theorem Pb (c:Int):upC (upC c)=upC c:=by
 simp only [upC]
 split
 ·
  rw [if_neg (by omega)]
 ·
  rfl
theorem Pd {c:Int} (h:aJ c=true):upC c=c:=by
 simp only [aJ,TU,decide_eq_true_eq] at h
 rw [upC,if_neg (by omega)]
theorem sn: ∀ l:List Int,(l.map upC).takeWhile cy=(l.takeWhile cy).map upC
 | []=>rfl
 |c::r=>by
  simp only [Ud,List.takeWhile_cons,ET]
  split
  ·
   rw [sn r];rfl
  ·
   rfl
theorem tE: ∀ l:List Int,(l.map upC).dropWhile cy=(l.dropWhile cy).map upC
 | []=>rfl
 |c::r=>by
  simp only [Ud,List.dropWhile_cons,ET]
  split
  ·
   rw [tE r]
  ·
   rfl
theorem vz: ∀ (l:List Int) (v:Int),bI (l.map upC) v=bI l v
 | [],_=>rfl
 |c::r,v=>by simp only [Ud,bI,Pb,vz r]
theorem Ov: ∀ l:List Int,(l.map upC).all aJ=l.all aJ
 | []=>rfl
 |c::r=>by simp only [Ud,VA,Oh,Ov r]
theorem x5: ∀ {l:List Int},l.all aJ=true→l.map upC=l
 | [],_=>rfl
 |c::r,h=>by
  simp only [VA,TU] at h
  simp only [Ud,Pd h.1,x5 h.2]
theorem PV (l:List Int):((l.map upC).head? =some 48)↔(l.head? =some 48):=by
 cases l with
 |nil=>simp
 |cons c r=>
  simp only [Ud,List.head?_cons,Option.some.injEq,upC]
  split<;>omega
theorem Oz (l:List Int):cL (l.map upC)=cL l:=by
 unfold cL
 simp only [sn,tE,List.map_eq_nil_iff,PV,Ov,vz]
 split
 ·
  rfl
 ·
  rename_i h
  have hd:(l.dropWhile cy).all aJ=true:=by
   cases hh:(l.dropWhile cy).all aJ with
   |true=>rfl
   |false=>exact absurd (.inr (.inr (.inr hh))) h
  rw [x5 hd]
theorem uh {p:Int→Bool}: ∀ {l:List Int} {n:Nat},n≤aG p l→aG p (l.take n)=n
 | [],n,h=>by simp [aG] at h;subst h;rfl
 |c::r,0,_=>rfl
 |c::r,n+1,h=>by
  simp only [aG] at h
  split at h
  ·
   rename_i hc
   simp only [UU,aG,hc,if_true]
   rw [uh (by omega)]
  ·
   omega
theorem sw {p:Int→Bool}: ∀ {l:List Int} {n:Nat},aG p l≤n→aG p (l.take n)=aG p l
 | [],n,_=>by simp
 |c::r,0,h=>by
  simp only [aG] at h
  split at h
  ·
   omega
  ·
   rename_i hc;simp [aG,hc]
 |c::r,n+1,h=>by
  simp only [aG] at h ⊢
  simp only [UU,aG]
  split at h
  ·
   rename_i hc;simp only [hc,if_true];rw [sw (by omega)]
  ·
   rename_i hc;simp [hc]
theorem o5 {l:List Int} (h:cC l≠0): ∃ r,l=46::r∧cC l=aG aJ r:=by
 cases l with
 |nil=>exact absurd rfl h
 |cons c r=>
  by_cases hc:c=46
  ·
   subst hc;exact ⟨r,rfl,rfl⟩
  ·
   exact absurd (nC hc) h
theorem FC {l:List Int} {w p:Nat} (hw:aG aJ l=w) (hp:cC (l.drop w)=p) (h0:w≠0) (h4:p≤4):
  iB (l.take (if p=0 then w else w+1+p))=if cZ<bQ (l.take w++(l.drop (w+1)).take p++List.replicate (4 - p) 48) 0 then (0,3) else (bQ (l.take w++(l.drop (w+1)).take p++List.replicate (4 - p) 48) 0,0):=by
 have hwl:w≤l.length:=hw ▸ cB aJ l
 obtain ⟨c,r,rfl⟩: ∃ c r,l=c::r:=by
  cases l with
  |nil=>simp [aG] at hw;omega
  |cons c r=>exact ⟨c,r,rfl⟩
 have hc:aJ c=true:=kN (c::r) 0 c (by omega) rfl
 have hc45:c≠45:=by simp only [aJ,TU,decide_eq_true_eq] at hc;omega
 have hneg: ∀ n,0<n→decide (((c::r).take n).head? =some 45)=false:=by
  intro n hn
  cases n with
  |zero=>omega
  |succ n=>simp [hc45]
 by_cases hp0:p=0
 ·
  subst hp0
  rw [if_pos rfl]
  unfold iB
  have hrun:aG aJ ((c::r).take w)=w:=uh (by omega)
  have hdrop:((c::r).take w).drop w= []:=by rw [List.drop_eq_nil_iff,Ue];omega
  have htt:((c::r).take w).take w=(c::r).take w:=by rw [Wy,Nat.min_self]
  simp only [hneg w (by omega),Ur,if_false,hrun,hdrop,htt]
  simp [h0]
 ·
  rw [if_neg hp0]
  obtain ⟨q,hq,hq2⟩:=o5 (l:=(c::r).drop w) (by omega)
  have hpq:aG aJ q=p:=by omega
  have hpl:p≤q.length:=hpq ▸ cB aJ q
  have hlen:(c::r).length=w+1+q.length:=by
   have:=congrArg List.length hq
   rw [Ug] at this
   simp only [TZ] at this ⊢
   omega
  have hd1:(c::r).drop (w+1)=q:=by
   rw [← U0,hq];rfl
  have hrun:aG aJ ((c::r).take (w+1+p))=w:=by rw [sw (by omega)];exact hw
  have hdrop:((c::r).take (w+1+p)).drop w=46::q.take p:=by
   rw [List.drop_take,hq,show w+1+p - w=p+1 by omega];rfl
  have htt:((c::r).take (w+1+p)).take w=(c::r).take w:=by rw [Wy,Vn (by omega)]
  have hrp:aG aJ (q.take p)=p:=uh (by omega)
  have hlp:(q.take p).length=p:=by rw [Ue];omega
  unfold iB
  simp only [hneg (w+1+p) (by omega),Ur,if_false,hrun,hdrop,htt,List.tail_cons,hrp,hd1]
  have hfrac:(decide (1<(46::q.take p).length) && (decide ((46::q.take p).head? =some 46) && decide (p+1=(46::q.take p).length)))=true:=by
   simp only [TZ,hlp,List.head?_cons,decide_true,VB,Wg]
   simp;omega
  simp only [hfrac,if_true]
  have h5:(q.take p++ [48,48,48,48,48]).getD 4 0=48:=by
   rw [Ui,Uj (by omega),hlp]
   rcases (by omega:p=1∨p=2∨p=3∨p=4) with rfl|rfl|rfl|rfl<;>rfl
  have h6:(q.take p++ [48,48,48,48,48]).take 4=q.take p++List.replicate (4 - p) 48:=by
   rw [List.take_append,hlp,UE (by omega)]
   rcases (by omega:p=1∨p=2∨p=3∨p=4) with rfl|rfl|rfl|rfl<;>rfl
  rw [if_neg (by simp [h0])]
  simp only [h5,h6]
  rw [if_neg (show ¬ (53:Int)≤48 by decide),Int.add_zero,TY]
theorem xX (l:List Int):gG l=(lJ l).map fun x=>(⟨1,x.1,az,aS,0⟩,x.2):=by
 unfold gG lJ
 dsimp only
 split
 ·
  rfl
 ·
  rename_i h
  have h0:aG aJ l≠0:=fun e=>h (.inl e)
  have h4:cC (l.drop (aG aJ l))≤4:=by
   rcases Vq 4 (cC (l.drop (aG aJ l))) with h4|h4
   ·
    exact absurd (.inr h4) h
   ·
    exact h4
  rw [FC rfl rfl h0 h4]
  split
  ·
   rfl
  ·
   rfl
theorem DC (m:List Int):lV (34::34::m)=(lV m).map (34:: ·):=by
 rw [lV.eq_def]
 simp
theorem DN: ∀ (n:Nat) (l:List Int),l.length≤n→lu l=(cW l).bind fun k=>(lV (l.take k)).map fun t=>(t,k+1):=by
 intro n
 induction n with
 |zero=>intro l h;have:l= []:=US (by omega);subst this;rfl
 |succ n ih=>
  intro l h
  cases l with
  |nil=>rfl
  |cons c r=>
   simp only [TZ] at h
   by_cases hc:c=34
   ·
    subst hc
    cases r with
    |nil=>rfl
    |cons d r' =>
     simp only [TZ] at h
     by_cases hd:d=34
     ·
      subst hd
      rw [lu.eq_def,cW.eq_def]
      simp only [ne_eq,not_true,if_false,if_true]
      rw [ih r' (by omega)]
      cases hk:cW r' with
      |none=>rfl
      |some k=>
       simp only [UH,Option.bind_some]
       rw [UU,UU,DC]
       cases lV (r'.take k)<;>rfl
     ·
      rw [lu.eq_def,cW.eq_def]
      simp [hd,lV]
   ·
    rw [lu.eq_def,lO hc]
    simp only [ne_eq,hc,not_false_eq_true,if_true]
    rw [ih r (by omega)]
    cases hk:cW r with
    |none=>rfl
    |some k=>
     simp only [UH,Option.bind_some]
     rw [UU,tX hc]
     cases lV (r.take k)<;>rfl
theorem LD: ∀ (n:Nat) (l:List Int) (k:Nat),l.length≤n→cW l=some k→l[k]? =some 34∧ ∃ t,lV (l.take k)=some t∧t.length≤k:=by
 intro n
 induction n with
 |zero=>intro l k h hk;have:l= []:=US (by omega);subst this;cases hk
 |succ n ih=>
  intro l k h hk
  cases l with
  |nil=>cases hk
  |cons c r=>
   simp only [TZ] at h
   by_cases hc:c=34
   ·
    subst hc
    cases r with
    |nil=>cases hk;exact ⟨rfl,[],rfl,TQ _⟩
    |cons d r' =>
     simp only [TZ] at h
     by_cases hd:d=34
     ·
      subst hd
      rw [cW.eq_def] at hk
      simp only [ne_eq,not_true,if_false,if_true] at hk
      cases hk' :cW r' with
      |none=>rw [hk'] at hk;cases hk
      |some j=>
       rw [hk'] at hk
       cases hk
       obtain ⟨h1,t,h2,h3⟩:=ih r' j (by omega) hk'
       refine ⟨h1,34::t,?_,by simp only [TZ];omega⟩
       rw [UU,UU,DC,h2];rfl
     ·
      rw [cW.eq_def] at hk
      simp [hd] at hk
      subst hk
      exact ⟨rfl,[],rfl,TQ _⟩
   ·
    rw [lO hc] at hk
    cases hk' :cW r with
    |none=>rw [hk'] at hk;cases hk
    |some j=>
     rw [hk'] at hk
     cases hk
     obtain ⟨h1,t,h2,h3⟩:=ih r j (by omega) hk'
     refine ⟨h1,c::t,?_,by simp only [TZ];omega⟩
     rw [UU,tX hc,h2];rfl
theorem MG {r:List Int} (hp:(34::r).all (fun c=>bS c)=true) (hl:r.length≤256):oP (34::r)=(lu r).map fun x=>(⟨2,0,mkB x.1,aS,0⟩,x.2+1):=by
 unfold oP
 rw [DN r.length r (TQ _)]
 simp only [U5,ne_eq,not_true,if_false,Ws,UZ]
 cases hk:cW r with
 |none=>rfl
 |some k=>
  obtain ⟨h1,t,h2,h3⟩:=LD r.length r k (TQ _) hk
  obtain ⟨hkl,h1⟩:=TV.1 h1
  have e1:(34::r).take (k+2)=34::r.take (k+1):=rfl
  have e2:r.take (k+1)=r.take k++ [34]:=by rw [TP hkl,h1]
  have hall:(34::r.take (k+1)).all (fun c=>bS c)=true:=by
   rw [← e1]
   rw [UT] at hp ⊢
   exact fun x hx=>hp x (U1 hx)
  have e3:gT (34::r.take (k+1))=(t,0):=by
   unfold gT
   rw [hall]
   rw [if_neg (by rw [e2];simp [List.getLast?_cons])]
   have:((34::r.take (k+1)).drop 1).dropLast=r.take k:=by rw [Ws,UZ,e2,Wp]
   rw [this,h2]
   simp only
   rw [if_neg (by omega)]
  simp only [e1,e3,Option.bind_some,h2,UH]
  simp
theorem MB (l:List Int):upW l=(l.take (aG dh l)).map upC:=rfl
theorem Tt (l:List Int):cL (upW l)=cL (l.take (aG dh l)):=by rw [MB,Oz]
def jY (l:List Int):Option (Tk × Nat):=match lN l with
 |some x=>some x
 |none=>iZ l
theorem yG {l:List Int} (h:l.headD 0≠35): ∀ (ns:List (List Int)) (k:Int),(∀ s∈ns,s.head? =some 35)→lc l ns k=none
 | [],_,_=>rfl
 |s::r,k,hs=>by
  have h1:=hs s TI
  rw [lc,if_neg,yG h r _ fun s hs' =>hs s (TM _ hs')]
  intro e
  cases s with
  |nil=>cases h1
  |cons a s=>
   cases h1
   cases l with
   |nil=>cases e
   |cons c l=>
    simp only [TZ,UU,Ud,List.cons.injEq] at e
    simp only [U5] at h
    have:=e.1
    simp only [upC] at this
    split at this<;>omega
theorem nW {l:List Int} (h:l.headD 0≠35):lN l=none:=by
 unfold lN
 rw [yG h eD 1 (by decide)]
 rfl
def sZ:List Int:= [60,62,43,45,42,47,94,38,61,37]
theorem xV {l:List Int} (h:l.headD 0∉sZ): ∀ ns:List (List Int × Int),(∀ s∈ns,∃ c,s.1.head? =some c∧c∈sZ)→opL l ns=none
 | [],_=>rfl
 |(s,k)::r,hs=>by
  obtain ⟨a,h1,h2⟩:=hs (s,k) TI
  rw [opL,if_neg,xV h r fun s hs' =>hs s (TM _ hs')]
  intro e
  cases s with
  |nil=>cases h1
  |cons b s=>
   cases h1
   cases l with
   |nil=>cases e
   |cons c l=>
    simp only [TZ,UU,List.cons.injEq] at e
    simp only [U5] at h
    exact h (e.1 ▸ h2)
theorem rk {l:List Int} (h:l.headD 0∉sZ) (h1:l.headD 0≠40) (h2:l.headD 0≠41) (h3:l.headD 0≠44):iZ l=none:=by
 unfold iZ
 rw [xV h fN (by decide)]
 simp only [h1,h2,h3,if_false]
theorem Ch {l:List Int} (h:aJ (l.headD 0)=false):gG l=none:=by
 unfold gG
 have:aG aJ l=0:=by
  cases l with
  |nil=>rfl
  |cons c r=>simp only [U5] at h;simp [aG,h]
 simp [this]
theorem xp {l:List Int} (h:l.headD 0≠34):oP l=none:=by
 unfold oP
 rw [if_pos h]
theorem qX {l:List Int} (h:cy (l.headD 0)=false):iI l=none:=by
 unfold iI
 rw [if_pos h]
def bO (l:List Int):Option (Tk × Nat):=
 if aJ (l.headD 0) then (lJ l).map fun x=>(⟨1,x.1,az,aS,0⟩,x.2)
 else if l.headD 0=34 then (lu l.tail).map fun x=>(⟨2,0,mkB x.1,aS,0⟩,x.2+1)
 else if cy (l.headD 0) then iI l
 else jY l
theorem vq (c:Int):c∈sZ↔c=60∨c=62∨c=43∨c=45∨c=42∨c=47∨c=94∨c=38∨c=61∨c=37:=by simp [sZ]
theorem Ko {l:List Int} (hp:l.all (fun c=>bS c)=true) (hl:l.length≤256):dG l=bO l:=by
 have hF:dG l=match gG l with
  |some x=>some x
  |none=>match oP l with
   |some x=>some x
   |none=>match iI l with
    |some x=>some x
    |none=>jY l:=by
  unfold dG oT nV jY
  cases gG l<;>simp only [nV]
  cases oP l<;>simp only
  cases iI l<;>simp only
  cases lN l<;>simp only
  cases iZ l<;>rfl
 rw [hF]
 unfold bO
 by_cases h1:aJ (l.headD 0)=true
 ·
  have h1' :=(fI _).1 h1
  rw [if_pos h1,← xX,xp (by omega),qX ((PO _).2 (by omega)),jY,nW (by omega),rk (by rw [vq];omega) (by omega) (by omega) (by omega)]
  cases gG l<;>rfl
 ·
  rw [if_neg h1]
  have h1' :aJ (l.headD 0)=false:=by simpa using h1
  rw [Ch h1']
  by_cases h2:l.headD 0=34
  ·
   rw [if_pos h2]
   cases l with
   |nil=>cases h2
   |cons c r=>
    simp only [U5] at h2
    subst h2
    rw [MG hp (by simp only [TZ] at hl;omega),List.tail_cons,qX (by rw [U5];decide),jY,nW (by rw [U5];decide),rk (by rw [U5];decide) (by rw [U5];decide) (by rw [U5];decide) (by rw [U5];decide)]
    cases lu r<;>rfl
  ·
   rw [if_neg h2,xp h2]
   by_cases h3:cy (l.headD 0)=true
   ·
    have h3' :=(iP _).1 h3
    rw [if_pos h3,jY,nW (by omega),rk (by rw [vq];omega) (by omega) (by omega) (by omega)]
    cases iI l<;>rfl
   ·
    rw [if_neg h3,qX (by simpa using h3)]
theorem GF {l:List Int} (hp:l.all (fun c=>bS c)=true) (hl:l.length≤256): ∀ f i,bA dG l f i=bA bO l f i:=by
 intro f
 induction f with
 |zero=>intro i;rfl
 |succ f ih=>
  intro i
  simp only [bA]
  have h1:(l.drop i).all (fun c=>bS c)=true:=by
   rw [UT] at hp ⊢
   exact fun x hx=>hp x (VF hx)
  rw [Ko h1 (by rw [Ug];omega)]
  simp only [ih]
theorem GD (l:List Int):bH dG l=bH bO l:=by
 unfold bH
 split
 ·
  rfl
 ·
  rename_i hl
  cases h:l.findIdx? (fun c=> !bS c) with
  |some i=>rfl
  |none=>
   simp only
   rw [GF _ (by omega)]
   rw [VQ] at h
   rw [UT]
   intro x hx
   have:=h x hx
   simpa using this
def Chain:List Tk→Prop
 | []=>True
 |t::r=>(1≤t.kind∧t.kind≤11)∧(t.kind=7→(r.headD dB).kind=9)∧Chain r
theorem Iv {l:List Int} {t:Tk} {n:Nat} (h:lN l=some (t,n)):t.kind=4:=by
 unfold lN at h
 obtain ⟨x,_,hx⟩:=UL.1 h
 cases hx;rfl
theorem GS {l:List Int} {t:Tk} {n:Nat} (h:iZ l=some (t,n)):8≤t.kind∧t.kind≤11:=by
 unfold iZ at h
 split at h
 ·
  cases h;simp
 ·
  split at h
  ·
   cases h;simp
  ·
   split at h
   ·
    cases h;simp
   ·
    split at h
    ·
     cases h;simp
    ·
     cases h
theorem GR {l:List Int} {t:Tk} {n:Nat} (h:jY l=some (t,n)):(1≤t.kind∧t.kind≤11)∧t.kind≠7:=by
 unfold jY at h
 split at h
 ·
  rename_i x hx
  cases h
  have:=Iv hx
  omega
 ·
  have:=GS h
  omega
theorem F8 {l:List Int} {t:Tk} {n:Nat} (h:iI l=some (t,n)):(1≤t.kind∧t.kind≤11)∧(t.kind=7→(l.drop n).headD 0=40):=by
 unfold iI at h
 split at h
 ·
  cases h
 ·
  split at h
  ·
   rename_i h1
   cases h
   exact ⟨by simp,fun _=>h1⟩
  ·
   split at h
   ·
    cases h;simp
   ·
    split at h
    ·
     cases h;simp
    ·
     split at h
     ·
      cases h
     ·
      split at h
      ·
       cases h
       simp only
       split<;>simp
      ·
       cases h;simp
theorem DL {l:List Int} {t:Tk} {n:Nat} (h:bO l=some (t,n)):(1≤t.kind∧t.kind≤11)∧(t.kind=7→(l.drop n).headD 0=40):=by
 unfold bO at h
 split at h
 ·
  obtain ⟨x,_,hx⟩:=UL.1 h
  cases hx;simp
 ·
  split at h
  ·
   obtain ⟨x,_,hx⟩:=UL.1 h
   cases hx;simp
  ·
   split at h
   ·
    exact F8 h
   ·
    have:=GR h
    exact ⟨this.1,fun e=>absurd e this.2⟩
theorem oO (l:List Int):Fits l (bO l):=by
 intro t n h
 by_cases hd:aJ (l.headD 0)=true
 ·
  unfold bO at h
  rw [if_pos hd,← xX] at h
  exact vu l t n h
 ·
  unfold bO at h
  rw [if_neg hd] at h
  split at h
  ·
   rename_i hq
   cases l with
   |nil=>cases hq
   |cons c r=>
    obtain ⟨⟨x,m⟩,hx,he⟩:=UL.1 h
    cases he
    rw [List.tail_cons,DN r.length r (TQ _)] at hx
    obtain ⟨k,hk,hk2⟩:=Option.bind_eq_some_iff.1 hx
    obtain ⟨y,_,hy⟩:=UL.1 hk2
    cases hy
    have:=qq r.length r k (TQ _) hk
    simp only [TZ]
    omega
  ·
   split at h
   ·
    exact zA l t n h
   ·
    unfold jY at h
    split at h
    ·
     rename_i x hx
     cases h
     exact AY l t n hx
    ·
     exact z7 l t n h
theorem DK {l:List Int} (h:l.headD 0=40): ∃ n,bO l=some (⟨9,0,az,aS,0⟩,n):=by
 unfold bO
 rw [h,if_neg (by decide),if_neg (by decide),if_neg (by decide),jY,nW (by omega)]
 simp only
 unfold iZ
 rw [xV (by rw [h];decide) fN (by decide)]
 simp only [h,if_true]
 exact ⟨1,rfl⟩
theorem BL {l:List Int} {f i:Nat} {r:List Tk} (h:bA bO l (f+1) i= .ok r) (h1:(l.drop i).headD 0=40):(r.headD dB).kind=9:=by
 simp only [bA] at h
 cases hd:l.drop i with
 |nil=>rw [hd] at h1;cases h1
 |cons c q=>
  rw [hd] at h1 h
  simp only [U5] at h1
  subst h1
  obtain ⟨n,hn⟩:=DK (l:=40::q) rfl
  simp only [hn] at h
  rw [if_neg (by decide)] at h
  cases hr:bA bO l f (i+n) with
  |error e=>rw [hr] at h;cases h
  |ok r' =>rw [hr] at h;cases h;rfl
theorem zf {l:List Int}: ∀ (f i:Nat) (r:List Tk),l.length - i≤f→bA bO l f i= .ok r→Chain r:=by
 intro f
 induction f with
 |zero=>intro i r _ h;cases h;trivial
 |succ f ih=>
  intro i r hf h
  simp only [bA] at h
  cases hd:l.drop i with
  |nil=>rw [hd] at h;cases h;trivial
  |cons c q=>
   rw [hd] at h
   have hlen:(l.drop i).length=q.length+1:=by rw [hd];rfl
   rw [Ug] at hlen
   simp only at h
   split at h
   ·
    exact ih (i+1) r (by omega) h
   ·
    cases ht:bO (c::q) with
    |none=>rw [ht] at h;cases h
    |some x=>
     obtain ⟨t,n⟩:=x
     rw [ht] at h
     simp only at h
     have hfit:=oO _ t n ht
     cases hr:bA bO l f (i+n) with
     |error e=>rw [hr] at h;cases h
     |ok r' =>
      rw [hr] at h
      cases h
      have hk:=DL ht
      refine ⟨hk.1,fun h7=> ?_,ih (i+n) r' (by omega) hr⟩
      have h40:=hk.2 h7
      rw [← hd,U0] at h40
      cases f with
      |zero=>
       have:l.drop (i+n)= []:=by rw [List.drop_eq_nil_iff];omega
       rw [this] at h40;cases h40
      |succ f=>exact BL hr h40
theorem ze (l:List Int):Chain (bH bO l).1:=by
 unfold bH
 split
 ·
  trivial
 ·
  split
  ·
   trivial
  ·
   split
   ·
    rename_i r hr
    exact zf _ _ _ (by omega) hr
   ·
    trivial
theorem Chain.drop: ∀ {l:List Tk} (k:Nat),Chain l→Chain (l.drop k)
 |l,0,h=>h
 | [],k+1,h=>h
 |_::_,k+1,h=>Chain.drop k h.2.2
theorem Chain.name {l:List Tk} {fin:Int} (h:Chain l) (h7:(hdT fin l).kind=7):(hdT fin l.tail).kind=9:=by
 cases l with
 |nil=>cases h7
 |cons t r=>
  have h9:=h.2.1 h7
  cases r with
  |nil=>cases h9
  |cons u r=>exact h9
theorem Chain.kind {l:List Tk} {fin:Int} (h:Chain l):(hdT fin l).kind=0↔l= []:=by
 cases l with
 |nil=>exact ⟨fun _=>rfl,fun _=>rfl⟩
 |cons t r=>
  have:=h.1
  constructor
  ·
   intro e
   simp only [hdT,U5] at e
   omega
  ·
   intro e;cases e
end Go.SL
