/-
  Lemmas and walks, put together: D12 E2 K1 Lq Lr Q1.
-/
import Derived.ChangeKeysEq
import Derived.Test.YtlnecnbfmnfigaaGreatDoorKu18
set_option linter.unusedSimpArgs false
set_option linter.unusedVariables false
set_option maxRecDepth 20000
namespace Go.SL
open Go Go.Proofs
attribute [local irreducible] W WL WQ WG WA WX WLI WR WT WC VOp RW thn blk bZ scp bA bV ck FnAt FnIn FnP ceP
structure Et where
 at_:Rf
 input:ByteArray
def pu (e:Et):List Value:= [.int .i64 e.at_.col,.int .i64 e.at_.row,.string e.input]
theorem j5 (e:Et):(pu e).length=3:=rfl
def jV (b:Option Rf) (e:Et):Int:=if e.at_.valid=false then 3 else if (match b with|some p=>bp p e.at_|none=>true)=false then 12 else if e.input=ay then 2 else (ofP e.input).2.2
def eX:Nat→Option Rf→List Et→Int × Int
 |_,_,[]=>(0,0)
 |i,b,e::r=>if jV b e≠0 then ((i:Int),jV b e) else eX (i+1) (some e.at_) r
def gJ (L:List Et):Int × Int:=eX 0 none L
def jC (L:List Et) (i:Nat):Option Rf:=if i=0 then none else (L[i - 1]?).map Et.at_
set_option maxHeartbeats 2000000 in
theorem xw (L:List Et) (tv:Value) (w:World) (ht:Reads w tv L.length (L.flatMap pu)) (hlen:L.length≤1000000) (hW:Words w):
    aF Tryz.prog 96 [tv] w (.tuple #[.int .i64 (gJ L).1,.int .i64 (gJ L).2]):=by
  obtain ⟨Al,cl,rfl,hl1,hl2,hl3⟩:=ht
  refine aA Tryz.func96 rfl Tryz.ntmps96 rfl ?_
  repeat' (first|refine sT ?_|refine sS ?_|refine sM fun _=> ?_|(refine sC ?_ ?_<;>intro hb<;>try omega)|fail)
  refine ax [0,2,3,9,10] rfl (fun i:Nat=> [(11,.int .i64 (i:Int))]) (fun _=> []) (fun i=>i≤L.length∧gJ L=eX i (jC L i) (L.drop i)) (fun i=>L.length - i) 0 ⟨by omega,rfl⟩ sB (.refl _) ?_
  rintro i ⟨hi,hck⟩
  by_cases hlt:i<L.length
  · obtain ⟨gl,ol,rfl,hrl⟩:=hl3 (by omega)
    have he:=hrl.elem j5 i hlt
    have hprev: ∀ h:0<i,Ro w gl (ol+(i - 1)*3) (pu L[i - 1]):=fun h=>hrl.elem j5 (i - 1) (by omega)
    have hbef: ∀ h:0<i,jC L i=some L[i - 1].at_:=fun h=>by unfold jC;rw [if_neg (by omega),O5 (by omega)];rfl
    have hbef0:i=0→jC L i=none:=fun h=>by unfold jC;rw [if_pos h]
    have hnext:jC L (i+1)=some L[i].at_:=by unfold jC;rw [if_neg (by omega),Sd,O5 hlt];rfl
    rw [Pf hlt,eX,← hnext] at hck
    generalize L[i]=e at he hck
    have hV: ∀ w',aF Tryz.prog 93 [.agg (aw e.at_).toArray] w' (.bool e.at_.valid):=fun w' =>lQ e.at_.col e.at_.row w'
    have hO:=fun (w' :World) (H' :List Blk) (hm:Mem w w' H')=>MR e.input w' (hW.next hm)
    by_cases h0:0<i
    · have hp:=hprev h0
      rw [hbef h0] at hck
      generalize L[i - 1]=b at hp hck
      have hL:=fun w' =>MC b.at_ e.at_ w'
      unfold jV at hck
      simp only at hck
      have hofV: ∀ (A:Option Nat) (cap:Nat),ofV A cap (ofP e.input)= .tuple #[.agg (z7 (ofP e.input).1 (sl A (ofP e.input).1.tree.length cap)).toArray,.int .i64 (ofP e.input).2.1,.int .i64 (ofP e.input).2.2]:=fun _ _=>rfl
      simp only [hofV] at hO
      generalize ofP e.input=o at hO hck
      obtain ⟨⟨f1,f2,f3⟩,oa,oe⟩:=o
      simp only [z7] at hO
      simp only at hck
      generalize e.at_.valid=vd at hV hck
      generalize bp b.at_ e.at_=ls at hL hck
      repeat' (first|(apply aj (d:=14);exact rfl;apply ag;exact rfl;exact rfl;exact hlt)|(apply aj (d:=15);exact rfl;apply aZ;exact rfl;exact he;exact rfl)|(apply ep (d:=29);(iterate 3 exact rfl);apply cI (o:=ol+(i - 1)*3) (off:=0) hp (ys:=aw b.at_);(iterate 3 exact rfl))|(apply aa;exact rfl;exact rfl;(intro w hm;exact hV w))|(apply (kg (id:=6) [11] []);kernel_rfl;kernel_rfl;kernel_rfl)|(apply ep;(iterate 3 exact rfl);apply ag (j:=i - 1);exact rfl;exact rfl;omega)|(apply aa (f:=133);exact rfl;exact rfl;(intro w' hm;exact hL w'))|(apply aS (f:=110);exact rfl;exact rfl;(intro w' hm;exact hO w' _ hm);rintro _ _ ⟨A,cap,rfl,rfl⟩)|refine sT ?_|refine sS ?_|refine sW ?_|refine sN ?_|refine sWN ?_|refine sM fun _=> ?_|(refine sC ?_ ?_<;>intro hb<;>try omega)|(refine sCW ?_ ?_<;>intro hb<;>try omega)|fail)
      all_goals clear hofV
      all_goals first
        |(refine cN eIO rfl rfl rfl (.nil _) ?_;rw [hck];simp_all [ay];done)
        | (refine ⟨i + 1, ⟨hlt, ?_⟩, by omega, ?_, ?_, .nil _⟩
           · rw [hck];simp_all [ay]
           · exact sB
           · exact sB)
    · have h00:i=0:=by omega
      rw [hbef0 h00] at hck
      unfold jV at hck
      simp only at hck
      have hofV: ∀ (A:Option Nat) (cap:Nat),ofV A cap (ofP e.input)= .tuple #[.agg (z7 (ofP e.input).1 (sl A (ofP e.input).1.tree.length cap)).toArray,.int .i64 (ofP e.input).2.1,.int .i64 (ofP e.input).2.2]:=fun _ _=>rfl
      simp only [hofV] at hO
      generalize ofP e.input=o at hO hck
      obtain ⟨⟨f1,f2,f3⟩,oa,oe⟩:=o
      simp only [z7] at hO
      simp only at hck
      generalize e.at_.valid=vd at hV hck
      repeat' (first|(apply aj (d:=14);exact rfl;apply ag;exact rfl;exact rfl;exact hlt)|(apply aj (d:=15);exact rfl;apply aZ;exact rfl;exact he;exact rfl)|(apply aa;exact rfl;exact rfl;(intro w hm;exact hV w))|(apply (kg (id:=6) [11] []);kernel_rfl;kernel_rfl;kernel_rfl)|(apply aS (f:=110);exact rfl;exact rfl;(intro w' hm;exact hO w' _ hm);rintro _ _ ⟨A,cap,rfl,rfl⟩)|refine sT ?_|refine sS ?_|refine sW ?_|refine sN ?_|refine sWN ?_|refine sM fun _=> ?_|(refine sC ?_ ?_<;>intro hb<;>try omega)|(refine sCW ?_ ?_<;>intro hb<;>try omega)|fail)
      all_goals clear hofV
      all_goals first
        |(refine cN eIO rfl rfl rfl (.nil _) ?_;rw [hck];simp_all [ay];done)
        | (refine ⟨i + 1, ⟨hlt, ?_⟩, by omega, ?_, ?_, .nil _⟩
           · rw [hck];simp_all [ay]
           · exact sB
           · exact sB)
  · have e2:i=L.length:=by omega
    subst e2
    rw [PT,eX] at hck
    repeat' (first|refine sT ?_|refine sS ?_|refine sM fun _=> ?_|(refine sC ?_ ?_<;>intro hb<;>try omega)|fail)
    all_goals (refine cN eIO rfl rfl rfl (.nil _) ?_;rw [hck])
def xv:Gr→List Et→Option Gr × Int
 |G,[]=>(some G,0)
 |G,e::r=>if (fX G e.at_ e.input).2≠0 then (none,(fX G e.at_ e.input).2) else xv (fX G e.at_ e.input).1 r
def Cm (L:List Et):Option Gr × Int:=if (gJ L).2≠0 then (none,(gJ L).2) else xv [] L
def O1 (r:Option Gr × Int) (v:Value) (H:List Blk):Prop:=match r with
 |(none,e)=>v= .tuple #[.pointer none,.int .i64 e]∧H= []
 |(some G,_)=> ∃ gg gm E clock R,v= .tuple #[.pointer (some ⟨gg,0,none⟩),.int .i64 0]∧H=gB gg gm (E.map En.m) clock++R∧GOk R E clock G
set_option maxHeartbeats 2000000 in
theorem KI (L:List Et) (tv:Value) (w:World) (ht:Reads w tv L.length (L.flatMap pu)) (hlen:L.length≤1000000) (hW:Words w):
  FnAt Tryz.prog 34 [tv] w (O1 (Cm L)):=by
 have hC:=fun (w' :World) (H:List Blk) (hm:Mem w w' H)=>xw L tv w' (ht.of_w0 hm) hlen (hW.next hm)
 obtain ⟨Al,cl,rfl,hl1,hl2,hl3⟩:=ht
 refine aA Tryz.func34 rfl Tryz.ntmps34 rfl ?_
 unfold Cm
 generalize gJ L=c at hC
 obtain ⟨ci,ce⟩:=c
 dsimp only at hC ⊢
 by_cases hce:ce≠0
 ·
  rw [if_pos hce]
  repeat' (first|(apply aa (f:=96);exact rfl;exact rfl;(intro w' hm;exact hC w' _ hm))|refine sT ?_|refine sS ?_|refine sM fun _=> ?_|(refine sC ?_ ?_<;>intro hb<;>try omega)|fail)
  all_goals exact cN eIO rfl rfl rfl (.nil _) ⟨rfl,rfl⟩
 rw [if_neg hce]
 have hce0:ce=0:=by omega
 subst hce0
 repeat' (first|(apply aa (f:=96);exact rfl;exact rfl;(intro w' hm;exact hC w' _ hm))|(apply j9 (enc:=aO);exact rfl;intro gm)|refine sT ?_|refine sS ?_|refine sM fun _=> ?_|(refine sC ?_ ?_<;>intro hb<;>try omega)|fail)
 rename_i gg
 refine ax [6,21,22] rfl (fun x:Nat × List En × Nat × Gr × List Blk=> [(23,.int .i64 (x.1:Int))]) (fun x=>gB gg gm (x.2.1.map En.m) x.2.2.1++x.2.2.2.2) (fun x=>x.1≤L.length∧GOk x.2.2.2.2 x.2.1 x.2.2.1 x.2.2.2.1∧xv [] L=xv x.2.2.2.1 (L.drop x.1)) (fun x=>L.length - x.1) (0,[],0,[],[]) ⟨by simp,L5 [],rfl⟩ sB (by unfold gB;exact mS) ?_
 rintro ⟨i,E,clock,G,R⟩ ⟨hi,hG,hnew⟩
 dsimp only at hi hG hnew ⊢
 by_cases hlt:i<L.length
 ·
  obtain ⟨gl,ol,rfl,hrl⟩:=hl3 (by omega)
  have he:=hrl.elem j5 i hlt
  rw [Pf hlt,xv] at hnew
  generalize L[i]=e at he hnew
  have hS:=NN gg gm clock E G e.at_ e.input R w hG hW
  generalize fX G e.at_ e.input=sg at hS hnew
  obtain ⟨G',se⟩:=sg
  dsimp only at hS hnew
  repeat' (first|(apply aj (d:=25);exact rfl;apply ag;exact rfl;exact rfl;exact hlt)|(apply aj (d:=26);exact rfl;apply aZ;exact rfl;exact he;exact rfl)|(apply ak (f:=47);exact rfl;exact rfl;exact FnIn.msub hS (by unfold gB;exact mS);rintro _ _ ⟨rfl,E',clock',R',rfl,hsub,hG'⟩)|refine sT ?_|refine sS ?_|refine sN ?_|refine sM fun _=> ?_|(refine sC ?_ ?_<;>intro hb<;>try omega)|fail)
  ·
   rw [hnew,if_pos (by assumption)]
   exact cN eIO rfl rfl rfl (.nil _) ⟨rfl,rfl⟩
  ·
   rw [if_neg (by assumption)] at hnew
   refine ⟨(i+1,E',clock',G',R'),⟨hlt,hG',hnew⟩,(by dsimp only;omega),sB,sB,?_⟩
   unfold gB
   exact mS
 ·
  have e2:i=L.length:=by omega
  subst e2
  rw [PT,xv] at hnew
  rw [hnew]
  repeat' (first|refine sT ?_|refine sS ?_|refine sM fun _=> ?_|(refine sC ?_ ?_<;>intro hb<;>try omega)|fail)
  all_goals exact cN eIO rfl rfl rfl (MSub.refl _) ⟨gg,gm,E,clock,R,rfl,rfl,hG⟩
end Go.SL
namespace Go.SL
open Go Go.Proofs
theorem Jy (w:World) (d:Nat) (a b:Rf × Rf):(Op.equalIn (d+5) 151 (.agg (dm a).toArray) (.agg (dm b).toArray)).run Tryz.prog w= .ok (eqF a.1 b.1 && eqF a.2 b.2) w:=by
 obtain ⟨i,h1,h2⟩:=(inferInstance:Size Tryz.prog 24 2).out
 have hc:Tryz.prog.cellsOf 24=2:=by kernel_rfl
 rw [run_equalIn_array w (d+4) (dm a).toArray (dm b).toArray Tryz.underlying151 h1,hc,show List.range 2= [0,1] from rfl]
 have hr: ∀ (a b:Rf) w,(Op.equalIn (d+4) 24 (.agg #[.int .i64 a.col,.int .i64 a.row]) (.agg #[.int .i64 b.col,.int .i64 b.row])).run Tryz.prog w= .ok (eqF a b) w:=fun a b w=>tX w (d+1) a b
 have hpa: ∀ (c:Rf × Rf) w,(part 24 (dm c).toArray 0).run Tryz.prog w= .ok (.agg #[.int .i64 c.1.col,.int .i64 c.1.row]) w:=by
  intro c w
  simp [part,go_sem,dm]
 have hpb: ∀ (c:Rf × Rf) w,(part 24 (dm c).toArray 2).run Tryz.prog w= .ok (.agg #[.int .i64 c.2.col,.int .i64 c.2.row]) w:=by
  intro c w
  simp [part,go_sem,dm]
 by_cases h1:eqF a.1 b.1=true<;>by_cases h2:eqF a.2 b.2=true<;>simp [Op.eqItems,hpa,hpb,hr,h1,h2]
theorem Kj (a b:Rf × Rf):(eqF a.1 b.1 && eqF a.2 b.2)=decide (a=b):=by
 rw [oP,oP,PN]
 obtain ⟨a1,a2⟩:=a
 obtain ⟨b1,b2⟩:=b
 simp
section
variable {w0:World} {s:aB} {H:List Blk} {ty t' :TypeId} {x y:Operand}
theorem Le {a b:Rf × Rf} (hx:ev s x=some (.agg (dm a).toArray)) (hy:ev s y=some (.agg (dm b).toArray)):VOp Tryz.prog w0 s H (.binOp .neq 151 x y t') ty (.bool (!decide (a=b))):=fun ρ w _ _ _ _ hρ _=>by
 have h:=Jy w 9995 a b
 rw [Kj] at h
 simp only [Nat.reduceAdd] at h
 simp only [execOp,hρ x _ hx,hρ y _ hy,Sem.run_bind,run_eqGuard_agg w _ _ _ _ _ _ Tryz.eqGuardType151,Result.andThen_ok,run_neq_struct,h,Sem.run_pure]
end
end Go.SL
namespace Go.SL
open Go Go.Proofs
attribute [local irreducible] W WL WQ WG WA WX WLI WR WT WC VOp RW thn blk bZ scp bA bV ck FnAt FnIn FnP ceP
theorem AG (L M:List Rf) (lv mv:Value) (w:World) (hl:Reads w lv L.length (L.flatMap aw)) (hm:Reads w mv M.length (M.flatMap aw)):
  aF Tryz.prog 13 [lv,mv] w (.bool (decide (L=M))):=by
 obtain ⟨Al,cl,rfl,hl1,hl2,hl3⟩:=hl
 obtain ⟨Am,cm,rfl,hm1,hm2,hm3⟩:=hm
 refine aA Tryz.func13 rfl Tryz.ntmps13 rfl ?_
 by_cases hlen:L.length=M.length
 ·
  repeat' (first|refine sT ?_|refine sS ?_|refine sM fun _=> ?_|(refine sC ?_ ?_<;>intro hb<;>try omega)|fail)
  refine eH (fun i:Nat=> [(0,.slice Al L.length cl),(1,.slice Am M.length cm),(5,.int .i64 (i:Int))]) (fun _=> []) (fun i=>i≤L.length∧decide (L=M)=decide (L.drop i=M.drop i)) (fun i=>L.length - i) 0 ⟨by omega,rfl⟩ ?_ ?_ ?_
  ·
   exact sB
  ·
   exact mS
  ·
   rintro i ⟨hi,hrec⟩
   by_cases hlt:i<L.length
   ·
    have hlt2:i<M.length:=by omega
    obtain ⟨gl,ol,rfl,hrl⟩:=hl3 (by omega)
    obtain ⟨gm,om,rfl,hrm⟩:=hm3 (by omega)
    have he1:=hrl.elem dO i hlt
    have he2:=hrm.elem dO i hlt2
    rw [qQ hlt hlt2,← oP] at hrec
    repeat' (first|(apply aP;exact rfl;apply ag;exact rfl;exact rfl;(first|exact hlt|exact hlt2))|(apply aP;exact rfl;apply aZ;exact rfl;(first|exact he1|exact he2);exact rfl)|(apply aP;exact rfl;apply Ja;exact rfl;exact rfl)|(apply aj;exact rfl;apply gI;exact rfl;exact rfl;(simp only [maxLen] at*;omega))|refine sT ?_|refine sS ?_|refine sQ ?_|refine sD ?_|refine sM fun _=> ?_|(refine sC ?_ ?_<;>intro hb<;>try omega)|(refine sCQ ?_ ?_<;>intro hb<;>try omega)|fail)
    ·
     (refine rT1 ?_)
     rw [hrec]
     simp_all
    ·
     refine ⟨i+1,⟨by omega,?_⟩,by omega,?_,?_⟩
     ·
      rw [hrec]
      simp_all
     ·
      exact sB
     ·
      exact mS
   ·
    have e:i=L.length:=by omega
    subst e
    repeat' (first|refine sT ?_|refine sS ?_|refine sM fun _=> ?_|(refine sC ?_ ?_<;>intro hb<;>try omega)|fail)
    (refine rT1 ?_)
    rw [hrec,PT,hlen,PT]
    rfl
 ·
  repeat' (first|refine sT ?_|refine sS ?_|refine sM fun _=> ?_|(refine sC ?_ ?_<;>intro hb<;>try omega)|fail)
  (refine rT1 ?_)
  rw [decide_eq_false]
  intro e
  exact hlen (congrArg List.length e)
theorem xC (L M:List (Rf × Rf)) (lv mv:Value) (w:World) (hl:Reads w lv L.length (L.flatMap dm)) (hm:Reads w mv M.length (M.flatMap dm)):
  aF Tryz.prog 79 [lv,mv] w (.bool (decide (L=M))):=by
 obtain ⟨Al,cl,rfl,hl1,hl2,hl3⟩:=hl
 obtain ⟨Am,cm,rfl,hm1,hm2,hm3⟩:=hm
 refine aA Tryz.func79 rfl Tryz.ntmps79 rfl ?_
 by_cases hlen:L.length=M.length
 ·
  repeat' (first|refine sT ?_|refine sS ?_|refine sM fun _=> ?_|(refine sC ?_ ?_<;>intro hb<;>try omega)|fail)
  refine eH (fun i:Nat=> [(0,.slice Al L.length cl),(1,.slice Am M.length cm),(5,.int .i64 (i:Int))]) (fun _=> []) (fun i=>i≤L.length∧decide (L=M)=decide (L.drop i=M.drop i)) (fun i=>L.length - i) 0 ⟨by omega,rfl⟩ ?_ ?_ ?_
  ·
   exact sB
  ·
   exact mS
  ·
   rintro i ⟨hi,hrec⟩
   by_cases hlt:i<L.length
   ·
    have hlt2:i<M.length:=by omega
    obtain ⟨gl,ol,rfl,hrl⟩:=hl3 (by omega)
    obtain ⟨gm,om,rfl,hrm⟩:=hm3 (by omega)
    have he1:=hrl.elem r9 i hlt
    have he2:=hrm.elem r9 i hlt2
    rw [qQ hlt hlt2] at hrec
    repeat' (first|(apply aP;exact rfl;apply ag;exact rfl;exact rfl;(first|exact hlt|exact hlt2))|(apply aP;exact rfl;apply aZ;exact rfl;(first|exact he1|exact he2);exact rfl)|(apply aP;exact rfl;apply Le;exact rfl;exact rfl)|(apply aj;exact rfl;apply gI;exact rfl;exact rfl;(simp only [maxLen] at*;omega))|refine sT ?_|refine sS ?_|refine sQ ?_|refine sD ?_|refine sM fun _=> ?_|(refine sC ?_ ?_<;>intro hb<;>try omega)|(refine sCQ ?_ ?_<;>intro hb<;>try omega)|fail)
    ·
     (refine rT1 ?_)
     rw [hrec]
     simp_all
    ·
     refine ⟨i+1,⟨by omega,?_⟩,by omega,?_,?_⟩
     ·
      rw [hrec]
      simp_all
     ·
      exact sB
     ·
      exact mS
   ·
    have e:i=L.length:=by omega
    subst e
    repeat' (first|refine sT ?_|refine sS ?_|refine sM fun _=> ?_|(refine sC ?_ ?_<;>intro hb<;>try omega)|fail)
    (refine rT1 ?_)
    rw [hrec,PT,hlen,PT]
    rfl
 ·
  repeat' (first|refine sT ?_|refine sS ?_|refine sM fun _=> ?_|(refine sC ?_ ?_<;>intro hb<;>try omega)|fail)
  (refine rT1 ?_)
  rw [decide_eq_false]
  intro e
  exact hlen (congrArg List.length e)
end Go.SL
namespace Go.SL
open Go
theorem eU (c:Int):aJ c=true↔48≤c∧c≤57:=by simp [aJ]
theorem iy (c:Int):cf c=true↔(65≤c∧c≤90)∨(97≤c∧c≤122):=by simp [cf]
theorem LV (c:Int):cf c=false↔ ¬ ((65≤c∧c≤90)∨(97≤c∧c≤122)):=by rw [← iy];simp
theorem CB (c:Int):cf (upC c)=cf c:=by
 rw [PN,iy,iy,upC]
 by_cases h:97≤c∧c≤122
 ·
  rw [if_pos h];omega
 ·
  rw [if_neg h]
theorem Km (c:Int):aJ (upC c)=aJ c:=by
 rw [PN,eU,eU,upC]
 by_cases h:97≤c∧c≤122
 ·
  rw [if_pos h];omega
 ·
  rw [if_neg h]
theorem Lj (c:Int):upC (upC c)=upC c:=by
 simp only [upC]
 split
 ·
  rw [if_neg (by omega)]
 ·
  rfl
theorem Ll {c:Int} (h:aJ c=true):upC c=c:=by
 simp only [aJ,Pm,decide_eq_true_eq] at h
 rw [upC,if_neg (by omega)]
theorem qm: ∀ l:List Int,(l.map upC).takeWhile cf=(l.takeWhile cf).map upC
 | []=>rfl
 |c::r=>by
  simp only [PB,List.takeWhile_cons,CB]
  split
  ·
   rw [qm r];rfl
  ·
   rfl
theorem qW: ∀ l:List Int,(l.map upC).dropWhile cf=(l.dropWhile cf).map upC
 | []=>rfl
 |c::r=>by
  simp only [PB,List.dropWhile_cons,CB]
  split
  ·
   rw [qW r]
  ·
   rfl
theorem s8: ∀ (l:List Int) (v:Int),bC (l.map upC) v=bC l v
 | [],_=>rfl
 |c::r,v=>by simp only [PB,bC,Lj,s8 r]
theorem Kx: ∀ l:List Int,(l.map upC).all aJ=l.all aJ
 | []=>rfl
 |c::r=>by simp only [PB,QN,Km,Kx r]
theorem vW: ∀ {l:List Int},l.all aJ=true→l.map upC=l
 | [],_=>rfl
 |c::r,h=>by
  simp only [QN,Pm] at h
  simp only [PB,Ll h.1,vW h.2]
theorem LY (l:List Int):((l.map upC).head? =some 48)↔(l.head? =some 48):=by
 cases l with
 |nil=>simp
 |cons c r=>
  simp only [PB,List.head?_cons,Option.some.injEq,upC]
  split<;>omega
theorem KA (l:List Int):cF (l.map upC)=cF l:=by
 unfold cF
 simp only [qm,qW,List.map_eq_nil_iff,LY,Kx,s8]
 split
 ·
  rfl
 ·
  rename_i h
  have hd:(l.dropWhile cf).all aJ=true:=by
   cases hh:(l.dropWhile cf).all aJ with
   |true=>rfl
   |false=>exact absurd (.inr (.inr (.inr hh))) h
  rw [vW hd]
theorem rN {p:Int→Bool}: ∀ {l:List Int} {n:Nat},n≤aI p l→aI p (l.take n)=n
 | [],n,h=>by simp [aI] at h;subst h;rfl
 |c::r,0,_=>rfl
 |c::r,n+1,h=>by
  simp only [aI] at h
  split at h
  ·
   rename_i hc
   simp only [Qp,aI,hc,if_true]
   rw [rN (by omega)]
  ·
   omega
theorem qu {p:Int→Bool}: ∀ {l:List Int} {n:Nat},aI p l≤n→aI p (l.take n)=aI p l
 | [],n,_=>by simp
 |c::r,0,h=>by
  simp only [aI] at h
  split at h
  ·
   omega
  ·
   rename_i hc;simp [aI,hc]
 |c::r,n+1,h=>by
  simp only [aI] at h ⊢
  simp only [Qp,aI]
  split at h
  ·
   rename_i hc;simp only [hc,if_true];rw [qu (by omega)]
  ·
   rename_i hc;simp [hc]
theorem nR {l:List Int} (h:cv l≠0): ∃ r,l=46::r∧cv l=aI aJ r:=by
 cases l with
 |nil=>exact absurd rfl h
 |cons c r=>
  by_cases hc:c=46
  ·
   subst hc;exact ⟨r,rfl,rfl⟩
  ·
   exact absurd (mK hc) h
theorem Db {l:List Int} {w p:Nat} (hw:aI aJ l=w) (hp:cv (l.drop w)=p) (h0:w≠0) (h4:p≤4):
  gR (l.take (if p=0 then w else w+1+p))=if cQ<bJ (l.take w++(l.drop (w+1)).take p++List.replicate (4 - p) 48) 0 then (0,3) else (bJ (l.take w++(l.drop (w+1)).take p++List.replicate (4 - p) 48) 0,0):=by
 have hwl:w≤l.length:=hw ▸ co aJ l
 obtain ⟨c,r,rfl⟩: ∃ c r,l=c::r:=by
  cases l with
  |nil=>simp [aI] at hw;omega
  |cons c r=>exact ⟨c,r,rfl⟩
 have hc:aJ c=true:=kw (c::r) 0 c (by omega) rfl
 have hc45:c≠45:=by simp only [aJ,Pm,decide_eq_true_eq] at hc;omega
 have hneg: ∀ n,0<n→decide (((c::r).take n).head? =some 45)=false:=by
  intro n hn
  cases n with
  |zero=>omega
  |succ n=>simp [hc45]
 by_cases hp0:p=0
 ·
  subst hp0
  rw [if_pos rfl]
  unfold gR
  have hrun:aI aJ ((c::r).take w)=w:=rN (by omega)
  have hdrop:((c::r).take w).drop w= []:=by rw [Sy,Pr];omega
  have htt:((c::r).take w).take w=(c::r).take w:=by rw [List.take_take,Nat.min_self]
  simp only [hneg w (by omega),PH,if_false,hrun,hdrop,htt]
  simp [h0]
 ·
  rw [if_neg hp0]
  obtain ⟨q,hq,hq2⟩:=nR (l:=(c::r).drop w) (by omega)
  have hpq:aI aJ q=p:=by omega
  have hpl:p≤q.length:=hpq ▸ co aJ q
  have hlen:(c::r).length=w+1+q.length:=by
   have:=congrArg List.length hq
   rw [Pp] at this
   simp only [Pe] at this ⊢
   omega
  have hd1:(c::r).drop (w+1)=q:=by
   rw [← Qy,hq];rfl
  have hrun:aI aJ ((c::r).take (w+1+p))=w:=by rw [qu (by omega)];exact hw
  have hdrop:((c::r).take (w+1+p)).drop w=46::q.take p:=by
   rw [List.drop_take,hq,show w+1+p - w=p+1 by omega];rfl
  have htt:((c::r).take (w+1+p)).take w=(c::r).take w:=by rw [List.take_take,QX (by omega)]
  have hrp:aI aJ (q.take p)=p:=rN (by omega)
  have hlp:(q.take p).length=p:=by rw [Pr];omega
  unfold gR
  simp only [hneg (w+1+p) (by omega),PH,if_false,hrun,hdrop,htt,List.tail_cons,hrp,hd1]
  have hfrac:(decide (1<(46::q.take p).length) && (decide ((46::q.take p).head? =some 46) && decide (p+1=(46::q.take p).length)))=true:=by
   simp only [Pe,hlp,List.head?_cons,decide_true,PZ,Qq]
   simp;omega
  simp only [hfrac,if_true]
  have h5:(q.take p++ [48,48,48,48,48]).getD 4 0=48:=by
   rw [PE,PQ (by omega),hlp]
   rcases (by omega:p=1∨p=2∨p=3∨p=4) with rfl|rfl|rfl|rfl<;>rfl
  have h6:(q.take p++ [48,48,48,48,48]).take 4=q.take p++List.replicate (4 - p) 48:=by
   rw [List.take_append,hlp,PM (by omega)]
   rcases (by omega:p=1∨p=2∨p=3∨p=4) with rfl|rfl|rfl|rfl<;>rfl
  rw [if_neg (by simp [h0])]
  simp only [h5,h6]
  rw [if_neg (show ¬ (53:Int)≤48 by decide),Int.add_zero,Pg]
theorem vN (l:List Int):fS l=(lj l).map fun x=>(⟨1,x.1,ay,aW,0⟩,x.2):=by
 unfold fS lj
 dsimp only
 split
 ·
  rfl
 ·
  rename_i h
  have h0:aI aJ l≠0:=fun e=>h (.inl e)
  have h4:cv (l.drop (aI aJ l))≤4:=by
   rcases Qm 4 (cv (l.drop (aI aJ l))) with h4|h4
   ·
    exact absurd (.inr h4) h
   ·
    exact h4
  rw [Db rfl rfl h0 h4]
  split
  ·
   rfl
  ·
   rfl
theorem Bm (m:List Int):lD (34::34::m)=(lD m).map (34:: ·):=by
 rw [lD.eq_def]
 simp
theorem Bv: ∀ (n:Nat) (l:List Int),l.length≤n→lc l=(cO l).bind fun k=>(lD (l.take k)).map fun t=>(t,k+1):=by
 intro n
 induction n with
 |zero=>intro l h;have:l= []:=Qk (by omega);subst this;rfl
 |succ n ih=>
  intro l h
  cases l with
  |nil=>rfl
  |cons c r=>
   simp only [Pe] at h
   by_cases hc:c=34
   ·
    subst hc
    cases r with
    |nil=>rfl
    |cons d r' =>
     simp only [Pe] at h
     by_cases hd:d=34
     ·
      subst hd
      rw [lc.eq_def,cO.eq_def]
      simp only [ne_eq,not_true,if_false,if_true]
      rw [ih r' (by omega)]
      cases hk:cO r' with
      |none=>rfl
      |some k=>
       simp only [Qb,Option.bind_some]
       rw [Qp,Qp,Bm]
       cases lD (r'.take k)<;>rfl
     ·
      rw [lc.eq_def,cO.eq_def]
      simp [hd,lD]
   ·
    rw [lc.eq_def,lu hc]
    simp only [ne_eq,hc,not_false_eq_true,if_true]
    rw [ih r (by omega)]
    cases hk:cO r with
    |none=>rfl
    |some k=>
     simp only [Qb,Option.bind_some]
     rw [Qp,rF hc]
     cases lD (r.take k)<;>rfl
theorem Io: ∀ (n:Nat) (l:List Int) (k:Nat),l.length≤n→cO l=some k→l[k]? =some 34∧ ∃ t,lD (l.take k)=some t∧t.length≤k:=by
 intro n
 induction n with
 |zero=>intro l k h hk;have:l= []:=Qk (by omega);subst this;cases hk
 |succ n ih=>
  intro l k h hk
  cases l with
  |nil=>cases hk
  |cons c r=>
   simp only [Pe] at h
   by_cases hc:c=34
   ·
    subst hc
    cases r with
    |nil=>cases hk;exact ⟨rfl,[],rfl,Ph _⟩
    |cons d r' =>
     simp only [Pe] at h
     by_cases hd:d=34
     ·
      subst hd
      rw [cO.eq_def] at hk
      simp only [ne_eq,not_true,if_false,if_true] at hk
      cases hk' :cO r' with
      |none=>rw [hk'] at hk;cases hk
      |some j=>
       rw [hk'] at hk
       cases hk
       obtain ⟨h1,t,h2,h3⟩:=ih r' j (by omega) hk'
       refine ⟨h1,34::t,?_,by simp only [Pe];omega⟩
       rw [Qp,Qp,Bm,h2];rfl
     ·
      rw [cO.eq_def] at hk
      simp [hd] at hk
      subst hk
      exact ⟨rfl,[],rfl,Ph _⟩
   ·
    rw [lu hc] at hk
    cases hk' :cO r with
    |none=>rw [hk'] at hk;cases hk
    |some j=>
     rw [hk'] at hk
     cases hk
     obtain ⟨h1,t,h2,h3⟩:=ih r j (by omega) hk'
     refine ⟨h1,c::t,?_,by simp only [Pe];omega⟩
     rw [Qp,rF hc,h2];rfl
theorem Jp {r:List Int} (hp:(34::r).all (fun c=>bL c)=true) (hl:r.length≤256):nG (34::r)=(lc r).map fun x=>(⟨2,0,mkB x.1,aW,0⟩,x.2+1):=by
 unfold nG
 rw [Bv r.length r (Ph _)]
 simp only [Qx,ne_eq,not_true,if_false,SD,Qt]
 cases hk:cO r with
 |none=>rfl
 |some k=>
  obtain ⟨h1,t,h2,h3⟩:=Io r.length r k (Ph _) hk
  obtain ⟨hkl,h1⟩:=Pk.1 h1
  have e1:(34::r).take (k+2)=34::r.take (k+1):=rfl
  have e2:r.take (k+1)=r.take k++ [34]:=by rw [Po hkl,h1]
  have hall:(34::r.take (k+1)).all (fun c=>bL c)=true:=by
   rw [← e1]
   rw [Qo] at hp ⊢
   exact fun x hx=>hp x (P2 hx)
  have e3:gj (34::r.take (k+1))=(t,0):=by
   unfold gj
   rw [hall]
   rw [if_neg (by rw [e2];simp [List.getLast?_cons])]
   have:((34::r.take (k+1)).drop 1).dropLast=r.take k:=by rw [SD,Qt,e2,List.dropLast_concat]
   rw [this,h2]
   simp only
   rw [if_neg (by omega)]
  simp only [e1,e3,Option.bind_some,h2,Qb]
  simp
theorem Jh (l:List Int):upW l=(l.take (aI da l)).map upC:=rfl
theorem OM (l:List Int):cF (upW l)=cF (l.take (aI da l)):=by rw [Jh,KA]
def jK (l:List Int):Option (Tk × Nat):=match lr l with
 |some x=>some x
 |none=>iK l
theorem wD {l:List Int} (h:l.headD 0≠35): ∀ (ns:List (List Int)) (k:Int),(∀ s∈ns,s.head? =some 35)→kN l ns k=none
 | [],_,_=>rfl
 |s::r,k,hs=>by
  have h1:=hs s O7
  rw [kN,if_neg,wD h r _ fun s hs' =>hs s (O9 _ hs')]
  intro e
  cases s with
  |nil=>cases h1
  |cons a s=>
   cases h1
   cases l with
   |nil=>cases e
   |cons c l=>
    simp only [Pe,Qp,PB,List.cons.injEq] at e
    simp only [Qx] at h
    have:=e.1
    simp only [upC] at this
    split at this<;>omega
theorem mX {l:List Int} (h:l.headD 0≠35):lr l=none:=by
 unfold lr
 rw [wD h ed 1 (by decide)]
 rfl
def qF:List Int:= [60,62,43,45,42,47,94,38,61,37]
theorem vL {l:List Int} (h:l.headD 0∉qF): ∀ ns:List (List Int × Int),(∀ s∈ns,∃ c,s.1.head? =some c∧c∈qF)→opL l ns=none
 | [],_=>rfl
 |(s,k)::r,hs=>by
  obtain ⟨a,h1,h2⟩:=hs (s,k) O7
  rw [opL,if_neg,vL h r fun s hs' =>hs s (O9 _ hs')]
  intro e
  cases s with
  |nil=>cases h1
  |cons b s=>
   cases h1
   cases l with
   |nil=>cases e
   |cons c l=>
    simp only [Pe,Qp,List.cons.injEq] at e
    simp only [Qx] at h
    exact h (e.1 ▸ h2)
theorem pL {l:List Int} (h:l.headD 0∉qF) (h1:l.headD 0≠40) (h2:l.headD 0≠41) (h3:l.headD 0≠44):iK l=none:=by
 unfold iK
 rw [vL h fk (by decide)]
 simp only [h1,h2,h3,if_false]
theorem zK {l:List Int} (h:aJ (l.headD 0)=false):fS l=none:=by
 unfold fS
 have:aI aJ l=0:=by
  cases l with
  |nil=>rfl
  |cons c r=>simp only [Qx] at h;simp [aI,h]
 simp [this]
theorem uV {l:List Int} (h:l.headD 0≠34):nG l=none:=by
 unfold nG
 rw [if_pos h]
theorem pE {l:List Int} (h:cf (l.headD 0)=false):ib l=none:=by
 unfold ib
 rw [if_pos h]
def bH (l:List Int):Option (Tk × Nat):=
 if aJ (l.headD 0) then (lj l).map fun x=>(⟨1,x.1,ay,aW,0⟩,x.2)
 else if l.headD 0=34 then (lc l.tail).map fun x=>(⟨2,0,mkB x.1,aW,0⟩,x.2+1)
 else if cf (l.headD 0) then ib l
 else jK l
theorem sZ (c:Int):c∈qF↔c=60∨c=62∨c=43∨c=45∨c=42∨c=47∨c=94∨c=38∨c=61∨c=37:=by simp [qF]
theorem G5 {l:List Int} (hp:l.all (fun c=>bL c)=true) (hl:l.length≤256):dA l=bH l:=by
 have hF:dA l=match fS l with
  |some x=>some x
  |none=>match nG l with
   |some x=>some x
   |none=>match ib l with
    |some x=>some x
    |none=>jK l:=by
  unfold dA nJ mW jK
  cases fS l<;>simp only [mW]
  cases nG l<;>simp only
  cases ib l<;>simp only
  cases lr l<;>simp only
  cases iK l<;>rfl
 rw [hF]
 unfold bH
 by_cases h1:aJ (l.headD 0)=true
 ·
  have h1' :=(eU _).1 h1
  rw [if_pos h1,← vN,uV (by omega),pE ((LV _).2 (by omega)),jK,mX (by omega),pL (by rw [sZ];omega) (by omega) (by omega) (by omega)]
  cases fS l<;>rfl
 ·
  rw [if_neg h1]
  have h1' :aJ (l.headD 0)=false:=by simpa using h1
  rw [zK h1']
  by_cases h2:l.headD 0=34
  ·
   rw [if_pos h2]
   cases l with
   |nil=>cases h2
   |cons c r=>
    simp only [Qx] at h2
    subst h2
    rw [Jp hp (by simp only [Pe] at hl;omega),List.tail_cons,pE (by rw [Qx];decide),jK,mX (by rw [Qx];decide),pL (by rw [Qx];decide) (by rw [Qx];decide) (by rw [Qx];decide) (by rw [Qx];decide)]
    cases lc r<;>rfl
  ·
   rw [if_neg h2,uV h2]
   by_cases h3:cf (l.headD 0)=true
   ·
    have h3' :=(iy _).1 h3
    rw [if_pos h3,jK,mX (by omega),pL (by rw [sZ];omega) (by omega) (by omega) (by omega)]
    cases ib l<;>rfl
   ·
    rw [if_neg h3,pE (by simpa using h3)]
theorem DT {l:List Int} (hp:l.all (fun c=>bL c)=true) (hl:l.length≤256): ∀ f i,bo dA l f i=bo bH l f i:=by
 intro f
 induction f with
 |zero=>intro i;rfl
 |succ f ih=>
  intro i
  simp only [bo]
  have h1:(l.drop i).all (fun c=>bL c)=true:=by
   rw [Qo] at hp ⊢
   exact fun x hx=>hp x (QA hx)
  rw [G5 h1 (by rw [Pp];omega)]
  simp only [ih]
theorem DS (l:List Int):bw dA l=bw bH l:=by
 unfold bw
 split
 ·
  rfl
 ·
  rename_i hl
  cases h:l.findIdx? (fun c=> !bL c) with
  |some i=>rfl
  |none=>
   simp only
   rw [DT _ (by omega)]
   rw [Qg] at h
   rw [Qo]
   intro x hx
   have:=h x hx
   simpa using this
def Chain:List Tk→Prop
 | []=>True
 |t::r=>(1≤t.kind∧t.kind≤11)∧(t.kind=7→(r.headD dq).kind=9)∧Chain r
theorem E4 {l:List Int} {t:Tk} {n:Nat} (h:lr l=some (t,n)):t.kind=4:=by
 unfold lr at h
 obtain ⟨x,_,hx⟩:=P7.1 h
 cases hx;rfl
theorem Ef {l:List Int} {t:Tk} {n:Nat} (h:iK l=some (t,n)):8≤t.kind∧t.kind≤11:=by
 unfold iK at h
 split at h
 ·
  cases h;simp
 ·
  split at h
  ·
   cases h;simp
  ·
   split at h
   ·
    cases h;simp
   ·
    split at h
    ·
     cases h;simp
    ·
     cases h
theorem Ee {l:List Int} {t:Tk} {n:Nat} (h:jK l=some (t,n)):(1≤t.kind∧t.kind≤11)∧t.kind≠7:=by
 unfold jK at h
 split at h
 ·
  rename_i x hx
  cases h
  have:=E4 hx
  omega
 ·
  have:=Ef h
  omega
theorem Dx {l:List Int} {t:Tk} {n:Nat} (h:ib l=some (t,n)):(1≤t.kind∧t.kind≤11)∧(t.kind=7→(l.drop n).headD 0=40):=by
 unfold ib at h
 split at h
 ·
  cases h
 ·
  split at h
  ·
   rename_i h1
   cases h
   exact ⟨by simp,fun _=>h1⟩
  ·
   split at h
   ·
    cases h;simp
   ·
    split at h
    ·
     cases h;simp
    ·
     split at h
     ·
      cases h
     ·
      split at h
      ·
       cases h
       simp only
       split<;>simp
      ·
       cases h;simp
theorem Bt {l:List Int} {t:Tk} {n:Nat} (h:bH l=some (t,n)):(1≤t.kind∧t.kind≤11)∧(t.kind=7→(l.drop n).headD 0=40):=by
 unfold bH at h
 split at h
 ·
  obtain ⟨x,_,hx⟩:=P7.1 h
  cases hx;simp
 ·
  split at h
  ·
   obtain ⟨x,_,hx⟩:=P7.1 h
   cases hx;simp
  ·
   split at h
   ·
    exact Dx h
   ·
    have:=Ee h
    exact ⟨this.1,fun e=>absurd e this.2⟩
theorem nF (l:List Int):Fits l (bH l):=by
 intro t n h
 by_cases hd:aJ (l.headD 0)=true
 ·
  unfold bH at h
  rw [if_pos hd,← vN] at h
  exact s5 l t n h
 ·
  unfold bH at h
  rw [if_neg hd] at h
  split at h
  ·
   rename_i hq
   cases l with
   |nil=>cases hq
   |cons c r=>
    obtain ⟨⟨x,m⟩,hx,he⟩:=P7.1 h
    cases he
    rw [List.tail_cons,Bv r.length r (Ph _)] at hx
    obtain ⟨k,hk,hk2⟩:=Option.bind_eq_some_iff.1 hx
    obtain ⟨y,_,hy⟩:=P7.1 hk2
    cases hy
    have:=oQ r.length r k (Ph _) hk
    simp only [Pe]
    omega
  ·
   split at h
   ·
    exact xE l t n h
   ·
    unfold jK at h
    split at h
    ·
     rename_i x hx
     cases h
     exact yC l t n hx
    ·
     exact xX l t n h
theorem Bs {l:List Int} (h:l.headD 0=40): ∃ n,bH l=some (⟨9,0,ay,aW,0⟩,n):=by
 unfold bH
 rw [h,if_neg (by decide),if_neg (by decide),if_neg (by decide),jK,mX (by omega)]
 simp only
 unfold iK
 rw [vL (by rw [h];decide) fk (by decide)]
 simp only [h,if_true]
 exact ⟨1,rfl⟩
theorem zq {l:List Int} {f i:Nat} {r:List Tk} (h:bo bH l (f+1) i= .ok r) (h1:(l.drop i).headD 0=40):(r.headD dq).kind=9:=by
 simp only [bo] at h
 cases hd:l.drop i with
 |nil=>rw [hd] at h1;cases h1
 |cons c q=>
  rw [hd] at h1 h
  simp only [Qx] at h1
  subst h1
  obtain ⟨n,hn⟩:=Bs (l:=40::q) rfl
  simp only [hn] at h
  rw [if_neg (by decide)] at h
  cases hr:bo bH l f (i+n) with
  |error e=>rw [hr] at h;cases h
  |ok r' =>rw [hr] at h;cases h;rfl
theorem xe {l:List Int}: ∀ (f i:Nat) (r:List Tk),l.length - i≤f→bo bH l f i= .ok r→Chain r:=by
 intro f
 induction f with
 |zero=>intro i r _ h;cases h;trivial
 |succ f ih=>
  intro i r hf h
  simp only [bo] at h
  cases hd:l.drop i with
  |nil=>rw [hd] at h;cases h;trivial
  |cons c q=>
   rw [hd] at h
   have hlen:(l.drop i).length=q.length+1:=by rw [hd];rfl
   rw [Pp] at hlen
   simp only at h
   split at h
   ·
    exact ih (i+1) r (by omega) h
   ·
    cases ht:bH (c::q) with
    |none=>rw [ht] at h;cases h
    |some x=>
     obtain ⟨t,n⟩:=x
     rw [ht] at h
     simp only at h
     have hfit:=nF _ t n ht
     cases hr:bo bH l f (i+n) with
     |error e=>rw [hr] at h;cases h
     |ok r' =>
      rw [hr] at h
      cases h
      have hk:=Bt ht
      refine ⟨hk.1,fun h7=> ?_,ih (i+n) r' (by omega) hr⟩
      have h40:=hk.2 h7
      rw [← hd,Qy] at h40
      cases f with
      |zero=>
       have:l.drop (i+n)= []:=by rw [Sy];omega
       rw [this] at h40;cases h40
      |succ f=>exact zq hr h40
theorem xd (l:List Int):Chain (bw bH l).1:=by
 unfold bw
 split
 ·
  trivial
 ·
  split
  ·
   trivial
  ·
   split
   ·
    rename_i r hr
    exact xe _ _ _ (by omega) hr
   ·
    trivial
theorem Chain.drop: ∀ {l:List Tk} (k:Nat),Chain l→Chain (l.drop k)
 |l,0,h=>h
 | [],k+1,h=>h
 |_::_,k+1,h=>Chain.drop k h.2.2
theorem Chain.name {l:List Tk} {fin:Int} (h:Chain l) (h7:(hdT fin l).kind=7):(hdT fin l.tail).kind=9:=by
 cases l with
 |nil=>cases h7
 |cons t r=>
  have h9:=h.2.1 h7
  cases r with
  |nil=>cases h9
  |cons u r=>exact h9
theorem Chain.kind {l:List Tk} {fin:Int} (h:Chain l):(hdT fin l).kind=0↔l= []:=by
 cases l with
 |nil=>exact ⟨fun _=>rfl,fun _=>rfl⟩
 |cons t r=>
  have:=h.1
  constructor
  ·
   intro e
   simp only [hdT,Qx] at e
   omega
  ·
   intro e;cases e
end Go.SL
namespace Go.SL
open Go Go.Proofs
attribute [local irreducible] W WL WQ WG WA WX WLI WR WT WC VOp RW thn blk bZ scp bA bV ck FnAt FnIn FnP ceP
instance fldTk1:FldT Tryz.prog 291 1 2 1:=⟨_,_,Tryz.underlying291,rfl,rfl,rfl⟩
instance fldTk4:FldT Tryz.prog 291 4 3 7:=⟨_,_,Tryz.underlying291,rfl,rfl,rfl⟩
def rC (sa:ByteArray) (A:Option Nat) (n cap k:Nat) (B:Option Nat) (m cb:Nat) (at_ e:Int):List Value:= [.string sa,sl A n cap,.int .i64 (k:Int),sl B m cb,.int .i64 at_,.int .i64 e]
def rB (g:Nat) (sa:ByteArray) (A:Option Nat) (cap:Nat) (toks:List Tk) (k:Nat) (B:Option Nat) (cb:Nat) (out:List Nd) (at_ e:Int):List Blk:=
 [.box g 301 (rC sa A toks.length cap k B out.length cb at_ e),.own A 291 8 toks.length cap (toks.flatMap bk),.own B 157 11 out.length cb (out.flatMap bg)]
theorem OA {A:Option Nat} {cap:Nat} {toks:List Tk} {w0 w:World} {H:List Blk} (hm:Mem w0 w H) (hi:In (.own A 291 8 toks.length cap (toks.flatMap bk)) H) {k:Nat} (hk:k<toks.length): ∃ ga,A=some ga∧Ro w ga 0 (toks.flatMap bk):=by
 obtain ⟨_,_,_,h4⟩:=(hm.on _ hi.mem).1
 cases A with
 |none=>obtain ⟨h5,_⟩:=h4;omega
 |some ga=>exact ⟨ga,rfl,Ro.of_own hm hi⟩
theorem Cb (g:Nat) (sa:ByteArray) (hsa:sa.size≤1000) (A:Option Nat) (cap:Nat) (toks:List Tk) (ht1:toks.length≤1000) (k:Nat) (B:Option Nat) (m cb:Nat) (at_ e:Int) (w:World) (hr:Ro w g 0 (rC sa A toks.length cap k B m cb at_ e))
  (ht:k<toks.length→ ∃ ga,A=some ga∧Ro w ga 0 (toks.flatMap bk)):aF Tryz.prog 217 [.pointer (some ⟨g,0,none⟩)] w (.agg (bk (hdT (sa.size:Int) (toks.drop k))).toArray):=by
 refine aA Tryz.func217 rfl Tryz.ntmps217 rfl ?_
 unfold rC at hr
 by_cases hlt:k<toks.length
 ·
  rw [Ga hlt]
  obtain ⟨ga,rfl,hra⟩:=ht hlt
  have hra' :=hra.elem yF k hlt
  repeat' (first|(apply dF (id:=1);kernel_rfl;kernel_rfl)|(apply aP;exact rfl;apply aN (o:=0) (off:=1);exact hr;exact rfl;exact rfl)|(apply aP;exact rfl;apply aN (o:=0) (off:=2);exact hr;exact rfl;exact rfl)|refine sT ?_|refine sS ?_|refine sQ ?_|refine sM fun _=> ?_|(refine sC ?_ ?_<;>intro hb<;>try omega)|(refine sCQ ?_ ?_<;>intro hb<;>try omega)|fail)
  all_goals try (exfalso;omega)
  rename_i g2
  refine fj (id:=2) [10] [] [] (by kernel_rfl) (by kernel_rfl) (by kernel_rfl) mS ?_
  repeat' (first|(apply ep;(iterate 3 exact rfl);apply aN (o:=0) (off:=1);exact hr;exact rfl;exact rfl)|(apply ep;(iterate 3 exact rfl);apply aN (o:=0) (off:=2);exact hr;exact rfl;exact rfl)|(apply ep;(iterate 3 exact rfl);apply ag (j:=k);exact rfl;exact rfl;exact hlt)|(apply ep;(iterate 3 exact rfl);apply aZ;exact rfl;exact hra';exact rfl)|refine sT ?_|refine sS ?_|refine sW ?_|refine sM fun _=> ?_|(refine sC ?_ ?_<;>intro hb<;>try omega)|(refine sCW ?_ ?_<;>intro hb<;>try omega)|fail)
  all_goals try (exfalso;omega)
  (refine eRC ?_)
  rfl
 ·
  rw [uf (by omega)]
  repeat' (first|(apply dF (id:=1);kernel_rfl;kernel_rfl)|(apply aP;exact rfl;apply aN (o:=0) (off:=1);exact hr;exact rfl;exact rfl)|(apply aP;exact rfl;apply aN (o:=0) (off:=2);exact hr;exact rfl;exact rfl)|(apply aj;exact rfl;apply aN (o:=0) (off:=0);exact hr;exact rfl;exact rfl)|refine sT ?_|refine sS ?_|refine sQ ?_|refine sM fun _=> ?_|(refine sC ?_ ?_<;>intro hb<;>try omega)|(refine sCQ ?_ ?_<;>intro hb<;>try omega)|fail)
  all_goals try (exfalso;omega)
  (refine eRC ?_)
  rfl
theorem vz {g:Nat} {sa:ByteArray} (hsa:sa.size≤1000) {A:Option Nat} {cap:Nat} {toks:List Tk} (ht1:toks.length≤1000) {k:Nat} {B:Option Nat} {cb:Nat} {out:List Nd} {at_ e:Int} {t:Tk} (hd:hdT (sa.size:Int) (toks.drop k)=t) {H:List Blk} {w0:World} (hH:MSub (rB g sa A cap toks k B cb out at_ e) H) (w:World) (hm:Mem w0 w H):
  aF Tryz.prog 217 [.pointer (some ⟨g,0,none⟩)] w (.agg (bk t).toArray):=by
 have hm' :=hH.use hm
 rw [← hd]
 exact Cb g sa hsa A cap toks ht1 k B out.length cb at_ e w (Ro.of_box hm' .hd) fun hlt=>OA hm' (.tl .hd) hlt
theorem Hw (op:Int) (w:World):aF Tryz.prog 303 [.int .i64 op] w (.tuple #[.int .i64 (gS op),.bool (decide (op=5)),.int .i64 (if gS op=0 then 2 else 0)]):=by
 refine aA Tryz.func303 rfl Tryz.ntmps303 rfl ?_
 repeat' (first|refine sT ?_|refine sM fun _=> ?_|(refine sC ?_ ?_<;>intro hb<;>try omega)|fail)
 all_goals ((refine rT3 ?_);simp_all [gS];try omega)
theorem Nt (q:Int) {g:Nat} {sa:ByteArray} (hsa:sa.size≤1000) {A:Option Nat} {cap:Nat} {toks:List Tk} (ht1:toks.length≤1000) {k:Nat} {B:Option Nat} {cb:Nat} {out:List Nd} {at_ e:Int} {t:Tk} (hd:hdT (sa.size:Int) (toks.drop k)=t) {H:List Blk} {w0:World} (hH:MSub (rB g sa A cap toks k B cb out at_ e) H) (w:World) (hm:Mem w0 w H):
  aF Tryz.prog 259 [.pointer (some ⟨g,0,none⟩),.int .i64 q] w (.bool (decide (t.kind=8∧gS t.num=q))):=by
 have hm0:=hH.use hm
 refine aA Tryz.func259 rfl Tryz.ntmps259 rfl ?_
 have hh: ∀ w' H',Mem w w' H' →aF Tryz.prog 217 [.pointer (some ⟨g,0,none⟩)] w' (.agg (bk t).toArray):=fun w' H' hm' =>by
  rw [← hd]
  refine Cb g sa hsa A cap toks ht1 k B out.length cb at_ e w' ((Ro.of_box hm0 .hd).next hm') fun hlt=> ?_
  obtain ⟨ga,h1,h2⟩:=OA hm0 (.tl .hd) hlt
  exact ⟨ga,h1,h2.next hm'⟩
 repeat' (first|(apply aa (f:=217);exact rfl;exact rfl;(intro w' hm';exact hh w' _ hm'))|(apply aa (f:=303);exact rfl;exact rfl;(intro w' _;exact Hw _ w'))|refine sT ?_|refine sS ?_|refine sM fun _=> ?_|(refine sC ?_ ?_<;>intro hb<;>try omega)|fail)
 all_goals ((refine rT1 ?_);simp_all)
theorem fR (g:Nat) (sa:ByteArray) (A:Option Nat) (n cap k:Nat) (B:Option Nat) (m cb:Nat) (at_ e a2 e2:Int) (R:List Blk) (w0:World):
  FnIn Tryz.prog 216 [.pointer (some ⟨g,0,none⟩),.int .i64 a2,.int .i64 e2] w0 (.box g 301 (rC sa A n cap k B m cb at_ e)::R) fun v H=>v= .tuple #[]∧H= .box g 301 (rC sa A n cap k B m cb (if e=0 then a2 else at_) (if e=0 then e2 else e))::R:=by
 refine bM Tryz.func216 rfl Tryz.ntmps216 rfl ?_
 unfold rC
 by_cases he:e=0
 ·
  subst he
  rw [if_pos rfl,if_pos rfl]
  repeat' (first|refine sT ?_|refine sS ?_|refine sM fun _=> ?_|(refine sC ?_ ?_<;>intro hb<;>try omega)|fail)
  all_goals first|(exfalso;omega)|exact jv eIO rfl mS ⟨rfl,rfl⟩
 ·
  rw [if_neg he,if_neg he]
  repeat' (first|refine sT ?_|refine sS ?_|refine sM fun _=> ?_|(refine sC ?_ ?_<;>intro hb<;>try omega)|fail)
  all_goals first|(exfalso;omega)|exact jv eIO rfl mS ⟨rfl,rfl⟩
theorem lU (c:Int) {g:Nat} {sa:ByteArray} (hsa:sa.size≤1000) {A:Option Nat} {cap:Nat} {toks:List Tk} (ht1:toks.length≤1000) {k:Nat} (hk1:k≤2000) {B:Option Nat} {cb:Nat} {out:List Nd} {at_ e:Int} {t:Tk} (hd:hdT (sa.size:Int) (toks.drop k)=t) (hc:t.kind=c) (R:List Blk) (w0:World):
  FnIn Tryz.prog 340 [.pointer (some ⟨g,0,none⟩),.int .u8 c] w0 (rB g sa A cap toks k B cb out at_ e++R) fun v H=>v= .tuple #[]∧H=rB g sa A cap toks (k+1) B cb out at_ e++R:=by
 refine bM Tryz.func340 rfl Tryz.ntmps340 rfl ?_
 have hh:=fun w hm=>vz (g:=g) hsa ht1 hd (B:=B) (cb:=cb) (out:=out) (at_:=at_) (e:=e) (A:=A) (cap:=cap) (w0:=w0) (H:=rB g sa A cap toks k B cb out at_ e++R) ⟨R,.refl _⟩ w hm
 unfold rB rC at hh ⊢
 repeat' (first|(apply aj;exact rfl;apply dz;exact rfl;exact rfl)|(apply aa (f:=217);exact rfl;exact rfl;exact hh)|refine sT ?_|refine sS ?_|refine sT2 ?_|refine sN ?_|refine sM fun _=> ?_|(refine sC ?_ ?_<;>intro hb<;>try omega)|fail)
 all_goals first
  |(exfalso;omega)
  |exact jv eIO rfl (.refl _) ⟨rfl,rfl⟩
theorem vw (c:Int) {g:Nat} {sa:ByteArray} (hsa:sa.size≤1000) {A:Option Nat} {cap:Nat} {toks:List Tk} (ht1:toks.length≤1000) {k:Nat} {B:Option Nat} {cb:Nat} {out:List Nd} {at_ e:Int} {t:Tk} (hd:hdT (sa.size:Int) (toks.drop k)=t) (hc:t.kind≠c) (R:List Blk) (w0:World):
  FnIn Tryz.prog 340 [.pointer (some ⟨g,0,none⟩),.int .u8 c] w0 (rB g sa A cap toks k B cb out at_ e++R) fun v H=>v= .tuple #[]∧H=rB g sa A cap toks k B cb out (if e=0 then t.at_ else at_) (if e=0 then 4 else e)++R:=by
 refine bM Tryz.func340 rfl Tryz.ntmps340 rfl ?_
 have hh:=fun w hm=>vz (g:=g) hsa ht1 hd (B:=B) (cb:=cb) (out:=out) (at_:=at_) (e:=e) (A:=A) (cap:=cap) (w0:=w0) (H:=rB g sa A cap toks k B cb out at_ e++R) ⟨R,.refl _⟩ w hm
 unfold rB at hh ⊢
 repeat' (first|(apply aj;exact rfl;apply dz;exact rfl;exact rfl)|(apply aa (f:=217);exact rfl;exact rfl;exact hh)|(apply ak (f:=216);exact rfl;exact rfl;exact FnIn.msub (fR g sa A _ cap k B _ cb at_ e _ _ _ _) (MSub.pick .hd (.refl _));rintro _ _ ⟨rfl,rfl⟩)|refine sT ?_|refine sS ?_|refine sT2 ?_|refine sN ?_|refine sM fun _=> ?_|(refine sC ?_ ?_<;>intro hb<;>try omega)|fail)
 all_goals first
  |(exfalso;omega)
  |exact jv eIO rfl (.refl _) ⟨rfl,rfl⟩
end Go.SL
